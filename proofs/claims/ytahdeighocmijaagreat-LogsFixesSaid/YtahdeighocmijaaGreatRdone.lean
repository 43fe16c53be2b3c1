/- The reference's names and commits: Ok, Done. -/
import Derived.Test.YtahdeighocmijaaGreatRfram
import Derived.Test.YtahdeighocmijaaGreatTrace
namespace Go.Proofs.YtahdeighocmijaaGreat
set_option linter.unusedSimpArgs false
set_option linter.unusedVariables false
open Go.RowKit
open Crc (Bytes)
open Cod (six held dig far numOf)

set_option maxRecDepth 100000 in
set_option maxHeartbeats 2000000 in
theorem qok_any (s : ByteArray) (w : World) (hs : s.size ≤ 140737488355328) : Calls Tryz.prog 22 #[.string s] w fun e w' => e = .returned (.bool (okB s)) ∧ w = w' := by
  go_enter Tryz.func22, Tryz.ntmps22
  go_wp2_with fail
  go_loopw [3] (fun i wr => ∃ k : Nat, k ≤ s.size ∧ i = .int .i64 k ∧ w = wr ∧ Hid ((s.data.toList.take k).all (fun c => letterB c.toNat) = true)) (fun i _ => s.size - (intOf i).toNat)
  case atStart => exact ⟨0, by omega, rfl, rfl, Lib.hid (by simp)⟩
  case round =>
    obtain ⟨k, hk, rfl, rfl, Hall⟩ := hrel
    by_cases hks : k < s.size
    · have Hst := Lib.hid (all_step hks)
      cases hl : letterB (s[k].toNat : Nat)
      · have Hbad := Lib.hid (all_bad hks hl)
        have hlm : ∀ c : Int, letterB c = false → (¬ 97 ≤ c ∨ ¬ c ≤ 122) ∧ (¬ 48 ≤ c ∨ ¬ c ≤ 57) ∧ c ≠ 46 ∧ c ≠ 45 ∧ c ≠ 95 := fun c h => by
          simp [letterB] at h; omega
        obtain ⟨p1, p2, p3, p4, p5⟩ := hlm _ hl
        obtain ⟨c, hc⟩ : ∃ c : Int, (s[k].toNat : Int) = c := ⟨_, rfl⟩
        clear hl hlm
        rw [hc] at p1 p2 p3 p4 p5
        have e3 : (c == 46) = false := by simpa using p3
        have e4 : (c == 45) = false := by simpa using p4
        have e5 : (c == 95) = false := by simpa using p5
        clear p3 p4 p5
        go_upto_region 5 with fail
        (try rw [hc])
        clear hc
        rcases p1 with p1 | p1 <;> rcases p2 with p2 | p2
        all_goals
          by_cases q1 : 97 ≤ c
          all_goals
            by_cases q2 : 48 ≤ c
            all_goals try omega
            all_goals
              go_wp2_with fail
              go_ret
              exact ⟨by rw [Hbad.out]; rfl, rfl⟩
      · have hlm : ∀ c : Int, letterB c = true → (97 ≤ c ∧ c ≤ 122) ∨ ((48 ≤ c ∧ c ≤ 57) ∨ c = 46 ∨ c = 45 ∨ c = 95) := fun c h => by
          simp [letterB] at h; omega
        have p := hlm _ hl
        obtain ⟨c, hc⟩ : ∃ c : Int, (s[k].toNat : Int) = c := ⟨_, rfl⟩
        have hr := Lib.hid (show (s.data.toList.take (k + 1)).all (fun c => letterB c.toNat) = true by rw [Hst.out, Hall.out, hl]; rfl)
        clear hl hlm
        rw [hc] at p
        go_upto_region 5 with fail
        (try rw [hc])
        clear hc
        rcases p with ⟨p1, p2⟩ | ⟨p1, p2⟩ | rfl | rfl | rfl
        · go_wp2_with fail
          exact ⟨⟨k + 1, by omega, by go_num, by trivial, hr⟩, by simp [intOf]; omega⟩
        · have q : ¬ 97 ≤ c := by omega
          go_wp2_with fail
          exact ⟨⟨k + 1, by omega, by go_num, by trivial, hr⟩, by simp [intOf]; omega⟩
        · go_wp2_with fail
          exact ⟨⟨k + 1, by omega, by go_num, by trivial, hr⟩, by simp [intOf]; omega⟩
        · go_wp2_with fail
          exact ⟨⟨k + 1, by omega, by go_num, by trivial, hr⟩, by simp [intOf]; omega⟩
        · go_wp2_with fail
          exact ⟨⟨k + 1, by omega, by go_num, by trivial, hr⟩, by simp [intOf]; omega⟩
    · have hks' : k = s.size := by omega
      subst hks'
      have Hall2 := Lib.hid (show s.data.toList.all (fun c => letterB c.toNat) = true from by
        have := Hall.out
        rwa [List.take_of_length_le (by simp)] at this)
      clear hks
      by_cases h1 : 1 ≤ s.size
      · by_cases h2 : s.size ≤ 16
        · have Hb := Lib.hid (show okB s = true by simp [okB, Hall2.out, h1, h2])
          have d2 : decide ((s.size : Int) ≤ 16) = true := decide_eq_true (by omega)
          clear h2
          go_wp2_with fail
          go_ret
          exact ⟨by rw [Hb.out]; first | rfl | (rw [d2]; rfl), rfl⟩
        · have Hb := Lib.hid (show okB s = false by simp [okB, Hall2.out, h2])
          have d2 : decide ((s.size : Int) ≤ 16) = false := decide_eq_false (by omega)
          clear h2
          go_wp2_with fail
          go_ret
          exact ⟨by rw [Hb.out]; first | rfl | (rw [d2]; rfl), rfl⟩
      · have Hb := Lib.hid (show okB s = false by simp [okB, Hall2.out, h1])
        have h0 : s.size = 0 := by omega
        go_wp2_with fail
        go_ret
        exact ⟨by rw [Hb.out]; rfl, rfl⟩
end Go.Proofs.YtahdeighocmijaaGreat
