/- The document's names (fettleref4): Ok, File. -/
import Derived.Test.YtkbgedaogfcdnaaName
import Derived.Lib.IndexLaws
import Derived.Lib.Hide
import Derived.Deep.DeepCutAuto
namespace Go.Proofs.Ytkbgedaogfcdnaa
set_option linter.unusedSimpArgs false
set_option linter.unusedVariables false
open Go.RowKit

theorem index_at {l : List UInt8} {c : UInt8} {k : Nat} (h : l[k]? = some c) (hn : ∀ j, j < k → l[j]? ≠ some c) : Lib.indexByte l c = (k : Int) := by
  rcases Int.lt_or_le (Lib.indexByte l c) 0 with h0 | h0
  · have := Lib.indexByte_ge l c
    exact absurd h (Lib.indexByte_none (show Lib.indexByte l c = -1 by omega) k)
  · obtain ⟨o, ho⟩ := Int.eq_ofNat_of_zero_le h0
    obtain ⟨h1, h2⟩ := Lib.indexByte_some ho
    rcases Nat.lt_trichotomy o k with h3 | h3 | h3
    · exact absurd h1 (hn o h3)
    · rw [ho, h3]
    · exact absurd h (h2 k h3)
theorem index_no {l : List UInt8} {c : UInt8} (hn : ∀ j : Nat, l[j]? ≠ some c) : Lib.indexByte l c = -1 := by
  rcases Int.lt_or_le (Lib.indexByte l c) 0 with h0 | h0
  · have := Lib.indexByte_ge l c; omega
  · obtain ⟨o, ho⟩ := Int.eq_ofNat_of_zero_le h0
    exact absurd (Lib.indexByte_some ho).1 (hn o)
theorem byte_at {s : ByteArray} {k : Nat} (hk : k < s.size) : s.data.toList[k]? = some s[k] := by
  rw [List.getElem?_eq_getElem (by simpa using hk)]
  simp; rfl
set_option maxRecDepth 100000 in
set_option maxHeartbeats 4000000 in
theorem rok4_any (s : ByteArray) (w : World) (hs : s.size ≤ 140737488355328) : Calls Try.prog 53 #[.string s] w fun e w' => e = .returned (.bool (okB s)) ∧ w = w' := by
  go_enter Try.func53, Try.ntmps53
  go_wp2_with fail
  go_loopw [3] (fun i wr => ∃ k : Nat, k ≤ s.size ∧ i = .int .i64 k ∧ w = wr ∧ (s.data.toList.take k).all (fun c => letterB c.toNat) = true) (fun i _ => s.size - (intOf i).toNat)
  case atStart => exact ⟨0, by omega, rfl, rfl, by simp⟩
  case round =>
    obtain ⟨k, hk, rfl, rfl, hall⟩ := hrel
    by_cases hks : k < s.size
    · have Hall := Lib.hid hall
      clear hall
      have Hst := Lib.hid (all_step hks)
      have Hbad := Lib.hid (fun hl => all_bad hks hl)
      go_upto_region 5 with fail
      obtain ⟨c, hc⟩ : ∃ c : Int, ((s[k].toNat : Nat) : Int) = c := ⟨_, rfl⟩
      rw [hc]
      have Hc := Lib.hid hc
      clear hc
      go_cut [40] (fun v wx => v = .bool (!letterB c) ∧ wx = w)
      case first =>
        clear Hall Hst Hbad Hc hks hk hs
        by_cases h1 : 97 ≤ c ∧ c ≤ 122
        · have HB := Lib.hid (show letterB c = true by simp [letterB, h1])
          obtain ⟨a1, a2⟩ := h1
          go_wp2_with fail
          go_meet
          exact ⟨by rw [HB.out]; rfl, rfl⟩
        by_cases h2 : 48 ≤ c ∧ c ≤ 57
        · have HB := Lib.hid (show letterB c = true by simp [letterB, h2])
          obtain ⟨a1, a2⟩ := h2
          have h3 : ¬ 97 ≤ c := by omega
          clear h1
          go_wp2_with fail
          go_meet
          exact ⟨by rw [HB.out]; rfl, rfl⟩
        by_cases h3 : c = 46
        · subst h3
          have HB := Lib.hid (show letterB 46 = true by decide)
          clear h1 h2
          go_wp2_with fail
          go_meet
          exact ⟨by rw [HB.out]; rfl, rfl⟩
        by_cases h4 : c = 45
        · subst h4
          have HB := Lib.hid (show letterB 45 = true by decide)
          clear h1 h2 h3
          go_wp2_with fail
          go_meet
          exact ⟨by rw [HB.out]; rfl, rfl⟩
        by_cases h5 : c = 95
        · subst h5
          have HB := Lib.hid (show letterB 95 = true by decide)
          clear h1 h2 h3 h4
          go_wp2_with fail
          go_meet
          exact ⟨by rw [HB.out]; rfl, rfl⟩
        have HB := Lib.hid (show letterB c = false by simp [letterB]; omega)
        have e3 : (c == 46) = false := by simpa using h3
        have e4 : (c == 45) = false := by simpa using h4
        have e5 : (c == 95) = false := by simpa using h5
        have h12 : (¬ 97 ≤ c ∨ ¬ c ≤ 122) ∧ (¬ 48 ≤ c ∨ ¬ c ≤ 57) := by omega
        clear h1 h2 h3 h4 h5
        obtain ⟨p1, p2⟩ := h12
        rcases p1 with p1 | p1 <;> rcases p2 with p2 | p2
        all_goals
          by_cases q1 : 97 ≤ c
          all_goals
            by_cases q2 : 48 ≤ c
            all_goals try omega
            all_goals
              go_wp2_with fail
              go_meet
              exact ⟨by rw [HB.out]; rfl, rfl⟩
      case rest =>
        obtain ⟨rfl, hw⟩ := hcut
        subst hw
        rw [← Hc.out]
        cases hl : letterB ((s[k].toNat : Nat) : Int)
        · have Hb2 := Lib.hid (Hbad.out hl)
          have Hl := Lib.hid hl
          clear hl
          go_wp2_with fail
          go_ret
          exact ⟨by rw [Hb2.out]; rfl, rfl⟩
        · have Hl := Lib.hid hl
          clear hl
          go_wp2_with fail
          exact ⟨⟨k + 1, by omega, by go_num, by trivial, by rw [Hst.out, Hall.out, Hl.out]; rfl⟩, by simp [intOf]; omega⟩
    · have hks' : k = s.size := by omega
      subst hks'
      have hall' : s.data.toList.all (fun c => letterB c.toNat) = true := by
        rwa [List.take_of_length_le (by simp)] at hall
      have Hall := Lib.hid hall'
      clear hall hall' hks
      by_cases h1 : 1 ≤ s.size
      · by_cases h2 : s.size ≤ 16
        · have Hb := Lib.hid (show okB s = true by simp [okB, Hall.out, h1, h2])
          have d2 : decide ((s.size : Int) ≤ 16) = true := decide_eq_true (by omega)
          clear h2
          go_wp2_with fail
          go_ret
          exact ⟨by rw [Hb.out]; first | rfl | (rw [d2]; rfl), rfl⟩
        · have Hb := Lib.hid (show okB s = false by simp [okB, Hall.out, h2])
          have d2 : decide ((s.size : Int) ≤ 16) = false := decide_eq_false (by omega)
          clear h2
          go_wp2_with fail
          go_ret
          exact ⟨by rw [Hb.out]; first | rfl | (rw [d2]; rfl), rfl⟩
      · have Hb := Lib.hid (show okB s = false by simp [okB, Hall.out, h1])
        have h0 : s.size = 0 := by omega
        go_wp2_with fail
        go_ret
        exact ⟨by rw [Hb.out]; rfl, rfl⟩
set_option maxRecDepth 100000 in
set_option maxHeartbeats 4000000 in
theorem rfile4_any (s : ByteArray) (w : World) (hs : s.size ≤ 140737488355328) : Calls Try.prog 38 #[.string s] w fun e w' => e = .returned (.bool (fileB s)) ∧ w = w' := by
  go_enter Try.func38, Try.ntmps38
  go_wp2_with fail
  go_loopw [3] (fun i wr => ∃ k : Nat, k ≤ s.size ∧ i = .int .i64 k ∧ w = wr ∧ Hid (∀ j, j < k → s.data.toList[j]? ≠ some 47)) (fun i _ => s.size - (intOf i).toNat)
  case atStart => exact ⟨0, by omega, rfl, rfl, Lib.hid fun j hj => absurd hj (by omega)⟩
  case round =>
    obtain ⟨k, hk, rfl, rfl, hno⟩ := hrel
    by_cases hks : k < s.size
    · by_cases h47 : s[k] = 47
      · have hsl : slash s = (k : Int) := index_at (by rw [byte_at hks, h47]) hno.out
        have hc : cutS s = (s.extract 0 k, s.extract (k + 1) s.size, true) := by simp [cutS, hsl]
        have Hc := Lib.hid (show fileB s = (okB (s.extract 0 k) && okB (s.extract (k + 1) s.size)) by unfold fileB; rw [hc]; rfl)
        have e47 : (((s[k].toNat : Nat) : Int) == 47) = true := by rw [h47]; rfl
        have hx1 : (s.extract 0 k).size ≤ 140737488355328 := by rw [ByteArray.size_extract]; omega
        have hx2 : (s.extract (k + 1) s.size).size ≤ 140737488355328 := by rw [ByteArray.size_extract]; omega
        have b1 : (k : Int) ≤ (s.size : Int) := by omega
        have b2 : (k : Int) + 1 ≤ (s.size : Int) := by omega
        clear h47 hsl hc
        cases h1 : okB (s.extract 0 k)
        · have H1 := Lib.hid h1
          clear h1
          go_wp2_with (refine (rok4_any _ _ (by assumption)).mono ?_; rintro e w' ⟨rfl, rfl⟩; rw [H1.out])
          go_ret
          exact ⟨by rw [Hc.out, H1.out]; rfl, rfl⟩
        · have H1 := Lib.hid h1
          clear h1
          go_wp2_with (refine (rok4_any _ _ (by assumption)).mono ?_; rintro e w' ⟨rfl, rfl⟩; (try rw [H1.out]))
          go_ret
          exact ⟨by rw [Hc.out, H1.out]; rfl, rfl⟩
      · have e47 : (((s[k].toNat : Nat) : Int) == 47) = false := by
          rw [beq_eq_false_iff_ne]
          intro e
          refine h47 (UInt8.toNat_inj.1 ?_)
          have : s[k].toNat = 47 := by omega
          rw [this]; rfl
        have Hn := Lib.hid h47
        have Hb := Lib.hid (byte_at hks)
        clear h47
        go_wp2_with fail
        refine ⟨⟨k + 1, by omega, by go_num, by trivial, Lib.hid fun j hj => ?_⟩, by simp [intOf]; omega⟩
        by_cases hjk : j = k
        · subst hjk; rw [Hb.out]; intro e; injection e with e; exact Hn.out e
        · exact hno.out j (by omega)
    · have hsl : slash s = -1 := index_no fun j e => by
        have := (List.getElem?_eq_some_iff.1 e).1
        exact hno.out j (by have h2 : s.data.toList.length = s.size := by simp
                            omega) e
      have Hc := Lib.hid (show fileB s = okB s by unfold fileB cutS; rw [if_pos hsl]; simp)
      clear hsl
      go_wp2_with (refine (rok4_any _ _ hs).mono ?_; rintro e w' ⟨rfl, rfl⟩)
      go_ret
      exact ⟨by rw [Hc.out]; rfl, rfl⟩
end Go.Proofs.Ytkbgedaogfcdnaa
