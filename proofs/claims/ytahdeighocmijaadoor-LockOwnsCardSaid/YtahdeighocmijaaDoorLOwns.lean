/- Locks: LockOwns. -/
import Derived.Test.YtahdeighocmijaaDoorLMine
namespace Go.Proofs.YtahdeighocmijaaDoor
set_option linter.unusedSimpArgs false
set_option linter.unusedVariables false
open Go.RowKit
open Crc (Bytes)
theorem look_lit (a i b j now : Int) : lookL (some ⟨a, i, 1, 30⟩) b j now = if a = b ∧ i = j ∧ now < 30 then (⟨a, i, 1, 30⟩, 2) else if 30 ≤ now ∨ (a = b ∧ i < j) then (⟨a, i, 1, 30⟩, 3) else (⟨a, i, 1, 30⟩, 4) := by
  unfold lookL
  exact if_neg (show ¬ (1 : Int) = lkTop by decide)
theorem owns_run (a i b j now : Nat) (ha : a < 100) (hi : i < 100) (hb : b < 100) (hj : j < 100) (hn : now ≤ 31) {S1 : Fs} (hS : LC nmC 10000 S1 (some (Lk.bytes ⟨a, i, 1, 30⟩, 1))) (ho : openLk (Lk.bytes ⟨a, i, 1, 30⟩) = some ⟨a, i, 1, 30⟩) :
    ∃ m X k t S2, TRun now S1 (tk0 nmC (tmpOf b j 3) b j 30) m X k t S2 ∧
      ((a = b ∧ i = j ∧ now < 30) → k = 1 ∧ t.l = ⟨a, i, 1, 30⟩) ∧
      (¬ (a = b ∧ i = j ∧ now < 30) → (30 ≤ now ∨ (a = b ∧ i < j)) → k = 1 ∧ t.l = ⟨b, j, 2, now + 30⟩) ∧
      (¬ (a = b ∧ i = j ∧ now < 30) → ¬ (30 ≤ now ∨ (a = b ∧ i < j)) → k = 2) := by
  have hc : clampN (now : Int) = now := clamp_le (by omega) (by omega)
  by_cases h1 : a = b ∧ i = j ∧ now < 30
  · have h1' : (a : Int) = b ∧ (i : Int) = j ∧ (now : Int) < 30 := by omega
    obtain ⟨X, t, q, r, q2, _, _⟩ := take_one hS nmC_ok (by decide) (tmpOf b j 3) b j 30 now (tmp_size _ _ _) (by decide) (by decide) ⟨a, i, 1, 30⟩ 2 (by rw [ho, hc, look_lit, if_pos h1']) (by decide)
    obtain ⟨rfl, _, _, b3⟩ := q2 rfl
    exact ⟨1, X, 1, t, S1, r, fun _ => ⟨rfl, b3⟩, fun h => absurd h1 h, fun h => absurd h1 h⟩
  · have h1' : ¬ ((a : Int) = b ∧ (i : Int) = j ∧ (now : Int) < 30) := by omega
    by_cases h2 : 30 ≤ now ∨ (a = b ∧ i < j)
    · have h2' : (30 : Int) ≤ now ∨ ((a : Int) = b ∧ (i : Int) < j) := by omega
      obtain ⟨X, t, S2, r, _, _, b3, _, _⟩ := take_open hS nmC_ok (by decide) (tmpOf b j 3) b j 30 now (tmp_size _ _ _) (by decide) (by decide) ⟨a, i, 1, 30⟩ (by rw [ho, hc, look_lit, if_neg h1', if_pos h2']) (by simp) (by simp) (tmp_ok _ _ _ hb hj (by decide)) (tmp_ne _ _ _) (by rw [Lk.bytes_len]; decide)
      exact ⟨3, X, 1, t, S2, r, fun h => absurd h h1, fun _ _ => ⟨rfl, by rw [b3, hc]; rfl⟩, fun _ h => absurd h2 h⟩
    · have h2' : ¬ ((30 : Int) ≤ now ∨ ((a : Int) = b ∧ (i : Int) < j)) := by omega
      obtain ⟨X, t, q, r, _, q4, _⟩ := take_one hS nmC_ok (by decide) (tmpOf b j 3) b j 30 now (tmp_size _ _ _) (by decide) (by decide) ⟨a, i, 1, 30⟩ 4 (by rw [ho, hc, look_lit, if_neg h1', if_neg h2']) (by decide)
      obtain rfl := q4 rfl
      exact ⟨1, X, 2, t, S1, r, fun h => absurd h h1, fun _ h => absurd h h2, fun _ _ => rfl⟩
set_option maxRecDepth 100000 in
set_option maxHeartbeats 1000000 in
theorem lockowns_any (a0 i0 b0 j0 now0 : Int) (w : World) : Calls Tryd.prog 3 #[.int .i64 a0, .int .i64 i0, .int .i64 b0, .int .i64 j0, .int .i64 now0] w fun e w' => e = .returned (.bool true) ∧ Below w.heap.size w w' := by
  obtain ⟨a, ha, ha1⟩ := maskN 2 (by decide) a0 3 (by decide)
  obtain ⟨b, hb, hb1⟩ := maskN 2 (by decide) b0 3 (by decide)
  obtain ⟨i, hi, hi1⟩ := maskN 3 (by decide) i0 7 (by decide)
  obtain ⟨j, hj, hj1⟩ := maskN 3 (by decide) j0 7 (by decide)
  obtain ⟨n, hn, hn1⟩ := maskN 5 (by decide) now0 31 (by decide)
  obtain ⟨i2, hi2⟩ : ∃ x, x = i + 1 := ⟨_, rfl⟩
  obtain ⟨j2, hj2⟩ : ∃ x, x = j + 1 := ⟨_, rfl⟩
  have hwi : IntKind.i64.wrap ((i : Int) + 1) = (i2 : Int) := by rw [IntKind.wrap_i64]; omega
  have hwj : IntKind.i64.wrap ((j : Int) + 1) = (j2 : Int) := by rw [IntKind.wrap_i64]; omega
  obtain ⟨X1, t, S1, r1, ⟨g1, g2, g3⟩, c1, len0, len1, ho⟩ := first_run a i2 (by omega) (by omega)
  obtain ⟨m2, X2, k, u, S2, r2, u1, u2, u3⟩ := owns_run a i2 b j2 n (by omega) (by omega) (by omega) (by omega) (by omega) c1 ho
  have R1 := Lib.hid r1
  have R2 := Lib.hid r2
  have HU := Lib.hid (And.intro u1 (And.intro u2 u3))
  have hk2 : i2 < 100 := by omega
  have hk3 : j2 < 100 := by omega
  have HI := Lib.hid hi2
  have HJ := Lib.hid hj2
  clear r1 r2 c1 ho u1 u2 u3 hi2 hj2
  go_enter Tryd.func3, Tryd.ntmps3
  go_wp2_with fail
  refine (new_h w 10000).mono ?_
  rintro e w1 ⟨fb, mb, rfl, h0⟩
  have H0 := Lib.hid h0
  clear h0
  go_wp2_with fail
  refine (taken_any a i2 0 H0.out R1.out (by omega) hk2 (by decide) len0).mono ?_
  rintro e w2 ⟨rfl, h2, o2⟩
  rw [show takenV 1 t = heldV t from rfl]
  unfold heldV lkV
  rw [g1, g2, g3]
  have H2 := Lib.hid h2
  clear h2 o2 H0
  go_wp2_with fail
  refine (taken_any b j2 n H2.out.alloc.alloc R2.out (by omega) hk3 (by omega) len1).mono ?_
  rintro e w3 ⟨rfl, h3, o3⟩
  have HF3 := Lib.hid h3
  clear h3 o3 H2 R1 R2
  clear ha hb hi hj hn hwi hwj g1 g2 g3 len0 len1
  by_cases q1 : a = b ∧ i2 = j2 ∧ n < 30
  · obtain ⟨rfl, x⟩ := HU.out.1 q1
    rw [show takenV 1 u = heldV u from rfl]
    unfold heldV lkV
    rw [x]
    obtain ⟨rfl, rfl, y3⟩ := q1
    have y4 : (n : Int) < 30 := by omega
    have y5 : ¬ (30 : Int) ≤ n := by omega
    clear HU x
    go_upto_region 10 with fail; go_wp2_with fail; refine (awake13_any _).mono ?_; rintro e w4 ⟨rfl, hb⟩; have HF4 := Lib.hid (HF3.out.alloc.alloc.below hb); clear hb; go_wp2_with fail; go_ret; exact ⟨rfl, HF4.out.bel⟩
  · by_cases q2 : 30 ≤ n ∨ (a = b ∧ i2 < j2)
    · obtain ⟨rfl, x⟩ := HU.out.2.1 q1 q2
      rw [show takenV 1 u = heldV u from rfl]
      unfold heldV lkV
      rw [x]
      clear HU x
      by_cases y1 : (30 : Int) ≤ n
      · have y2 : ¬ (n : Int) < 30 := by omega
        have z1 : decide ((n : Int) < 30) = false := decide_eq_false y2
        clear q1 q2
        by_cases y6 : (a : Int) = b <;> by_cases y7 : (i2 : Int) = j2 <;> (try rw [← y6]) <;> (try rw [← y7])
        all_goals (go_upto_region 10 with fail; go_wp2_with fail; refine (awake13_any _).mono ?_; rintro e w4 ⟨rfl, hb⟩; have HF4 := Lib.hid (HF3.out.alloc.alloc.below hb); clear hb; go_wp2_with fail; go_ret; exact ⟨rfl, HF4.out.bel⟩)
      · have y2 : (n : Int) < 30 := by omega
        have y3 : a = b := by omega
        have y4 : ¬ (i2 : Int) = j2 := by omega
        have y5 : (i2 : Int) ≤ j2 := by omega
        subst y3
        clear q1 q2
        go_upto_region 10 with fail; go_wp2_with fail; refine (awake13_any _).mono ?_; rintro e w4 ⟨rfl, hb⟩; have HF4 := Lib.hid (HF3.out.alloc.alloc.below hb); clear hb; go_wp2_with fail; go_ret; exact ⟨rfl, HF4.out.bel⟩
    · obtain rfl := HU.out.2.2 q1 q2
      rw [show takenV 2 u = noneV from rfl]
      unfold noneV lkV lk0
      have y1 : ¬ (30 : Int) ≤ n := by omega
      have z1 : decide ((30 : Int) ≤ n) = false := decide_eq_false y1
      by_cases y6 : (a : Int) = b
      · have y7 : ¬ i2 ≤ j2 := by omega
        have z2 : decide (i2 ≤ j2) = false := decide_eq_false y7
        clear q1 q2 HU
        go_upto_region 10 with fail; go_wp2_with fail; refine (awake13_any _).mono ?_; rintro e w4 ⟨rfl, hb⟩; have HF4 := Lib.hid (HF3.out.alloc.alloc.below hb); clear hb; go_wp2_with fail; go_ret; exact ⟨rfl, HF4.out.bel⟩
      · clear q1 q2 HU
        go_upto_region 10 with fail; go_wp2_with fail; refine (awake13_any _).mono ?_; rintro e w4 ⟨rfl, hb⟩; have HF4 := Lib.hid (HF3.out.alloc.alloc.below hb); clear hb; go_wp2_with fail; go_ret; exact ⟨rfl, HF4.out.bel⟩
end Go.Proofs.YtahdeighocmijaaDoor
