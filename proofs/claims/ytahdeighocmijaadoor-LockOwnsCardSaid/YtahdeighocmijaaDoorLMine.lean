/- Locks: LockMine. -/
import Derived.Test.YtahdeighocmijaaDoorAwake13
import Derived.Test.YtahdeighocmijaaDoorInts
namespace Go.Proofs.YtahdeighocmijaaDoor
set_option linter.unusedSimpArgs false
set_option linter.unusedVariables false
open Go.RowKit
open Crc (Bytes)
theorem lk_num {x : Int} (h0 : 0 ≤ x) (h1 : x ≤ 1099511627776) : numB x = true := by unfold numB; simp; omega
theorem lk_small {l : Lk} (a : 0 ≤ l.who ∧ l.who ≤ 1000) (b : 0 ≤ l.inc ∧ l.inc ≤ 1000) (c : 0 ≤ l.epoch ∧ l.epoch ≤ 1000) (d : 0 ≤ l.till ∧ l.till ≤ 1000000) : l.ok = true := by
  unfold Lk.ok
  rw [lk_num a.1 (by omega), lk_num b.1 (by omega), lk_num c.1 (by omega), lk_num d.1 (by omega)]
  rfl
/-- The first of them: nobody has it. -/
theorem first_run (who inc : Nat) (h1 : who < 100) (h2 : inc < 100) : ∃ X1 t S1,
    TRun 0 (fs0 10000) (tk0 nmC (tmpOf who inc 3) who inc 30) 2 X1 1 t S1 ∧ (t.gn = nmC ∧ t.gs = 1 ∧ t.l = ⟨who, inc, 1, 30⟩) ∧ LC nmC 10000 S1 (some (Lk.bytes ⟨who, inc, 1, 30⟩, 1)) ∧ ((fs0 10000).readF nmC).2.1.length ≤ 100000 ∧ (S1.readF nmC).2.1.length ≤ 100000 ∧ openLk (Lk.bytes ⟨who, inc, 1, 30⟩) = some ⟨who, inc, 1, 30⟩ := by
  have h0 := lc_new nmC 10000 (by decide) (by decide)
  obtain ⟨X1, t, r1, g1, g2, g3⟩ := take_none h0 nmC_ok (by decide) (tmpOf who inc 3) who inc 30 0 (tmp_size _ _ _) (by decide) (by decide) (by decide)
  have e1 : (⟨who, inc, 1, clampN 0 + 30⟩ : Lk) = ⟨who, inc, 1, 30⟩ := by rw [clamp_le (by decide) (by decide)]; rfl
  rw [e1] at r1 g3
  have hS := h0.write (Lk.bytes ⟨who, inc, 1, 30⟩)
  rw [show (fs0 10000).last + 1 = 1 from rfl] at hS g2
  exact ⟨X1, t, _, r1, ⟨g1, g2, g3⟩, hS, by rw [readF_none nmC_ok h0.c]; decide, by rw [readF_of nmC_ok hS.c, Lk.bytes_len]; decide, openLk_bytes (lk_small ⟨by simp, by simp; omega⟩ ⟨by simp, by simp; omega⟩ ⟨by simp, by simp⟩ ⟨by simp, by simp⟩)⟩
theorem mine_run (who now : Nat) (h1 : who < 100) (hn : now ≤ 31) {S1 : Fs} (hS : LC nmC 10000 S1 (some (Lk.bytes ⟨who, 4, 1, 30⟩, 1))) (ho : openLk (Lk.bytes ⟨who, 4, 1, 30⟩) = some ⟨who, 4, 1, 30⟩) :
    ∃ m X t S2, TRun now S1 (tk0 nmC (tmpOf who 4 3) who 4 30) m X 1 t S2 ∧ ((now : Int) < 30 → t.gn = nmC ∧ t.gs = 1 ∧ t.l = ⟨who, 4, 1, 30⟩) ∧ (¬ (now : Int) < 30 → 1 < t.gs ∧ t.l = ⟨who, 4, 2, now + 30⟩) := by
  have hc : clampN (now : Int) = now := clamp_le (by omega) (by omega)
  by_cases hlt : (now : Int) < 30
  · obtain ⟨X, t, q, r, q2, _, _⟩ := take_one hS nmC_ok (by decide) (tmpOf who 4 3) who 4 30 now (tmp_size _ _ _) (by decide) (by decide) ⟨who, 4, 1, 30⟩ 2 (by rw [ho, hc]; unfold lookL lkTop; simp [hlt]) (by decide)
    obtain ⟨rfl, b1, b2, b3⟩ := q2 rfl
    exact ⟨1, X, t, S1, r, fun _ => ⟨b1, b2, b3⟩, fun h => absurd hlt h⟩
  · obtain ⟨X, t, S2, r, b1, b2, b3, c3, lt3⟩ := take_open hS nmC_ok (by decide) (tmpOf who 4 3) who 4 30 now (tmp_size _ _ _) (by decide) (by decide) ⟨who, 4, 1, 30⟩ (by rw [ho, hc]; unfold lookL lkTop; simp [hlt]) (by simp) (by simp) (tmp_ok _ _ _ h1 (by decide) (by decide)) (tmp_ne _ _ _) (by rw [Lk.bytes_len]; decide)
    exact ⟨3, X, t, S2, r, fun h => absurd h hlt, fun _ => ⟨by rw [b2]; exact lt3, by rw [b3, hc]; rfl⟩⟩
set_option maxRecDepth 100000 in
set_option maxHeartbeats 1000000 in
theorem lockmine_any (who0 now0 : Int) (w : World) : Calls Tryd.prog 4 #[.int .i64 who0, .int .i64 now0] w fun e w' => e = .returned (.bool true) ∧ Below w.heap.size w w' := by
  obtain ⟨a, ha, ha1⟩ := maskN 3 (by decide) who0 7 (by decide)
  obtain ⟨n, hn, hn1⟩ := maskN 5 (by decide) now0 31 (by decide)
  obtain ⟨X1, t, S1, r1, ⟨g1, g2, g3⟩, c1, len0, len1, ho⟩ := first_run a 4 (by omega) (by decide)
  obtain ⟨m2, X2, u, S2, r2, u1, u2⟩ := mine_run a n (by omega) (by omega) c1 ho
  have R1 := Lib.hid r1
  have R2 := Lib.hid r2
  clear r1 r2 c1 ho
  go_enter Tryd.func4, Tryd.ntmps4
  go_wp2_with fail
  refine (new_h w 10000).mono ?_
  rintro e w1 ⟨fb, mb, rfl, h0⟩
  have H0 := Lib.hid h0
  clear h0
  go_wp2_with fail
  refine (taken_any a 4 0 H0.out R1.out (by omega) (by decide) (by decide) len0).mono ?_
  rintro e w2 ⟨rfl, h2, o2⟩
  rw [show takenV 1 t = heldV t from rfl]
  unfold heldV lkV
  rw [g1, g2, g3]
  have H2 := Lib.hid h2
  clear h2 o2 H0
  go_wp2_with fail
  obtain ⟨gb, hgb⟩ : ∃ gb, gb = w2.heap.size := ⟨_, rfl⟩
  obtain ⟨kb, hkb⟩ : ∃ kb, kb = w2.heap.size + 1 := ⟨_, rfl⟩
  rw [← hkb, ← hgb]
  refine at_worldC (fun W => Blk W gb 25 [.string nmC, .int .i64 1] ∧ Blk W kb 27 (lkCells ⟨a, 4, 1, 30⟩) ∧ FsH w W fb mb S1 3) ⟨(blk_new hgb).alloc _, blk_new (by simp [hkb, hgb]), H2.out.alloc.alloc⟩ ?_
  rintro W ⟨k1, k2, k4⟩
  have HG := Lib.hid k1
  have HK := Lib.hid k2
  have HF := Lib.hid k4
  have hgn := k4.ne (Blk.at_ k1) (by decide)
  have hkn := k4.ne (Blk.at_ k2) (by decide)
  clear k1 k2 k4 hgb hkb H2 R1
  refine (taken_any a 4 n HF.out R2.out (by omega) (by decide) (by decide) len1).mono ?_
  rintro e w3 ⟨rfl, h3, o3⟩
  rw [show takenV 1 u = heldV u from rfl]
  unfold heldV lkV
  have HG3 := Lib.hid (HG.out.only o3 hgn)
  have HK3 := Lib.hid (HK.out.only o3 hkn)
  have HF3 := Lib.hid h3
  clear h3 o3 HG HK HF R2
  have hgl := Blk.lt HG3.out
  have hkl := Blk.lt HK3.out
  have a0 : w3.cell? ⟨kb, 0, none⟩ = some (.int .i64 a) := HK3.out.cell 0
  have a1 : w3.cell? ⟨kb, 1, none⟩ = some (.int .i64 4) := HK3.out.cell 1
  have a2 : w3.cell? ⟨kb, 2, none⟩ = some (.int .i64 1) := HK3.out.cell 2
  have a3 : w3.cell? ⟨kb, 3, none⟩ = some (.int .i64 30) := HK3.out.cell 3
  have c0 : w3.cell? ⟨gb, 0, none⟩ = some (.string nmC) := HG3.out.cell 0
  have c1 : w3.cell? ⟨gb, 1, none⟩ = some (.int .i64 1) := HG3.out.cell 1
  by_cases hlt : (n : Int) < 30
  · obtain ⟨x1, x2, x3⟩ := u1 hlt
    rw [x1, x2, x3]
    clear u1 u2 x1 x2 x3
    go_wp2_with fail
    refine (awake13_any _).mono ?_
    rintro e w4 ⟨rfl, hb⟩
    have HF4 := Lib.hid (HF3.out.alloc.alloc.below hb)
    clear hb
    go_wp2_with fail
    go_ret
    exact ⟨rfl, HF4.out.bel⟩
  · obtain ⟨x2, x3⟩ := u2 (by omega)
    rw [x3]
    have hd : decide (1 < u.gs) = true := decide_eq_true x2
    have hw30 : IntKind.i64.wrap ((n : Int) + 30) = n + 30 := by rw [IntKind.wrap_i64]; omega
    clear u1 u2 x3
    go_wp2_with fail
    refine (awake13_any _).mono ?_
    rintro e w4 ⟨rfl, hb⟩
    have HF4 := Lib.hid (HF3.out.alloc.alloc.below hb)
    clear hb
    go_wp2_with fail
    go_ret
    exact ⟨rfl, HF4.out.bel⟩
end Go.Proofs.YtahdeighocmijaaDoor
