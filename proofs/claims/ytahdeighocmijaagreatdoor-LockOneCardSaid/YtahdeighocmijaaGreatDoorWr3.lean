/- Locks: Renew; Write.Held; fettlelaw13.written. -/
import Derived.Test.YtahdeighocmijaaGreatDoorWr2
import Derived.Test.YtahdeighocmijaaGreatDoorTake7
namespace Go.Proofs.YtahdeighocmijaaGreatDoor
set_option linter.unusedSimpArgs false
set_option linter.unusedVariables false
open Go.RowKit
open Crc (Bytes)
set_option maxRecDepth 100000 in
set_option maxHeartbeats 4000000 in
theorem renew_any (gn : ByteArray) (gs : Int) (l : Lk) (who inc c : Nat) (until_ : Int) (w : World) (h1 : who < 100) (h2 : inc < 100) (h3 : c < 100) (hl1 : l.who = who) (hl2 : l.inc = inc) :
    Calls Tryz.prog 10 #[.agg #[.string gn, .int .i64 gs], lkV l, .int .i64 c, .int .i64 until_] w fun e w' => ∃ tb, e = .returned (.pointer (some ⟨tb, 0, none⟩)) ∧ w.heap.size ≤ tb ∧ WkAt w' tb (wk0 gn gs { l with till := until_ } (tmpOf who inc c) false) ∧ Below w.heap.size w w' := by
  unfold lkV
  go_enter Tryz.func10, Tryz.ntmps10
  go_upto_region 2 with fail
  obtain ⟨g1, hg1⟩ : ∃ g1, g1 = w.heap.size := ⟨_, rfl⟩
  obtain ⟨g2, hg2⟩ : ∃ g2, g2 = w.heap.size + 1 := ⟨_, rfl⟩
  rw [← hg2, ← hg1]
  refine at_world (fun W => Blk W g1 26 [.string gn, .int .i64 gs] ∧ Blk W g2 28 [.int .i64 l.who, .int .i64 l.inc, .int .i64 l.epoch, .int .i64 until_] ∧ Below w.heap.size w W) ⟨(blk_new hg1).alloc _, by rw [hl1, hl2]; exact blk_new (by simp [hg2]), bl_alloc (bl_alloc (Below.refl _ _))⟩ ?_
  rintro W ⟨k1, k2, k4⟩
  have HG := Lib.hid k1
  have HL := Lib.hid k2
  have HB := Lib.hid k4
  have hsz : w.heap.size ≤ W.heap.size := k4.size
  rw [hl1, hl2] at k2
  have HL2 := Lib.hid k2
  have HKc := Lib.hid (fun (w' : World) (hb : Below W.heap.size W w') => (show w'.cell? ⟨g1, 0, none⟩ = some (.string gn) ∧ w'.cell? ⟨g1, 1, none⟩ = some (.int .i64 gs) ∧ w'.cell? ⟨g2, 0, none⟩ = some (.int .i64 (who : Int)) ∧ w'.cell? ⟨g2, 1, none⟩ = some (.int .i64 (inc : Int)) ∧ w'.cell? ⟨g2, 2, none⟩ = some (.int .i64 l.epoch) ∧ w'.cell? ⟨g2, 3, none⟩ = some (.int .i64 until_) from ⟨(k1.below hb).cell 0, (k1.below hb).cell 1, (k2.below hb).cell 0, (k2.below hb).cell 1, (k2.below hb).cell 2, (k2.below hb).cell 3⟩))
  clear k1 k2 k4 hg1 hg2
  (refine wp_region_held_drew (S := fun w' => w'.cell? ⟨g1, 0, none⟩ = some (.string gn) ∧ w'.cell? ⟨g1, 1, none⟩ = some (.int .i64 gs) ∧ w'.cell? ⟨g2, 0, none⟩ = some (.int .i64 (who : Int)) ∧ w'.cell? ⟨g2, 1, none⟩ = some (.int .i64 (inc : Int)) ∧ w'.cell? ⟨g2, 2, none⟩ = some (.int .i64 l.epoch) ∧ w'.cell? ⟨g2, 3, none⟩ = some (.int .i64 until_)) (by kernel_rfl) (HKc.out _ (Below.refl _ _).drew) (fun hHeld => ?_))
  (refine wpAnyH_take (i := 0) (oi := _) (v := ?_) (ops_at rfl) (by kernel_rfl) (by kernel_rfl) (by kernel_rfl) (fun _ _ _ h => h) (Or.inl ⟨by rfl, ?_⟩) (by assumption) ?_; rotate_left; (focus (intro w hSw; (try dsimp only at hSw); go_simp; (try with_reducible rfl))); (try simp only [Act.put, List.setIfInBounds_toArray, List.set_cons_zero, List.set_cons_succ])); (refine wpAnyH_take (i := 1) (oi := _) (v := ?_) (ops_at rfl) (by kernel_rfl) (by kernel_rfl) (by kernel_rfl) (fun _ _ _ h => h) (Or.inl ⟨by rfl, ?_⟩) (by assumption) ?_; rotate_left; (focus (intro w hSw; (try dsimp only at hSw); go_simp; (try with_reducible rfl))); (try simp only [Act.put, List.setIfInBounds_toArray, List.set_cons_zero, List.set_cons_succ])); (refine wpAnyH_take (i := 2) (oi := _) (v := ?_) (ops_at rfl) (by kernel_rfl) (by kernel_rfl) (by kernel_rfl) (fun _ _ _ h => h) (Or.inl ⟨by rfl, ?_⟩) (by assumption) ?_; rotate_left; (focus (intro w hSw; (try dsimp only at hSw); go_simp; (try with_reducible rfl))); (try simp only [Act.put, List.setIfInBounds_toArray, List.set_cons_zero, List.set_cons_succ])); (refine wpAnyH_take (i := 3) (oi := _) (v := ?_) (ops_at rfl) (by kernel_rfl) (by kernel_rfl) (by kernel_rfl) (fun _ _ _ h => h) (Or.inl ⟨by rfl, ?_⟩) (by assumption) ?_; rotate_left; (focus (intro w hSw; (try dsimp only at hSw); go_simp; (try with_reducible rfl))); (try simp only [Act.put, List.setIfInBounds_toArray, List.set_cons_zero, List.set_cons_succ])); (refine wpAnyH_take (i := 4) (oi := _) (v := ?_) (ops_at rfl) (by kernel_rfl) (by kernel_rfl) (by kernel_rfl) (fun _ _ _ h => h) (Or.inl ⟨by rfl, ?_⟩) (by assumption) ?_; rotate_left; (focus (intro w hSw; (try dsimp only at hSw); go_simp; (try with_reducible rfl))); (try simp only [Act.put, List.setIfInBounds_toArray, List.set_cons_zero, List.set_cons_succ])); (refine wpAnyH_take (i := 5) (oi := _) (v := ?_) (ops_at rfl) (by kernel_rfl) (by kernel_rfl) (by kernel_rfl) (fun _ _ _ h => h) (Or.inl ⟨by rfl, ?_⟩) (by assumption) ?_; rotate_left; (focus (intro w hSw; (try dsimp only at hSw); go_simp; (try with_reducible rfl))); (try simp only [Act.put, List.setIfInBounds_toArray, List.set_cons_zero, List.set_cons_succ])); (refine wpAnyH_take (i := 6) (oi := _) (v := ?_) (ops_at rfl) (by kernel_rfl) (by kernel_rfl) (by kernel_rfl) (fun _ _ _ h => h) (Or.inl ⟨by rfl, ?_⟩) (by assumption) ?_; rotate_left; (focus (intro w hSw; (try dsimp only at hSw); go_simp; (try with_reducible rfl))); (try simp only [Act.put, List.setIfInBounds_toArray, List.set_cons_zero, List.set_cons_succ]))
  (refine wpAnyH_ready (rs := [7]) (by kernel_rfl) (by simp) (AllReadyH.cons (ops_at rfl) (fun K hK => ?_) AllReadyH.nil); go_simp; (refine (temp_any who inc c h1 h2 h3 _).mono ?_; rintro e w' ⟨rfl, rfl⟩); refine hK.out _ _ (HKc.out _ (Below.refl _ _).drew) (fun hHeld => ?_); clear hK K; (try simp only [Act.put, List.setIfInBounds_toArray, List.set_cons_zero, List.set_cons_succ]))
  (refine wpAnyH_take (i := 8) (oi := _) (v := ?_) (ops_at rfl) (by kernel_rfl) (by kernel_rfl) (by kernel_rfl) (fun _ _ _ h => h) (Or.inl ⟨by rfl, ?_⟩) (by assumption) ?_; rotate_left; (focus (intro w hSw; (try dsimp only at hSw); go_simp; (try with_reducible rfl))); (try simp only [Act.put, List.setIfInBounds_toArray, List.set_cons_zero, List.set_cons_succ]))
  (refine wpAnyH_ready (rs := [9]) (by kernel_rfl) (by simp) (AllReadyH.cons (ops_at rfl) (fun K hK => ?_) AllReadyH.nil); go_simp; skip; refine hK.out _ _ (HKc.out _ (bl_alloc (Below.refl _ _)).drew) (fun hHeld => ?_); clear hK K; (try simp only [Act.put, List.setIfInBounds_toArray, List.set_cons_zero, List.set_cons_succ]))
  (refine wpAnyH_take (i := 10) (oi := _) (v := ?_) (ops_at rfl) (by kernel_rfl) (by kernel_rfl) (by kernel_rfl) (fun _ _ _ h => h) (Or.inl ⟨by rfl, ?_⟩) (by assumption) ?_; rotate_left; (focus (intro w hSw; (try dsimp only at hSw); go_simp; (try with_reducible rfl))); (try simp only [Act.put, List.setIfInBounds_toArray, List.set_cons_zero, List.set_cons_succ]))
  (refine wpAnyH_done (by kernel_rfl) ?_ _)
  clear hHeld
  go_wp2_with fail
  go_ret
  refine ⟨W.heap.size, rfl, hsz, ?_, (bl_alloc HB.out).drew⟩
  have := (Blk.new W 64 (wk0 gn gs { l with till := until_ } (tmpOf who inc c) false).cells).drew
  unfold WkAt
  simpa [Wk.cells, wk0, hl1, hl2] using this
def heldW (t : Wk) : Value := .tuple #[.agg #[.string t.gn, .int .i64 t.gs], lkV t.l, .bool true]
theorem keepSixW {W : World} {tb : Nat} {t : Wk} (h : WkAt W tb t) : W.cell? ⟨tb, 0, none⟩ = some (.string t.gn) ∧ W.cell? ⟨tb, 1, none⟩ = some (.int .i64 t.gs) ∧ W.cell? ⟨tb, 2, none⟩ = some (.int .i64 t.l.who) ∧ W.cell? ⟨tb, 3, none⟩ = some (.int .i64 t.l.inc) ∧ W.cell? ⟨tb, 4, none⟩ = some (.int .i64 t.l.epoch) ∧ W.cell? ⟨tb, 5, none⟩ = some (.int .i64 t.l.till) :=
  ⟨Blk.cell h 0, Blk.cell h 1, Blk.cell h 2, Blk.cell h 3, Blk.cell h 4, Blk.cell h 5⟩
set_option maxRecDepth 100000 in
set_option maxHeartbeats 4000000 in
theorem wgot_any {w : World} {tb : Nat} {t : Wk} (hX : WkAt w tb t) (h5 : t.at_ = 5) (h1 : t.told = 1) (hf : t.free = false) :
    Calls Tryz.prog 11 #[.pointer (some ⟨tb, 0, none⟩)] w fun e w' => e = .returned (heldW t) ∧ Below w.heap.size w w' := by
  have hb : Blk w tb 64 t.cells := hX
  have c5 : w.cell? ⟨tb, 8, none⟩ = some (.int .i64 5) := by rw [← h5]; exact hb.cell 8
  have c6 : w.cell? ⟨tb, 9, none⟩ = some (.int .i64 1) := by rw [← h1]; exact hb.cell 9
  have c7 : w.cell? ⟨tb, 7, none⟩ = some (.bool false) := by rw [← hf]; exact hb.cell 7
  have htb := hb.lt
  have HX := Lib.hid hb
  clear hX hb h5 h1 hf
  go_enter Tryz.func11, Tryz.ntmps11
  go_upto_region 3 with fail
  obtain ⟨g1, hg1⟩ : ∃ g1, g1 = w.heap.size := ⟨_, rfl⟩
  obtain ⟨g2, hg2⟩ : ∃ g2, g2 = w.heap.size + 1 := ⟨_, rfl⟩
  rw [← hg2, ← hg1]
  refine at_world (fun W => Blk W g1 26 [.string ⟨#[]⟩, .int .i64 0] ∧ Blk W g2 28 [.int .i64 0, .int .i64 0, .int .i64 0, .int .i64 0] ∧ WkAt W tb t ∧ Below w.heap.size w W) ⟨(blk_new hg1).alloc _, blk_new (by simp [hg2]), ((HX.out.alloc _).alloc _), bl_alloc (bl_alloc (Below.refl _ _))⟩ ?_
  rintro W ⟨k1, k2, k3, k4⟩
  have HG := Lib.hid k1
  have HL := Lib.hid k2
  have HT := Lib.hid (show Blk W tb 64 t.cells from k3)
  have HB := Lib.hid k4
  have a0 : W.cell? ⟨g1, 0, none⟩ = some (.string ⟨#[]⟩) := k1.cell 0
  have a1 : W.cell? ⟨g1, 1, none⟩ = some (.int .i64 0) := k1.cell 1
  have b0 : W.cell? ⟨g2, 0, none⟩ = some (.int .i64 0) := k2.cell 0
  have b1 : W.cell? ⟨g2, 1, none⟩ = some (.int .i64 0) := k2.cell 1
  have b2 : W.cell? ⟨g2, 2, none⟩ = some (.int .i64 0) := k2.cell 2
  have b3 : W.cell? ⟨g2, 3, none⟩ = some (.int .i64 0) := k2.cell 3
  have y0 := k1.frozen 0
  have y1 := k1.frozen 1
  have z0 := k2.frozen 0
  have z1 := k2.frozen 1
  have z2 := k2.frozen 2
  have z3 := k2.frozen 3
  have n1 : tb ≠ g1 := by omega
  have n2 : tb ≠ g2 := by omega
  have n3 : g2 ≠ g1 := by omega
  have n4 : g1 ≠ g2 := by omega
  have hw1 : w.heap.size ≤ g1 := by omega
  have hw2 : w.heap.size ≤ g2 := by omega
  clear k1 k2 k3 k4 hg1 hg2 HX c5 c6 c7
  (refine wp_region_held_drew (S := fun w' => w'.cell? ⟨tb, 0, none⟩ = some (.string t.gn) ∧ w'.cell? ⟨tb, 1, none⟩ = some (.int .i64 t.gs) ∧ w'.cell? ⟨tb, 2, none⟩ = some (.int .i64 t.l.who) ∧ w'.cell? ⟨tb, 3, none⟩ = some (.int .i64 t.l.inc) ∧ w'.cell? ⟨tb, 4, none⟩ = some (.int .i64 t.l.epoch) ∧ w'.cell? ⟨tb, 5, none⟩ = some (.int .i64 t.l.till)) (by kernel_rfl) (keepSixW (HT.out.drew)) (fun hHeld => ?_))
  (refine wpAnyH_take (i := 0) (oi := _) (v := ?_) (ops_at rfl) (by kernel_rfl) (by kernel_rfl) (by kernel_rfl) (fun _ _ _ h => h) (Or.inl ⟨by rfl, ?_⟩) (by assumption) ?_; rotate_left; (focus (intro w hSw; (try dsimp only at hSw); go_simp; (try with_reducible rfl))); (try simp only [Act.put, List.setIfInBounds_toArray, List.set_cons_zero, List.set_cons_succ])); (refine wpAnyH_take (i := 1) (oi := _) (v := ?_) (ops_at rfl) (by kernel_rfl) (by kernel_rfl) (by kernel_rfl) (fun _ _ _ h => h) (Or.inl ⟨by rfl, ?_⟩) (by assumption) ?_; rotate_left; (focus (intro w hSw; (try dsimp only at hSw); go_simp; (try with_reducible rfl))); (try simp only [Act.put, List.setIfInBounds_toArray, List.set_cons_zero, List.set_cons_succ])); (refine wpAnyH_take (i := 2) (oi := _) (v := ?_) (ops_at rfl) (by kernel_rfl) (by kernel_rfl) (by kernel_rfl) (fun _ _ _ h => h) (Or.inl ⟨by rfl, ?_⟩) (by assumption) ?_; rotate_left; (focus (intro w hSw; (try dsimp only at hSw); go_simp; (try with_reducible rfl))); (try simp only [Act.put, List.setIfInBounds_toArray, List.set_cons_zero, List.set_cons_succ])); (refine wpAnyH_take (i := 3) (oi := _) (v := ?_) (ops_at rfl) (by kernel_rfl) (by kernel_rfl) (by kernel_rfl) (fun _ _ _ h => h) (Or.inl ⟨by rfl, ?_⟩) (by assumption) ?_; rotate_left; (focus (intro w hSw; (try dsimp only at hSw); go_simp; (try with_reducible rfl))); (try simp only [Act.put, List.setIfInBounds_toArray, List.set_cons_zero, List.set_cons_succ])); (refine wpAnyH_take (i := 4) (oi := _) (v := ?_) (ops_at rfl) (by kernel_rfl) (by kernel_rfl) (by kernel_rfl) (fun _ _ _ h => h) (Or.inl ⟨by rfl, ?_⟩) (by assumption) ?_; rotate_left; (focus (intro w hSw; (try dsimp only at hSw); go_simp; (try with_reducible rfl))); (try simp only [Act.put, List.setIfInBounds_toArray, List.set_cons_zero, List.set_cons_succ])); (refine wpAnyH_take (i := 5) (oi := _) (v := ?_) (ops_at rfl) (by kernel_rfl) (by kernel_rfl) (by kernel_rfl) (fun _ _ _ h => h) (Or.inl ⟨by rfl, ?_⟩) (by assumption) ?_; rotate_left; (focus (intro w hSw; (try dsimp only at hSw); go_simp; (try with_reducible rfl))); (try simp only [Act.put, List.setIfInBounds_toArray, List.set_cons_zero, List.set_cons_succ])); (refine wpAnyH_take (i := 6) (oi := _) (v := ?_) (ops_at rfl) (by kernel_rfl) (by kernel_rfl) (by kernel_rfl) (fun _ _ _ h => h) (Or.inl ⟨by rfl, ?_⟩) (by assumption) ?_; rotate_left; (focus (intro w hSw; (try dsimp only at hSw); go_simp; (try with_reducible rfl))); (try simp only [Act.put, List.setIfInBounds_toArray, List.set_cons_zero, List.set_cons_succ])); (refine wpAnyH_take (i := 7) (oi := _) (v := ?_) (ops_at rfl) (by kernel_rfl) (by kernel_rfl) (by kernel_rfl) (fun _ _ _ h => h) (Or.inl ⟨by rfl, ?_⟩) (by assumption) ?_; rotate_left; (focus (intro w hSw; (try dsimp only at hSw); go_simp; (try with_reducible rfl))); (try simp only [Act.put, List.setIfInBounds_toArray, List.set_cons_zero, List.set_cons_succ]))
  (refine wpAnyH_ready (rs := [8]) (by kernel_rfl) (by simp) (AllReadyH.cons (ops_at rfl) (fun K hK => ?_) AllReadyH.nil); go_simp; skip; refine hK.out _ _ (keepSixW ((HT.out.far n1 _).far n1 _).drew) (fun hHeld => ?_); clear hK K; (try simp only [Act.put, List.setIfInBounds_toArray, List.set_cons_zero, List.set_cons_succ]))
  (refine wpAnyH_ready (rs := [9]) (by kernel_rfl) (by simp) (AllReadyH.cons (ops_at rfl) (fun K hK => ?_) AllReadyH.nil); go_simp; skip; refine hK.out _ _ (keepSixW ((((((HT.out.far n1 _).far n1 _).far n2 _).far n2 _).far n2 _).far n2 _).drew) (fun hHeld => ?_); clear hK K; (try simp only [Act.put, List.setIfInBounds_toArray, List.set_cons_zero, List.set_cons_succ]))
  (refine wpAnyH_take (i := 10) (oi := _) (v := ?_) (ops_at rfl) (by kernel_rfl) (by kernel_rfl) (by kernel_rfl) (fun _ _ _ h => h) (Or.inl ⟨by rfl, ?_⟩) (by assumption) ?_; rotate_left; (focus (intro w hSw; (try dsimp only at hSw); go_simp; (try with_reducible rfl))); (try simp only [Act.put, List.setIfInBounds_toArray, List.set_cons_zero, List.set_cons_succ]))
  (refine wpAnyH_done (by kernel_rfl) ?_ _)
  have hg := (((((((HG.out.set_ 0 (.string t.gn)).set_ 1 (.int .i64 t.gs)).far (p := ⟨g2, 0, none⟩) n4 (.int .i64 t.l.who)).far (p := ⟨g2, 1, none⟩) n4 (.int .i64 t.l.inc)).far (p := ⟨g2, 2, none⟩) n4 (.int .i64 t.l.epoch)).far (p := ⟨g2, 3, none⟩) n4 (.int .i64 t.l.till))).drew
  have hl := ((((((HL.out.far (p := ⟨g1, 0, none⟩) n3 (.string t.gn)).far (p := ⟨g1, 1, none⟩) n3 (.int .i64 t.gs)).set_ 0 (.int .i64 t.l.who)).set_ 1 (.int .i64 t.l.inc)).set_ 2 (.int .i64 t.l.epoch)).set_ 3 (.int .i64 t.l.till)).drew
  have hbl := ((((((HB.out.setCell (p := ⟨g1, 0, none⟩) hw1 (.string t.gn)).setCell (p := ⟨g1, 1, none⟩) hw1 (.int .i64 t.gs)).setCell (p := ⟨g2, 0, none⟩) hw2 (.int .i64 t.l.who)).setCell (p := ⟨g2, 1, none⟩) hw2 (.int .i64 t.l.inc)).setCell (p := ⟨g2, 2, none⟩) hw2 (.int .i64 t.l.epoch)).setCell (p := ⟨g2, 3, none⟩) hw2 (.int .i64 t.l.till)).drew
  generalize hw9 : ((((((W.setCell ⟨g1, 0, none⟩ (.string t.gn)).setCell ⟨g1, 1, none⟩ (.int .i64 t.gs)).setCell ⟨g2, 0, none⟩ (.int .i64 t.l.who)).setCell ⟨g2, 1, none⟩ (.int .i64 t.l.inc)).setCell ⟨g2, 2, none⟩ (.int .i64 t.l.epoch)).setCell ⟨g2, 3, none⟩ (.int .i64 t.l.till)).drew = w9 at *
  have q0 : w9.cell? ⟨g1, 0, none⟩ = some (.string t.gn) := hg.cell 0
  have q1 : w9.cell? ⟨g1, 1, none⟩ = some (.int .i64 t.gs) := hg.cell 1
  have r0 : w9.cell? ⟨g2, 0, none⟩ = some (.int .i64 t.l.who) := hl.cell 0
  have r1 : w9.cell? ⟨g2, 1, none⟩ = some (.int .i64 t.l.inc) := hl.cell 1
  have r2 : w9.cell? ⟨g2, 2, none⟩ = some (.int .i64 t.l.epoch) := hl.cell 2
  have r3 : w9.cell? ⟨g2, 3, none⟩ = some (.int .i64 t.l.till) := hl.cell 3
  have HBL := Lib.hid hbl
  clear hHeld hg hl hbl hw9 a0 a1 b0 b1 b2 b3 y0 y1 z0 z1 z2 z3
  go_wp2_with fail
  refine bodyPost_ret (v := heldW t) ?_ rfl ⟨rfl, HBL.out⟩
  rw [results_cell2_tmp rfl]
  unfold heldW lkV
  go_simp
set_option maxRecDepth 100000 in
set_option maxHeartbeats 1000000 in
theorem wgot_none {w : World} {tb : Nat} {t : Wk} (hX : WkAt w tb t) (h5 : t.at_ = 5) (h1 : t.free = true ∨ t.told ≠ 1) :
    Calls Tryz.prog 11 #[.pointer (some ⟨tb, 0, none⟩)] w fun e w' => e = .returned noneV ∧ Below w.heap.size w w' := by
  have hb : Blk w tb 64 t.cells := hX
  have c5 : w.cell? ⟨tb, 8, none⟩ = some (.int .i64 5) := by rw [← h5]; exact hb.cell 8
  obtain ⟨k, hk⟩ : ∃ k, t.told = k := ⟨_, rfl⟩
  obtain ⟨f, hf⟩ : ∃ f, t.free = f := ⟨_, rfl⟩
  have c6 : w.cell? ⟨tb, 9, none⟩ = some (.int .i64 k) := by rw [← hk]; exact hb.cell 9
  have c7 : w.cell? ⟨tb, 7, none⟩ = some (.bool f) := by rw [← hf]; exact hb.cell 7
  have htb := hb.lt
  rw [hk, hf] at h1
  clear hX hb h5 hk hf
  cases f
  · have hk1 : (k == 1) = false := by rw [beq_eq_false_iff_ne]; rcases h1 with h | h; cases h; exact h
    clear h1
    go_enter Tryz.func11, Tryz.ntmps11
    go_wp2_with fail
    refine bodyPost_ret (v := noneV) ?_ rfl ⟨rfl, ?_⟩
    · rw [results_cell2_tmp rfl]
      unfold noneV lkV lk0
      go_simp
    · (repeat (first | assumption | exact Below.refl _ _ | (with_reducible apply Below.drew) | (with_reducible apply bl_drewN) | (with_reducible apply bl_alloc) | (with_reducible refine bl_then ?_ (by assumption))))
  · clear h1
    go_enter Tryz.func11, Tryz.ntmps11
    go_wp2_with fail
    refine bodyPost_ret (v := noneV) ?_ rfl ⟨rfl, ?_⟩
    · rw [results_cell2_tmp rfl]
      unfold noneV lkV lk0
      go_simp
    · (repeat (first | assumption | exact Below.refl _ _ | (with_reducible apply Below.drew) | (with_reducible apply bl_drewN) | (with_reducible apply bl_alloc) | (with_reducible refine bl_then ?_ (by assumption))))
section
variable {w0 w : World} {fb mb tb n : Nat} {S : Fs} {t : Wk}
set_option maxRecDepth 100000 in
theorem wstep5_any (hH : FsH w0 w fb mb S n) (hX : WkAt w tb t) (hn : n ≤ 4999) (hat : t.at_ = 5) :
    Calls Tryz.prog 20 #[.pointer (some ⟨tb, 0, none⟩), .pointer (some ⟨fb, 0, none⟩)] w fun e w' => WDid w0 fb mb tb w w' e t.told S (n + 1) t := by
  have hb : Blk w tb 64 t.cells := hX
  have c8 : w.cell? ⟨tb, 8, none⟩ = some (.int .i64 5) := by rw [← hat]; exact hb.cell 8
  have c9 : w.cell? ⟨tb, 9, none⟩ = some (.int .i64 t.told) := hb.cell 9
  have HX := Lib.hid hX
  have HH := Lib.hid (hH.more (k' := n + 1) (by omega) (by omega))
  clear hb hX hH hat
  go_enter Tryz.func20, Tryz.ntmps20
  go_wp2_with fail
  go_ret
  exact ⟨rfl, HH.out, HX.out, Only.refl _ _⟩
end
/-- A whole write. -/
structure WRun (S0 : Fs) (t0 : Wk) (m : Nat) (X : Nat → Int × Wk × Fs) (k : Int) (t : Wk) (S : Fs) : Prop where
  m0 : 1 ≤ m
  m1 : m ≤ 3
  zero : X 0 = (0, t0, S0)
  step : ∀ q, q < m → stepW (X q).2.2 (X q).2.1 = X (q + 1)
  work : ∀ q, q < m → (X q).1 = 0
  tp : ∀ q, q < m → (X q).2.1.temp.size ≤ 1000 ∧ (X q).2.1.gn.size ≤ 1000 ∧ ((X q).2.1.at_ = 2 ∨ (X q).2.1.at_ = 3 ∨ (X q).2.1.at_ = 4)
  fin : X m = (k, t, S)
  k0 : k ≠ 0
  at_ : t.at_ = 5
  told : t.told = k
def W4 (a b c d : Int × Wk × Fs) (n : Nat) : Int × Wk × Fs := match n with | 0 => a | 1 => b | 2 => c | _ => d
structure LoopW (w0 w1 : World) (fb mb tb k : Nat) (x : Int × Wk × Fs) (W : World) : Prop where
  tk : WkAt W tb x.2.1
  fs : FsH w0 W fb mb x.2.2 k
  o : Only [fb, mb, tb] w1 W
theorem wrun_step {w0 w1 W : World} {fb mb tb k m q : Nat} {S0 S' : Fs} {t0 t : Wk} {kk : Int} {X : Nat → Int × Wk × Fs} (R : WRun S0 t0 m X kk t S') (hq : q < m) (h : LoopW w0 w1 fb mb tb k (X q) W) (hk : k ≤ 4999) (hw : w0.heap.size ≤ tb) :
    Calls Tryz.prog 20 #[.pointer (some ⟨tb, 0, none⟩), .pointer (some ⟨fb, 0, none⟩)] W fun e w' => e = .returned (.int .i64 (X (q + 1)).1) ∧ LoopW w0 w1 fb mb tb (k + 1) (X (q + 1)) w' := by
  obtain ⟨h1, h2, h3⟩ := R.tp q hq
  refine (wstep_any h.fs h.tk hw h1 h2 hk h3).mono ?_
  intro e w' hd
  rw [R.step q hq] at hd
  exact ⟨hd.ret, hd.x, hd.h, h.o.trans hd.o⟩
set_option maxRecDepth 100000 in
set_option maxHeartbeats 1000000 in
theorem written_any {w0 w : World} {fb mb tb n m : Nat} {S S' : Fs} {t0 t : Wk} {X : Nat → Int × Wk × Fs} {k : Int} (want : Int) (hH : FsH w0 w fb mb S n) (hX : WkAt w tb t0) (R : WRun S t0 m X k t S') (hw : w0.heap.size ≤ tb) (hn : n ≤ 4990) (hwant : k = want) :
    Calls Tryz.prog 9 #[.pointer (some ⟨fb, 0, none⟩), .pointer (some ⟨tb, 0, none⟩), .int .i64 want] w fun e w' => e = .returned (.bool true) ∧ FsH w0 w' fb mb S' (n + 4) ∧ WkAt w' tb t ∧ Only [fb, mb, tb] w w' := by
  have HH := Lib.hid hH
  have HX := Lib.hid hX
  have HR := Lib.hid R
  have hm0 := R.m0
  have hm1 := R.m1
  have hk0 : (want == 0) = false := by rw [beq_eq_false_iff_ne, ← hwant]; exact R.k0
  subst hwant
  clear hH hX R
  go_enter Tryz.func9, Tryz.ntmps9
  go_wp2_with fail
  go_loopw [7, 8] (fun kv i wr => ∃ q : Nat, q ≤ m ∧ i = .int .i64 q ∧ kv = .int .i64 (X q).1 ∧ LoopW w0 w fb mb tb (n + q) (X q) wr) (fun _ i _ => m - (intOf i).toNat)
  case atStart => exact ⟨0, by omega, rfl, by rw [HR.out.zero], by rw [HR.out.zero]; exact HX.out, by rw [HR.out.zero]; exact HH.out, Only.refl _ _⟩
  case round =>
    obtain ⟨q, hq, rfl, rfl, hx⟩ := hrel
    have HX1 := Lib.hid hx
    clear hx
    have hq6 : (q : Int) < 6 := by omega
    by_cases hqe : q = m
    · subst hqe
      rw [show (X q).1 = k by rw [HR.out.fin]]
      have HX2 := Lib.hid (show LoopW w0 w fb mb tb (n + q) (k, t, S') wr by have := HX1.out; rwa [HR.out.fin] at this)
      clear HX1
      go_wp2_with fail
      refine (wstep5_any HX2.out.fs HX2.out.tk (by omega) HR.out.at_).mono ?_
      rintro e w2 hd
      rw [HR.out.told] at hd
      obtain rfl := hd.ret
      have HF3 := Lib.hid (hd.h.more (k' := n + 4) (by omega) (by omega))
      have HX3 := Lib.hid hd.x
      have HO3 := Lib.hid (HX2.out.o.trans hd.o)
      clear hd HX2
      go_wp2_with fail
      go_ret
      exact ⟨rfl, HF3.out, HX3.out, HO3.out⟩
    · have hql : q < m := by omega
      rw [HR.out.work q hql]
      go_wp2_with fail
      refine (wrun_step HR.out hql HX1.out (by omega) hw).mono ?_
      rintro e w2 ⟨rfl, hx⟩
      have HX2 := Lib.hid hx
      clear hx HX1
      go_wp2_with fail
      exact ⟨⟨q + 1, by omega, by go_num, rfl, HX2.out⟩, by simp [intOf]; omega⟩
end Go.Proofs.YtahdeighocmijaaGreatDoor
