/- Locks: Take.Step. Locks: New. Locks: Take.Held. -/
import Derived.Test.YtahdeighocmijaaGreatDoorTake4
namespace Go.Proofs.YtahdeighocmijaaGreatDoor
set_option linter.unusedSimpArgs false
set_option linter.unusedVariables false
open Go.RowKit
open Crc (Bytes)
section
variable {w0 w : World} {fb mb tb n : Nat} {S : Fs} {t : Tk}
set_option maxRecDepth 100000 in
set_option maxHeartbeats 4000000 in
theorem tstep_any (hH : FsH w0 w fb mb S n) (hX : TkAt w tb t) (hw : w0.heap.size ≤ tb) (hwf : t.wf) (now : Int) (hn : n ≤ 4999) (hlen : t.at_ = 0 → (S.readF t.file).2.1.length ≤ 100000) :
    Calls Tryz.prog 18 #[.pointer (some ⟨tb, 0, none⟩), .pointer (some ⟨fb, 0, none⟩), .int .i64 now] w fun e w' => TDid w0 fb mb tb w w' e (stepT now S t).1 (stepT now S t).2.2 (n + 1) (stepT now S t).2.1 := by
  obtain ⟨mx, hmx⟩ : ∃ mx, (if now < 0 then (0 : Int) else now) = mx := ⟨_, rfl⟩
  obtain ⟨cn, hcn⟩ : ∃ cn, (if 549755813888 < mx then (549755813888 : Int) else mx) = cn := ⟨_, rfl⟩
  have hcl : clampN now = cn := by
    unfold clampN
    rw [← hcn, ← hmx]
    split <;> split <;> omega
  have hb : Blk w tb 85 t.cells := hX
  obtain ⟨hf, hp, hg, he, l0, l1, ha⟩ := hwf
  rcases ha with hat | hat | hat | hat | hat | hat
  · have c5 : w.cell? ⟨tb, 5, none⟩ = some (.int .i64 0) := by rw [← hat]; exact hb.cell 5
    have hc := tread_any hH hX hw hf now (hlen hat)
    rw [hcl] at hc
    have HC := Lib.hid hc
    clear hc
    have HM := Lib.hid (stepT_0 (now := now) (S := S) hat)
    clear hb hX hH hat he hcl
    go_enter Tryz.func18, Tryz.ntmps18
    go_wp2_with fail
    refine HC.out.mono ?_
    rintro e w' hd
    obtain rfl := hd.ret
    have HD := Lib.hid (hd.more _ hn)
    clear hd
    go_wp2_with fail
    go_ret
    rw [HM.out]
    exact HD.out
  · have c5 : w.cell? ⟨tb, 5, none⟩ = some (.int .i64 1) := by rw [← hat]; exact hb.cell 5
    have hc := tmade_any hH hX hw hf l0 l1 now hn
    rw [hcl] at hc
    have HC := Lib.hid hc
    clear hc
    have HM := Lib.hid (stepT_1 (now := now) (S := S) hat)
    clear hb hX hH hat he hcl
    go_enter Tryz.func18, Tryz.ntmps18
    go_wp2_with fail
    refine HC.out.mono ?_
    rintro e w' hd
    obtain rfl := hd.ret
    have HD := Lib.hid hd
    clear hd
    go_wp2_with fail
    go_ret
    rw [HM.out]
    exact HD.out
  · have c5 : w.cell? ⟨tb, 5, none⟩ = some (.int .i64 2) := by rw [← hat]; exact hb.cell 5
    have hc := tput_any hH hX hw hp (he hat) l0 l1 now hn
    rw [hcl] at hc
    have HC := Lib.hid hc
    clear hc
    have HM := Lib.hid (stepT_2 (now := now) (S := S) hat)
    clear hb hX hH hat he hcl
    go_enter Tryz.func18, Tryz.ntmps18
    go_wp2_with fail
    refine HC.out.mono ?_
    rintro e w' hd
    obtain rfl := hd.ret
    have HD := Lib.hid hd
    clear hd
    go_wp2_with fail
    go_ret
    rw [HM.out]
    exact HD.out
  · exact tstep3_any hH hX hw hf hp hg now hn hat
  · have c5 : w.cell? ⟨tb, 5, none⟩ = some (.int .i64 4) := by rw [← hat]; exact hb.cell 5
    have c1 : w.cell? ⟨tb, 1, none⟩ = some (.string t.temp) := hb.cell 1
    have HM := Lib.hid (stepT_4 (now := now) (S := S) hat)
    have hne := hH.ne hb.at_ (by decide)
    have HX := Lib.hid hb
    have HH := Lib.hid hH
    clear hb hX hH hat he hcl
    go_enter Tryz.func18, Tryz.ntmps18
    go_wp2_with fail
    refine (drop_h HH.out hn t.temp [] none 0 0 hp (Grd.nil _)).mono ?_
    rintro e w1 ⟨rfl, h1, o1⟩
    have HX1 := Lib.hid (show TkAt w1 tb t from HX.out.only o1 hne)
    have HO3 := Lib.hid (o1.more (cs := [fb, mb, tb]) (fun b hb => .inl (by simp at hb ⊢; rcases hb with h | h <;> simp [h])))
    have HH1 := Lib.hid h1
    clear h1 o1 c5 c1 HX HH
    go_wp2_with fail
    refine (tend_any HH1.out HX1.out hw 2).mono ?_
    (rintro e w' hd; obtain rfl := hd.ret; have HD := Lib.hid (hd.after HO3.out); clear hd; go_wp2_with fail; go_ret; rw [HM.out]; exact HD.out)
  · have c5 : w.cell? ⟨tb, 5, none⟩ = some (.int .i64 5) := by rw [← hat]; exact hb.cell 5
    have c6 : w.cell? ⟨tb, 6, none⟩ = some (.int .i64 t.told) := hb.cell 6
    have HM := Lib.hid (stepT_5 (now := now) (S := S) hat)
    have HX := Lib.hid hX
    have HH := Lib.hid (hH.more (k' := n + 1) (by omega) (by omega))
    clear hb hX hH hat he hcl
    go_enter Tryz.func18, Tryz.ntmps18
    go_wp2_with fail
    go_ret
    rw [HM.out]
    exact ⟨rfl, HH.out, HX.out, Only.refl _ _⟩
end
end Go.Proofs.YtahdeighocmijaaGreatDoor
namespace Go.Proofs.YtahdeighocmijaaGreatDoor
set_option linter.unusedSimpArgs false
set_option linter.unusedVariables false
open Go.RowKit
open Crc (Bytes)
set_option maxRecDepth 100000 in
set_option maxHeartbeats 2000000 in
theorem tnew_any (file : ByteArray) (who inc c : Nat) (lease : Int) (w : World) (h1 : who < 100) (h2 : inc < 100) (h3 : c < 100) (h4 : 0 ≤ lease) (h5 : lease ≤ 1000000) :
    Calls Tryz.prog 17 #[.string file, .int .i64 who, .int .i64 inc, .int .i64 c, .int .i64 lease] w fun e w' => e = .returned (.pointer (some ⟨w.heap.size, 0, none⟩)) ∧ TkAt w' w.heap.size ⟨file, tmpOf who inc c, who, inc, lease, 0, 0, ⟨#[]⟩, 0, lk0⟩ ∧ Below w.heap.size w w' := by
  have hm1 : max lease 0 = lease := by omega
  have hm2 : min lease 1000000 = lease := by omega
  go_enter Tryz.func17, Tryz.ntmps17
  go_wp2_with fail
  refine (temp_any who inc c h1 h2 h3 _).mono ?_
  rintro e w' ⟨rfl, rfl⟩
  go_wp2_with fail
  go_ret
  exact ⟨rfl, Blk.new w 85 _, bl_alloc (Below.refl _ _)⟩
end Go.Proofs.YtahdeighocmijaaGreatDoor
namespace Go.Proofs.YtahdeighocmijaaGreatDoor
set_option linter.unusedSimpArgs false
set_option linter.unusedVariables false
open Go.RowKit
open Crc (Bytes)
def heldV (t : Tk) : Value := .tuple #[.agg #[.string t.gn, .int .i64 t.gs], lkV t.l, .bool true]
def noneV : Value := .tuple #[.agg #[.string ⟨#[]⟩, .int .i64 0], lkV lk0, .bool false]
theorem keepSix {W : World} {tb : Nat} {t : Tk} (h : TkAt W tb t) : W.cell? ⟨tb, 7, none⟩ = some (.string t.gn) ∧ W.cell? ⟨tb, 8, none⟩ = some (.int .i64 t.gs) ∧ W.cell? ⟨tb, 9, none⟩ = some (.int .i64 t.l.who) ∧ W.cell? ⟨tb, 10, none⟩ = some (.int .i64 t.l.inc) ∧ W.cell? ⟨tb, 11, none⟩ = some (.int .i64 t.l.epoch) ∧ W.cell? ⟨tb, 12, none⟩ = some (.int .i64 t.l.till) :=
  ⟨Blk.cell h 7, Blk.cell h 8, Blk.cell h 9, Blk.cell h 10, Blk.cell h 11, Blk.cell h 12⟩
set_option maxRecDepth 100000 in
set_option maxHeartbeats 4000000 in
theorem tgot_any {w : World} {tb : Nat} {t : Tk} (hX : TkAt w tb t) (h5 : t.at_ = 5) (h1 : t.told = 1) :
    Calls Tryz.prog 19 #[.pointer (some ⟨tb, 0, none⟩)] w fun e w' => e = .returned (heldV t) ∧ Below w.heap.size w w' := by
  have hb : Blk w tb 85 t.cells := hX
  have c5 : w.cell? ⟨tb, 5, none⟩ = some (.int .i64 5) := by rw [← h5]; exact hb.cell 5
  have c6 : w.cell? ⟨tb, 6, none⟩ = some (.int .i64 1) := by rw [← h1]; exact hb.cell 6
  have htb := hb.lt
  have HX := Lib.hid hb
  clear hX hb h5 h1
  go_enter Tryz.func19, Tryz.ntmps19
  go_upto_region 3 with fail
  obtain ⟨g1, hg1⟩ : ∃ g1, g1 = w.heap.size := ⟨_, rfl⟩
  obtain ⟨g2, hg2⟩ : ∃ g2, g2 = w.heap.size + 1 := ⟨_, rfl⟩
  rw [← hg2, ← hg1]
  refine at_world (fun W => Blk W g1 26 [.string ⟨#[]⟩, .int .i64 0] ∧ Blk W g2 28 [.int .i64 0, .int .i64 0, .int .i64 0, .int .i64 0] ∧ TkAt W tb t ∧ Below w.heap.size w W) ⟨(blk_new hg1).alloc _, blk_new (by simp [hg2]), ((HX.out.alloc _).alloc _), bl_alloc (bl_alloc (Below.refl _ _))⟩ ?_
  rintro W ⟨k1, k2, k3, k4⟩
  have HG := Lib.hid k1
  have HL := Lib.hid k2
  have HT := Lib.hid (show Blk W tb 85 t.cells from k3)
  have HB := Lib.hid k4
  have a0 : W.cell? ⟨g1, 0, none⟩ = some (.string ⟨#[]⟩) := k1.cell 0
  have a1 : W.cell? ⟨g1, 1, none⟩ = some (.int .i64 0) := k1.cell 1
  have b0 : W.cell? ⟨g2, 0, none⟩ = some (.int .i64 0) := k2.cell 0
  have b1 : W.cell? ⟨g2, 1, none⟩ = some (.int .i64 0) := k2.cell 1
  have b2 : W.cell? ⟨g2, 2, none⟩ = some (.int .i64 0) := k2.cell 2
  have b3 : W.cell? ⟨g2, 3, none⟩ = some (.int .i64 0) := k2.cell 3
  have y0 := k1.frozen 0
  have y1 := k1.frozen 1
  have z0 := k2.frozen 0
  have z1 := k2.frozen 1
  have z2 := k2.frozen 2
  have z3 := k2.frozen 3
  have n1 : tb ≠ g1 := by omega
  have n2 : tb ≠ g2 := by omega
  have n3 : g2 ≠ g1 := by omega
  have n4 : g1 ≠ g2 := by omega
  have hw1 : w.heap.size ≤ g1 := by omega
  have hw2 : w.heap.size ≤ g2 := by omega
  clear k1 k2 k3 k4 hg1 hg2 HX c5 c6
  (refine wp_region_held_drew (S := fun w' => w'.cell? ⟨tb, 7, none⟩ = some (.string t.gn) ∧ w'.cell? ⟨tb, 8, none⟩ = some (.int .i64 t.gs) ∧ w'.cell? ⟨tb, 9, none⟩ = some (.int .i64 t.l.who) ∧ w'.cell? ⟨tb, 10, none⟩ = some (.int .i64 t.l.inc) ∧ w'.cell? ⟨tb, 11, none⟩ = some (.int .i64 t.l.epoch) ∧ w'.cell? ⟨tb, 12, none⟩ = some (.int .i64 t.l.till)) (by kernel_rfl) (keepSix (HT.out.drew)) (fun hHeld => ?_))
  (refine wpAnyH_take (i := 0) (oi := _) (v := ?_) (ops_at rfl) (by kernel_rfl) (by kernel_rfl) (by kernel_rfl) (fun _ _ _ h => h) (Or.inl ⟨by rfl, ?_⟩) (by assumption) ?_; rotate_left; (focus (intro w hSw; (try dsimp only at hSw); go_simp; (try with_reducible rfl))); (try simp only [Act.put, List.setIfInBounds_toArray, List.set_cons_zero, List.set_cons_succ])); (refine wpAnyH_take (i := 1) (oi := _) (v := ?_) (ops_at rfl) (by kernel_rfl) (by kernel_rfl) (by kernel_rfl) (fun _ _ _ h => h) (Or.inl ⟨by rfl, ?_⟩) (by assumption) ?_; rotate_left; (focus (intro w hSw; (try dsimp only at hSw); go_simp; (try with_reducible rfl))); (try simp only [Act.put, List.setIfInBounds_toArray, List.set_cons_zero, List.set_cons_succ])); (refine wpAnyH_take (i := 2) (oi := _) (v := ?_) (ops_at rfl) (by kernel_rfl) (by kernel_rfl) (by kernel_rfl) (fun _ _ _ h => h) (Or.inl ⟨by rfl, ?_⟩) (by assumption) ?_; rotate_left; (focus (intro w hSw; (try dsimp only at hSw); go_simp; (try with_reducible rfl))); (try simp only [Act.put, List.setIfInBounds_toArray, List.set_cons_zero, List.set_cons_succ])); (refine wpAnyH_take (i := 3) (oi := _) (v := ?_) (ops_at rfl) (by kernel_rfl) (by kernel_rfl) (by kernel_rfl) (fun _ _ _ h => h) (Or.inl ⟨by rfl, ?_⟩) (by assumption) ?_; rotate_left; (focus (intro w hSw; (try dsimp only at hSw); go_simp; (try with_reducible rfl))); (try simp only [Act.put, List.setIfInBounds_toArray, List.set_cons_zero, List.set_cons_succ])); (refine wpAnyH_take (i := 4) (oi := _) (v := ?_) (ops_at rfl) (by kernel_rfl) (by kernel_rfl) (by kernel_rfl) (fun _ _ _ h => h) (Or.inl ⟨by rfl, ?_⟩) (by assumption) ?_; rotate_left; (focus (intro w hSw; (try dsimp only at hSw); go_simp; (try with_reducible rfl))); (try simp only [Act.put, List.setIfInBounds_toArray, List.set_cons_zero, List.set_cons_succ])); (refine wpAnyH_take (i := 5) (oi := _) (v := ?_) (ops_at rfl) (by kernel_rfl) (by kernel_rfl) (by kernel_rfl) (fun _ _ _ h => h) (Or.inl ⟨by rfl, ?_⟩) (by assumption) ?_; rotate_left; (focus (intro w hSw; (try dsimp only at hSw); go_simp; (try with_reducible rfl))); (try simp only [Act.put, List.setIfInBounds_toArray, List.set_cons_zero, List.set_cons_succ])); (refine wpAnyH_take (i := 6) (oi := _) (v := ?_) (ops_at rfl) (by kernel_rfl) (by kernel_rfl) (by kernel_rfl) (fun _ _ _ h => h) (Or.inl ⟨by rfl, ?_⟩) (by assumption) ?_; rotate_left; (focus (intro w hSw; (try dsimp only at hSw); go_simp; (try with_reducible rfl))); (try simp only [Act.put, List.setIfInBounds_toArray, List.set_cons_zero, List.set_cons_succ])); (refine wpAnyH_take (i := 7) (oi := _) (v := ?_) (ops_at rfl) (by kernel_rfl) (by kernel_rfl) (by kernel_rfl) (fun _ _ _ h => h) (Or.inl ⟨by rfl, ?_⟩) (by assumption) ?_; rotate_left; (focus (intro w hSw; (try dsimp only at hSw); go_simp; (try with_reducible rfl))); (try simp only [Act.put, List.setIfInBounds_toArray, List.set_cons_zero, List.set_cons_succ]))
  (refine wpAnyH_ready (rs := [8]) (by kernel_rfl) (by simp) (AllReadyH.cons (ops_at rfl) (fun K hK => ?_) AllReadyH.nil); go_simp; skip; refine hK.out _ _ (keepSix ((HT.out.far n1 _).far n1 _).drew) (fun hHeld => ?_); clear hK K; (try simp only [Act.put, List.setIfInBounds_toArray, List.set_cons_zero, List.set_cons_succ]))
  (refine wpAnyH_ready (rs := [9]) (by kernel_rfl) (by simp) (AllReadyH.cons (ops_at rfl) (fun K hK => ?_) AllReadyH.nil); go_simp; skip; refine hK.out _ _ (keepSix ((((((HT.out.far n1 _).far n1 _).far n2 _).far n2 _).far n2 _).far n2 _).drew) (fun hHeld => ?_); clear hK K; (try simp only [Act.put, List.setIfInBounds_toArray, List.set_cons_zero, List.set_cons_succ]))
  (refine wpAnyH_take (i := 10) (oi := _) (v := ?_) (ops_at rfl) (by kernel_rfl) (by kernel_rfl) (by kernel_rfl) (fun _ _ _ h => h) (Or.inl ⟨by rfl, ?_⟩) (by assumption) ?_; rotate_left; (focus (intro w hSw; (try dsimp only at hSw); go_simp; (try with_reducible rfl))); (try simp only [Act.put, List.setIfInBounds_toArray, List.set_cons_zero, List.set_cons_succ]))
  (refine wpAnyH_done (by kernel_rfl) ?_ _)
  have hg := (((((((HG.out.set_ 0 (.string t.gn)).set_ 1 (.int .i64 t.gs)).far (p := ⟨g2, 0, none⟩) n4 (.int .i64 t.l.who)).far (p := ⟨g2, 1, none⟩) n4 (.int .i64 t.l.inc)).far (p := ⟨g2, 2, none⟩) n4 (.int .i64 t.l.epoch)).far (p := ⟨g2, 3, none⟩) n4 (.int .i64 t.l.till))).drew
  have hl := ((((((HL.out.far (p := ⟨g1, 0, none⟩) n3 (.string t.gn)).far (p := ⟨g1, 1, none⟩) n3 (.int .i64 t.gs)).set_ 0 (.int .i64 t.l.who)).set_ 1 (.int .i64 t.l.inc)).set_ 2 (.int .i64 t.l.epoch)).set_ 3 (.int .i64 t.l.till)).drew
  have hbl := ((((((HB.out.setCell (p := ⟨g1, 0, none⟩) hw1 (.string t.gn)).setCell (p := ⟨g1, 1, none⟩) hw1 (.int .i64 t.gs)).setCell (p := ⟨g2, 0, none⟩) hw2 (.int .i64 t.l.who)).setCell (p := ⟨g2, 1, none⟩) hw2 (.int .i64 t.l.inc)).setCell (p := ⟨g2, 2, none⟩) hw2 (.int .i64 t.l.epoch)).setCell (p := ⟨g2, 3, none⟩) hw2 (.int .i64 t.l.till)).drew
  generalize hw9 : ((((((W.setCell ⟨g1, 0, none⟩ (.string t.gn)).setCell ⟨g1, 1, none⟩ (.int .i64 t.gs)).setCell ⟨g2, 0, none⟩ (.int .i64 t.l.who)).setCell ⟨g2, 1, none⟩ (.int .i64 t.l.inc)).setCell ⟨g2, 2, none⟩ (.int .i64 t.l.epoch)).setCell ⟨g2, 3, none⟩ (.int .i64 t.l.till)).drew = w9 at *
  have q0 : w9.cell? ⟨g1, 0, none⟩ = some (.string t.gn) := hg.cell 0
  have q1 : w9.cell? ⟨g1, 1, none⟩ = some (.int .i64 t.gs) := hg.cell 1
  have r0 : w9.cell? ⟨g2, 0, none⟩ = some (.int .i64 t.l.who) := hl.cell 0
  have r1 : w9.cell? ⟨g2, 1, none⟩ = some (.int .i64 t.l.inc) := hl.cell 1
  have r2 : w9.cell? ⟨g2, 2, none⟩ = some (.int .i64 t.l.epoch) := hl.cell 2
  have r3 : w9.cell? ⟨g2, 3, none⟩ = some (.int .i64 t.l.till) := hl.cell 3
  have HBL := Lib.hid hbl
  clear hHeld hg hl hbl hw9 a0 a1 b0 b1 b2 b3 y0 y1 z0 z1 z2 z3
  go_wp2_with fail
  refine bodyPost_ret (v := heldV t) ?_ rfl ⟨rfl, HBL.out⟩
  rw [results_cell2_tmp rfl]
  unfold heldV lkV
  go_simp
end Go.Proofs.YtahdeighocmijaaGreatDoor
