/- Locks: Write's steps; Free. Locks: Write's other steps; Free. -/
import Derived.Test.YtahdeighocmijaaGreatDoorTake7
namespace Go.Proofs.YtahdeighocmijaaGreatDoor
set_option linter.unusedSimpArgs false
set_option linter.unusedVariables false
open Go.RowKit
open Crc (Bytes)
def Wk.cells (t : Wk) : List Value := [.string t.gn, .int .i64 t.gs, .int .i64 t.l.who, .int .i64 t.l.inc, .int .i64 t.l.epoch, .int .i64 t.l.till, .string t.temp, .bool t.free, .int .i64 t.at_, .int .i64 t.told]
def WkAt (w : World) (tb : Nat) (t : Wk) : Prop := Blk w tb 64 t.cells
structure WDid (w0 : World) (fb mb tb : Nat) (w w' : World) (e : Ending) (k : Int) (S : Fs) (n : Nat) (t : Wk) : Prop where
  ret : e = .returned (.int .i64 k)
  h : FsH w0 w' fb mb S n
  x : WkAt w' tb t
  o : Only [fb, mb, tb] w w'
theorem WDid.after {w0 w w1 w2 : World} {fb mb tb n : Nat} {S : Fs} {t : Wk} {e : Ending} {k : Int} (h : WDid w0 fb mb tb w1 w2 e k S n t) (ho : Only [fb, mb, tb] w w1) : WDid w0 fb mb tb w w2 e k S n t := ⟨h.ret, h.h, h.x, ho.trans h.o⟩
section
variable {w0 w : World} {fb mb tb n : Nat} {S : Fs} {t : Wk}
theorem wk_set (hH : FsH w0 w fb mb S n) (hX : WkAt w tb t) (hw : w0.heap.size ≤ tb) {w' : World} {t' : Wk} (ho : Only [tb] w w') (hX' : WkAt w' tb t') : FsH w0 w' fb mb S n ∧ WkAt w' tb t' ∧ Only [fb, mb, tb] w w' :=
  ⟨hH.turn ho hX (by decide) (by decide) hw, hX', ho.more fun b hb => .inl (by simp at hb; simp [hb])⟩
set_option maxRecDepth 100000 in
theorem wend_any (hH : FsH w0 w fb mb S n) (hX : WkAt w tb t) (hw : w0.heap.size ≤ tb) (q : Int) :
    Calls Tryz.prog 44 #[.pointer (some ⟨tb, 0, none⟩), .int .i64 q] w fun e w' => WDid w0 fb mb tb w w' e q S n (t.end_ q) := by
  have hb : Blk w tb 64 t.cells := hX
  have c8 : w.cell? ⟨tb, 8, none⟩ = some (.int .i64 t.at_) := hb.cell 8
  have c9 : w.cell? ⟨tb, 9, none⟩ = some (.int .i64 t.told) := hb.cell 9
  have z8 := hb.frozen 8
  have z9 := hb.frozen 9
  have HS := Lib.hid (fun w' ho hx => wk_set hH hX hw (w' := w') (t' := t.end_ q) ho hx)
  have HB := Lib.hid hb
  clear hH hX hb
  go_enter Tryz.func44, Tryz.ntmps44
  go_wp2_with fail
  go_ret
  obtain ⟨h1, h2, h3⟩ := HS.out _ (((Only.refl _ _).setCell (.inl (by simp)) _).setCell (.inl (by simp)) _) ((HB.out.set_ 8 _).set_ 9 _)
  exact ⟨rfl, h1, h2, h3⟩
set_option maxRecDepth 100000 in
set_option maxHeartbeats 4000000 in
theorem wstep2_any (hH : FsH w0 w fb mb S n) (hX : WkAt w tb t) (hw : w0.heap.size ≤ tb) (hp : t.temp.size ≤ 1000) (hn : n ≤ 4999) (hat : t.at_ = 2) :
    Calls Tryz.prog 20 #[.pointer (some ⟨tb, 0, none⟩), .pointer (some ⟨fb, 0, none⟩)] w fun e w' => WDid w0 fb mb tb w w' e (stepW S t).1 (stepW S t).2.2 (n + 1) (stepW S t).2.1 := by
  have hb : Blk w tb 64 t.cells := hX
  have c8 : w.cell? ⟨tb, 8, none⟩ = some (.int .i64 2) := by rw [← hat]; exact hb.cell 8
  obtain ⟨⟨⟨st, e0⟩, S'⟩, hpq⟩ : ∃ p, S.putF t.temp t.l.bytes = p := ⟨_, rfl⟩
  have HP := Lib.hid hpq
  have HM := Lib.hid (show stepW S t = if e0 = 0 then (0, { t with at_ := 3 }, S') else (failQ e0, t.end_ (failQ e0), S') by unfold stepW; rw [if_pos hat, hpq])
  have HKc := Lib.hid (fun (w' : World) (hh : w'.heap[tb]? = w.heap[tb]?) => (show w'.cell? ⟨tb, 6, none⟩ = some (.string t.temp) ∧ w'.cell? ⟨tb, 2, none⟩ = some (.int .i64 t.l.who) ∧ w'.cell? ⟨tb, 3, none⟩ = some (.int .i64 t.l.inc) ∧ w'.cell? ⟨tb, 4, none⟩ = some (.int .i64 t.l.epoch) ∧ w'.cell? ⟨tb, 5, none⟩ = some (.int .i64 t.l.till) from ⟨(hb.keep hh).cell 6, (hb.keep hh).cell 2, (hb.keep hh).cell 3, (hb.keep hh).cell 4, (hb.keep hh).cell 5⟩))
  have htb := hb.lt
  have hne := hH.ne hb.at_ (by decide)
  have HX := Lib.hid hb
  have HH := Lib.hid hH
  clear hH hX hb hpq hat
  go_enter Tryz.func20, Tryz.ntmps20
  go_upto_region 3 with fail
  (refine wp_region_held_drew (S := fun w' => w'.cell? ⟨tb, 6, none⟩ = some (.string t.temp) ∧ w'.cell? ⟨tb, 2, none⟩ = some (.int .i64 t.l.who) ∧ w'.cell? ⟨tb, 3, none⟩ = some (.int .i64 t.l.inc) ∧ w'.cell? ⟨tb, 4, none⟩ = some (.int .i64 t.l.epoch) ∧ w'.cell? ⟨tb, 5, none⟩ = some (.int .i64 t.l.till)) (by kernel_rfl) (HKc.out _ rfl) (fun hHeld => ?_))
  (refine wpAnyH_take (i := 0) (oi := _) (v := ?_) (ops_at rfl) (by kernel_rfl) (by kernel_rfl) (by kernel_rfl) (fun _ _ _ h => h) (Or.inl ⟨by rfl, ?_⟩) (by assumption) ?_; rotate_left; (focus (intro w hSw; (try dsimp only at hSw); go_simp; (try with_reducible rfl))); (try simp only [Act.put, List.setIfInBounds_toArray, List.set_cons_zero, List.set_cons_succ])); (refine wpAnyH_take (i := 1) (oi := _) (v := ?_) (ops_at rfl) (by kernel_rfl) (by kernel_rfl) (by kernel_rfl) (fun _ _ _ h => h) (Or.inl ⟨by rfl, ?_⟩) (by assumption) ?_; rotate_left; (focus (intro w hSw; (try dsimp only at hSw); go_simp; (try with_reducible rfl))); (try simp only [Act.put, List.setIfInBounds_toArray, List.set_cons_zero, List.set_cons_succ])); (refine wpAnyH_take (i := 2) (oi := _) (v := ?_) (ops_at rfl) (by kernel_rfl) (by kernel_rfl) (by kernel_rfl) (fun _ _ _ h => h) (Or.inl ⟨by rfl, ?_⟩) (by assumption) ?_; rotate_left; (focus (intro w hSw; (try dsimp only at hSw); go_simp; (try with_reducible rfl))); (try simp only [Act.put, List.setIfInBounds_toArray, List.set_cons_zero, List.set_cons_succ])); (refine wpAnyH_take (i := 3) (oi := _) (v := ?_) (ops_at rfl) (by kernel_rfl) (by kernel_rfl) (by kernel_rfl) (fun _ _ _ h => h) (Or.inl ⟨by rfl, ?_⟩) (by assumption) ?_; rotate_left; (focus (intro w hSw; (try dsimp only at hSw); go_simp; (try with_reducible rfl))); (try simp only [Act.put, List.setIfInBounds_toArray, List.set_cons_zero, List.set_cons_succ])); (refine wpAnyH_take (i := 4) (oi := _) (v := ?_) (ops_at rfl) (by kernel_rfl) (by kernel_rfl) (by kernel_rfl) (fun _ _ _ h => h) (Or.inl ⟨by rfl, ?_⟩) (by assumption) ?_; rotate_left; (focus (intro w hSw; (try dsimp only at hSw); go_simp; (try with_reducible rfl))); (try simp only [Act.put, List.setIfInBounds_toArray, List.set_cons_zero, List.set_cons_succ])); (refine wpAnyH_take (i := 5) (oi := _) (v := ?_) (ops_at rfl) (by kernel_rfl) (by kernel_rfl) (by kernel_rfl) (fun _ _ _ h => h) (Or.inl ⟨by rfl, ?_⟩) (by assumption) ?_; rotate_left; (focus (intro w hSw; (try dsimp only at hSw); go_simp; (try with_reducible rfl))); (try simp only [Act.put, List.setIfInBounds_toArray, List.set_cons_zero, List.set_cons_succ])); (refine wpAnyH_take (i := 6) (oi := _) (v := ?_) (ops_at rfl) (by kernel_rfl) (by kernel_rfl) (by kernel_rfl) (fun _ _ _ h => h) (Or.inl ⟨by rfl, ?_⟩) (by assumption) ?_; rotate_left; (focus (intro w hSw; (try dsimp only at hSw); go_simp; (try with_reducible rfl))); (try simp only [Act.put, List.setIfInBounds_toArray, List.set_cons_zero, List.set_cons_succ])); (refine wpAnyH_take (i := 7) (oi := _) (v := ?_) (ops_at rfl) (by kernel_rfl) (by kernel_rfl) (by kernel_rfl) (fun _ _ _ h => h) (Or.inl ⟨by rfl, ?_⟩) (by assumption) ?_; rotate_left; (focus (intro w hSw; (try dsimp only at hSw); go_simp; (try with_reducible rfl))); (try simp only [Act.put, List.setIfInBounds_toArray, List.set_cons_zero, List.set_cons_succ])); (refine wpAnyH_take (i := 8) (oi := _) (v := ?_) (ops_at rfl) (by kernel_rfl) (by kernel_rfl) (by kernel_rfl) (fun _ _ _ h => h) (Or.inl ⟨by rfl, ?_⟩) (by assumption) ?_; rotate_left; (focus (intro w hSw; (try dsimp only at hSw); go_simp; (try with_reducible rfl))); (try simp only [Act.put, List.setIfInBounds_toArray, List.set_cons_zero, List.set_cons_succ]))
  (refine wpAnyH_ready (rs := [9]) (by kernel_rfl) (by simp) (AllReadyH.cons (ops_at rfl) (fun K hK => ?_) AllReadyH.nil); go_simp; (refine (rlock_any t.l _).mono ?_; rintro e w2 ⟨LA, ln, lc, rfl, hln, hown, hnone, hb2⟩); refine hK.out _ _ (HKc.out _ (hb2.block tb htb)) (fun hHeld => ?_); clear hK K; (try simp only [Act.put, List.setIfInBounds_toArray, List.set_cons_zero, List.set_cons_succ]))
  obtain rfl : ln = 34 := by have := hln.out; rw [t.l.bytes_len] at this; exact this.symm
  have hb2' : Below w.heap.size w w2 := bl_of_drew hb2
  have HLB := Lib.hid (own_bs hown t.l.bytes_by (by omega))
  have hz2 : w.heap.size ≤ w2.heap.size := hb2'.size
  have HF2 := Lib.hid (HH.out.below hb2')
  clear hln hown hnone
  (refine wpAnyH_ready (rs := [10]) (by kernel_rfl) (by simp) (AllReadyH.cons (ops_at rfl) (fun K hK => ?_) AllReadyH.nil); go_simp; (refine (put_h HF2.out hn t.temp t.l.bytes LA 34 lc hp (by omega) HLB.out).mono ?_; rintro e w3 ⟨rfl, h4, o4⟩; rw [HP.out] at h4 ⊢); refine hK.out _ _ (HKc.out _ ((o4.block tb (by omega) hne).trans (hb2'.block tb htb))) (fun hHeld => ?_); clear hK K; (try simp only [Act.put, List.setIfInBounds_toArray, List.set_cons_zero, List.set_cons_succ]))
  (refine wpAnyH_take (i := 11) (oi := _) (v := ?_) (ops_at rfl) (by kernel_rfl) (by kernel_rfl) (by kernel_rfl) (fun _ _ _ h => h) (Or.inl ⟨by rfl, ?_⟩) (by assumption) ?_; rotate_left; (focus (intro w hSw; (try dsimp only at hSw); go_simp; (try with_reducible rfl))); (try simp only [Act.put, List.setIfInBounds_toArray, List.set_cons_zero, List.set_cons_succ])); (refine wpAnyH_take (i := 12) (oi := _) (v := ?_) (ops_at rfl) (by kernel_rfl) (by kernel_rfl) (by kernel_rfl) (fun _ _ _ h => h) (Or.inl ⟨by rfl, ?_⟩) (by assumption) ?_; rotate_left; (focus (intro w hSw; (try dsimp only at hSw); go_simp; (try with_reducible rfl))); (try simp only [Act.put, List.setIfInBounds_toArray, List.set_cons_zero, List.set_cons_succ])); (refine wpAnyH_take (i := 13) (oi := _) (v := ?_) (ops_at rfl) (by kernel_rfl) (by kernel_rfl) (by kernel_rfl) (fun _ _ _ h => h) (Or.inl ⟨by rfl, ?_⟩) (by assumption) ?_; rotate_left; (focus (intro w hSw; (try dsimp only at hSw); go_simp; (try with_reducible rfl))); (try simp only [Act.put, List.setIfInBounds_toArray, List.set_cons_zero, List.set_cons_succ])); (refine wpAnyH_take (i := 14) (oi := _) (v := ?_) (ops_at rfl) (by kernel_rfl) (by kernel_rfl) (by kernel_rfl) (fun _ _ _ h => h) (Or.inl ⟨by rfl, ?_⟩) (by assumption) ?_; rotate_left; (focus (intro w hSw; (try dsimp only at hSw); go_simp; (try with_reducible rfl))); (try simp only [Act.put, List.setIfInBounds_toArray, List.set_cons_zero, List.set_cons_succ])); (refine wpAnyH_take (i := 15) (oi := _) (v := ?_) (ops_at rfl) (by kernel_rfl) (by kernel_rfl) (by kernel_rfl) (fun _ _ _ h => h) (Or.inl ⟨by rfl, ?_⟩) (by assumption) ?_; rotate_left; (focus (intro w hSw; (try dsimp only at hSw); go_simp; (try with_reducible rfl))); (try simp only [Act.put, List.setIfInBounds_toArray, List.set_cons_zero, List.set_cons_succ]))
  (refine wpAnyH_done (by kernel_rfl) ?_ _)
  clear hHeld
  have hX3 : Blk w3 tb 64 t.cells := ((Blk.below HX.out hb2').only o4 hne)
  have HX3 := Lib.hid hX3
  have HF3 := Lib.hid h4
  have HO3 := Lib.hid ((Only.of_below hb2' [fb, mb, tb]).trans (o4.more (cs := [fb, mb, tb]) (fun b hb => .inl (by simp at hb ⊢; rcases hb with h | h <;> simp [h]))))
  have d8 : w3.cell? ⟨tb, 8, none⟩ = some (.int .i64 t.at_) := hX3.cell 8
  have z8 := hX3.frozen 8
  clear h4 o4 hb2' hX3 HKc HLB HF2 c8
  by_cases h0 : e0 = 0
  · subst h0
    rw [if_pos rfl] at HM
    go_wp2_with fail
    go_ret
    rw [HM.out]
    obtain ⟨h1, h2, h3⟩ := wk_set HF3.out HX3.out hw (t' := { t with at_ := 3 }) ((Only.refl _ _).setCell (.inl (by simp)) _) (HX3.out.set_ 8 _)
    exact ⟨rfl, h1, h2, HO3.out.trans h3⟩
  have hb0 : (e0 == 0) = false := by rw [beq_eq_false_iff_ne]; exact h0
  rw [if_neg h0] at HM
  by_cases h2 : e0 = 2
  · have hq : failQ e0 = 4 := by unfold failQ; rw [if_pos h2]
    rw [hq] at HM
    subst h2
    clear hq d8 z8
    go_wp2_with fail
    refine (wend_any HF3.out HX3.out hw 4).mono ?_
    (rintro e w' hd; obtain rfl := hd.ret; have HD := Lib.hid (hd.after HO3.out); clear hd; go_wp2_with fail; go_ret; rw [HM.out]; exact HD.out)
  · have hq : failQ e0 = 3 := by unfold failQ; rw [if_neg h2]
    have hb2 : (e0 == 2) = false := by rw [beq_eq_false_iff_ne]; exact h2
    rw [hq] at HM
    clear hq d8 z8 h2
    go_wp2_with fail
    refine (wend_any HF3.out HX3.out hw 3).mono ?_
    (rintro e w' hd; obtain rfl := hd.ret; have HD := Lib.hid (hd.after HO3.out); clear hd; go_wp2_with fail; go_ret; rw [HM.out]; exact HD.out)
end
end Go.Proofs.YtahdeighocmijaaGreatDoor
namespace Go.Proofs.YtahdeighocmijaaGreatDoor
set_option linter.unusedSimpArgs false
set_option linter.unusedVariables false
open Go.RowKit
open Crc (Bytes)
section
variable {w0 w : World} {fb mb tb n : Nat} {S : Fs} {t : Wk}
theorem stepW_3 (h : t.at_ = 3) : stepW S t = if (S.moveF t.temp t.gn [(t.gn, t.gs)]).1.2 ≠ 0 then (0, { t with at_ := 4 }, (S.moveF t.temp t.gn [(t.gn, t.gs)]).2) else (1, Wk.end_ { t with gs := (S.moveF t.temp t.gn [(t.gn, t.gs)]).1.1 } 1, (S.moveF t.temp t.gn [(t.gn, t.gs)]).2) := by
  unfold stepW; rw [if_neg (by rw [h]; decide), if_pos h]
theorem stepW_4 (h : t.at_ = 4) : stepW S t = (2, t.end_ 2, (S.dropF t.temp []).2) := by unfold stepW; rw [if_neg (by rw [h]; decide), if_neg (by rw [h]; decide), if_pos h]
theorem stepW_5 (h : t.at_ = 5) : stepW S t = (t.told, t, S) := by unfold stepW; rw [if_neg (by rw [h]; decide), if_neg (by rw [h]; decide), if_neg (by rw [h]; decide)]
set_option maxRecDepth 100000 in
set_option maxHeartbeats 4000000 in
theorem wstep3_any (hH : FsH w0 w fb mb S n) (hX : WkAt w tb t) (hw : w0.heap.size ≤ tb) (hp : t.temp.size ≤ 1000) (hg : t.gn.size ≤ 1000) (hn : n ≤ 4999) (hat : t.at_ = 3) :
    Calls Tryz.prog 20 #[.pointer (some ⟨tb, 0, none⟩), .pointer (some ⟨fb, 0, none⟩)] w fun e w' => WDid w0 fb mb tb w w' e (stepW S t).1 (stepW S t).2.2 (n + 1) (stepW S t).2.1 := by
  have hb : Blk w tb 64 t.cells := hX
  have c8 : w.cell? ⟨tb, 8, none⟩ = some (.int .i64 3) := by rw [← hat]; exact hb.cell 8
  obtain ⟨⟨⟨st, e0⟩, S'⟩, hpq⟩ : ∃ p, S.moveF t.temp t.gn [(t.gn, t.gs)] = p := ⟨_, rfl⟩
  have HP := Lib.hid hpq
  have HM := Lib.hid (show stepW S t = if e0 ≠ 0 then (0, { t with at_ := 4 }, S') else (1, Wk.end_ { t with gs := st } 1, S') by rw [stepW_3 hat, hpq])
  have HKc := Lib.hid (fun (w' : World) (hh : w'.heap[tb]? = w.heap[tb]?) => (show w'.cell? ⟨tb, 6, none⟩ = some (.string t.temp) ∧ w'.cell? ⟨tb, 0, none⟩ = some (.string t.gn) ∧ w'.cell? ⟨tb, 1, none⟩ = some (.int .i64 t.gs) from ⟨(hb.keep hh).cell 6, (hb.keep hh).cell 0, (hb.keep hh).cell 1⟩))
  have htb := hb.lt
  have hne := hH.ne hb.at_ (by decide)
  have HX := Lib.hid hb
  have HH := Lib.hid hH
  clear hH hX hb hpq hat
  go_enter Tryz.func20, Tryz.ntmps20
  go_upto_region 12 with fail
  have hal := fun o => Below.heap_alloc w o tb htb
  (refine wp_region_held_drew (S := fun w' => w'.cell? ⟨tb, 6, none⟩ = some (.string t.temp) ∧ w'.cell? ⟨tb, 0, none⟩ = some (.string t.gn) ∧ w'.cell? ⟨tb, 1, none⟩ = some (.int .i64 t.gs)) (by kernel_rfl) (HKc.out _ rfl) (fun hHeld => ?_))
  (refine wpAnyH_take (i := 0) (oi := _) (v := ?_) (ops_at rfl) (by kernel_rfl) (by kernel_rfl) (by kernel_rfl) (fun _ _ _ h => h) (Or.inl ⟨by rfl, ?_⟩) (by assumption) ?_; rotate_left; (focus (intro w hSw; (try dsimp only at hSw); go_simp; (try with_reducible rfl))); (try simp only [Act.put, List.setIfInBounds_toArray, List.set_cons_zero, List.set_cons_succ])); (refine wpAnyH_take (i := 1) (oi := _) (v := ?_) (ops_at rfl) (by kernel_rfl) (by kernel_rfl) (by kernel_rfl) (fun _ _ _ h => h) (Or.inl ⟨by rfl, ?_⟩) (by assumption) ?_; rotate_left; (focus (intro w hSw; (try dsimp only at hSw); go_simp; (try with_reducible rfl))); (try simp only [Act.put, List.setIfInBounds_toArray, List.set_cons_zero, List.set_cons_succ])); (refine wpAnyH_take (i := 2) (oi := _) (v := ?_) (ops_at rfl) (by kernel_rfl) (by kernel_rfl) (by kernel_rfl) (fun _ _ _ h => h) (Or.inl ⟨by rfl, ?_⟩) (by assumption) ?_; rotate_left; (focus (intro w hSw; (try dsimp only at hSw); go_simp; (try with_reducible rfl))); (try simp only [Act.put, List.setIfInBounds_toArray, List.set_cons_zero, List.set_cons_succ])); (refine wpAnyH_take (i := 3) (oi := _) (v := ?_) (ops_at rfl) (by kernel_rfl) (by kernel_rfl) (by kernel_rfl) (fun _ _ _ h => h) (Or.inl ⟨by rfl, ?_⟩) (by assumption) ?_; rotate_left; (focus (intro w hSw; (try dsimp only at hSw); go_simp; (try with_reducible rfl))); (try simp only [Act.put, List.setIfInBounds_toArray, List.set_cons_zero, List.set_cons_succ])); (refine wpAnyH_take (i := 4) (oi := _) (v := ?_) (ops_at rfl) (by kernel_rfl) (by kernel_rfl) (by kernel_rfl) (fun _ _ _ h => h) (Or.inl ⟨by rfl, ?_⟩) (by assumption) ?_; rotate_left; (focus (intro w hSw; (try dsimp only at hSw); go_simp; (try with_reducible rfl))); (try simp only [Act.put, List.setIfInBounds_toArray, List.set_cons_zero, List.set_cons_succ])); (refine wpAnyH_take (i := 5) (oi := _) (v := ?_) (ops_at rfl) (by kernel_rfl) (by kernel_rfl) (by kernel_rfl) (fun _ _ _ h => h) (Or.inl ⟨by rfl, ?_⟩) (by assumption) ?_; rotate_left; (focus (intro w hSw; (try dsimp only at hSw); go_simp; (try with_reducible rfl))); (try simp only [Act.put, List.setIfInBounds_toArray, List.set_cons_zero, List.set_cons_succ])); (refine wpAnyH_take (i := 6) (oi := _) (v := ?_) (ops_at rfl) (by kernel_rfl) (by kernel_rfl) (by kernel_rfl) (fun _ _ _ h => h) (Or.inl ⟨by rfl, ?_⟩) (by assumption) ?_; rotate_left; (focus (intro w hSw; (try dsimp only at hSw); go_simp; (try with_reducible rfl))); (try simp only [Act.put, List.setIfInBounds_toArray, List.set_cons_zero, List.set_cons_succ])); (refine wpAnyH_take (i := 7) (oi := _) (v := ?_) (ops_at rfl) (by kernel_rfl) (by kernel_rfl) (by kernel_rfl) (fun _ _ _ h => h) (Or.inl ⟨by rfl, ?_⟩) (by assumption) ?_; rotate_left; (focus (intro w hSw; (try dsimp only at hSw); go_simp; (try with_reducible rfl))); (try simp only [Act.put, List.setIfInBounds_toArray, List.set_cons_zero, List.set_cons_succ])); (refine wpAnyH_take (i := 8) (oi := _) (v := ?_) (ops_at rfl) (by kernel_rfl) (by kernel_rfl) (by kernel_rfl) (fun _ _ _ h => h) (Or.inl ⟨by rfl, ?_⟩) (by assumption) ?_; rotate_left; (focus (intro w hSw; (try dsimp only at hSw); go_simp; (try with_reducible rfl))); (try simp only [Act.put, List.setIfInBounds_toArray, List.set_cons_zero, List.set_cons_succ])); (refine wpAnyH_take (i := 9) (oi := _) (v := ?_) (ops_at rfl) (by kernel_rfl) (by kernel_rfl) (by kernel_rfl) (fun _ _ _ h => h) (Or.inl ⟨by rfl, ?_⟩) (by assumption) ?_; rotate_left; (focus (intro w hSw; (try dsimp only at hSw); go_simp; (try with_reducible rfl))); (try simp only [Act.put, List.setIfInBounds_toArray, List.set_cons_zero, List.set_cons_succ])); (refine wpAnyH_take (i := 10) (oi := _) (v := ?_) (ops_at rfl) (by kernel_rfl) (by kernel_rfl) (by kernel_rfl) (fun _ _ _ h => h) (Or.inl ⟨by rfl, ?_⟩) (by assumption) ?_; rotate_left; (focus (intro w hSw; (try dsimp only at hSw); go_simp; (try with_reducible rfl))); (try simp only [Act.put, List.setIfInBounds_toArray, List.set_cons_zero, List.set_cons_succ])); (refine wpAnyH_take (i := 11) (oi := _) (v := ?_) (ops_at rfl) (by kernel_rfl) (by kernel_rfl) (by kernel_rfl) (fun _ _ _ h => h) (Or.inl ⟨by rfl, ?_⟩) (by assumption) ?_; rotate_left; (focus (intro w hSw; (try dsimp only at hSw); go_simp; (try with_reducible rfl))); (try simp only [Act.put, List.setIfInBounds_toArray, List.set_cons_zero, List.set_cons_succ])); (refine wpAnyH_take (i := 12) (oi := _) (v := ?_) (ops_at rfl) (by kernel_rfl) (by kernel_rfl) (by kernel_rfl) (fun _ _ _ h => h) (Or.inl ⟨by rfl, ?_⟩) (by assumption) ?_; rotate_left; (focus (intro w hSw; (try dsimp only at hSw); go_simp; (try with_reducible rfl))); (try simp only [Act.put, List.setIfInBounds_toArray, List.set_cons_zero, List.set_cons_succ])); (refine wpAnyH_take (i := 13) (oi := _) (v := ?_) (ops_at rfl) (by kernel_rfl) (by kernel_rfl) (by kernel_rfl) (fun _ _ _ h => h) (Or.inl ⟨by rfl, ?_⟩) (by assumption) ?_; rotate_left; (focus (intro w hSw; (try dsimp only at hSw); go_simp; (try with_reducible rfl))); (try simp only [Act.put, List.setIfInBounds_toArray, List.set_cons_zero, List.set_cons_succ]))
  (refine wpAnyH_ready (rs := [14]) (by kernel_rfl) (by simp) (AllReadyH.cons (ops_at rfl) (fun K hK => ?_) AllReadyH.nil); go_simp; skip; refine hK.out _ _ (HKc.out _ (hal _)) (fun hHeld => ?_); clear hK K; (try simp only [Act.put, List.setIfInBounds_toArray, List.set_cons_zero, List.set_cons_succ]))
  (refine wpAnyH_ready (rs := [15]) (by kernel_rfl) (by simp) (AllReadyH.cons (ops_at rfl) (fun K hK => ?_) AllReadyH.nil); go_simp; (refine (move_h (HH.out.drew.alloc) hn t.temp t.gn [(t.gn, t.gs)] _ 1 1 hp hg (Grd.oneW rfl t.gn hg t.gs)).mono ?_; rintro e w1 ⟨rfl, h1, o1⟩; rw [HP.out] at h1 ⊢); refine hK.out _ _ (HKc.out _ ((o1.block tb (by simp; omega) hne).trans (hal _))) (fun hHeld => ?_); clear hK K; (try simp only [Act.put, List.setIfInBounds_toArray, List.set_cons_zero, List.set_cons_succ]))
  (refine wpAnyH_take (i := 16) (oi := _) (v := ?_) (ops_at rfl) (by kernel_rfl) (by kernel_rfl) (by kernel_rfl) (fun _ _ _ h => h) (Or.inl ⟨by rfl, ?_⟩) (by assumption) ?_; rotate_left; (focus (intro w hSw; (try dsimp only at hSw); go_simp; (try with_reducible rfl))); (try simp only [Act.put, List.setIfInBounds_toArray, List.set_cons_zero, List.set_cons_succ])); (refine wpAnyH_take (i := 17) (oi := _) (v := ?_) (ops_at rfl) (by kernel_rfl) (by kernel_rfl) (by kernel_rfl) (fun _ _ _ h => h) (Or.inl ⟨by rfl, ?_⟩) (by assumption) ?_; rotate_left; (focus (intro w hSw; (try dsimp only at hSw); go_simp; (try with_reducible rfl))); (try simp only [Act.put, List.setIfInBounds_toArray, List.set_cons_zero, List.set_cons_succ])); (refine wpAnyH_take (i := 18) (oi := _) (v := ?_) (ops_at rfl) (by kernel_rfl) (by kernel_rfl) (by kernel_rfl) (fun _ _ _ h => h) (Or.inl ⟨by rfl, ?_⟩) (by assumption) ?_; rotate_left; (focus (intro w hSw; (try dsimp only at hSw); go_simp; (try with_reducible rfl))); (try simp only [Act.put, List.setIfInBounds_toArray, List.set_cons_zero, List.set_cons_succ])); (refine wpAnyH_take (i := 19) (oi := _) (v := ?_) (ops_at rfl) (by kernel_rfl) (by kernel_rfl) (by kernel_rfl) (fun _ _ _ h => h) (Or.inl ⟨by rfl, ?_⟩) (by assumption) ?_; rotate_left; (focus (intro w hSw; (try dsimp only at hSw); go_simp; (try with_reducible rfl))); (try simp only [Act.put, List.setIfInBounds_toArray, List.set_cons_zero, List.set_cons_succ])); (refine wpAnyH_take (i := 20) (oi := _) (v := ?_) (ops_at rfl) (by kernel_rfl) (by kernel_rfl) (by kernel_rfl) (fun _ _ _ h => h) (Or.inl ⟨by rfl, ?_⟩) (by assumption) ?_; rotate_left; (focus (intro w hSw; (try dsimp only at hSw); go_simp; (try with_reducible rfl))); (try simp only [Act.put, List.setIfInBounds_toArray, List.set_cons_zero, List.set_cons_succ]))
  (refine wpAnyH_done (by kernel_rfl) ?_ _)
  clear hHeld
  have o2 : Only [fb, mb] w w1 := (Only.of_below (bl_alloc (Below.refl _ _).drew) [fb, mb]).trans o1
  have hX1 : Blk w1 tb 64 t.cells := HX.out.only o2 hne
  have HX1 := Lib.hid hX1
  have HO3 := Lib.hid (o2.more (cs := [fb, mb, tb]) (fun b hb => .inl (by simp at hb ⊢; rcases hb with h | h <;> simp [h])))
  have HH1 := Lib.hid h1
  have d8 : w1.cell? ⟨tb, 8, none⟩ = some (.int .i64 t.at_) := hX1.cell 8
  have z8 := hX1.frozen 8
  have d1 : w1.cell? ⟨tb, 1, none⟩ = some (.int .i64 t.gs) := hX1.cell 1
  have z1 := hX1.frozen 1
  clear h1 o1 o2 c8 HX HH hal hX1
  by_cases h0 : e0 = 0
  · subst h0
    rw [if_neg (by simp)] at HM
    go_upto_region 17 with fail
    obtain ⟨h1, h2, h3⟩ := wk_set HH1.out HX1.out hw (t' := { t with gs := st }) ((Only.refl _ _).setCell (.inl (by simp)) (.int .i64 st)) (HX1.out.set_ 1 (.int .i64 st))
    generalize hw5 : w1.setCell ⟨tb, 1, none⟩ (.int .i64 st) = w5 at *
    have H1 := Lib.hid h1
    have H2 := Lib.hid h2
    have H3 := Lib.hid (HO3.out.trans h3)
    clear hw5 h1 h2 h3 d8 z8 d1 z1 HO3
    have HO3 := H3
    go_wp2_with fail
    refine (wend_any H1.out H2.out hw 1).mono ?_
    (rintro e w' hd; obtain rfl := hd.ret; have HD := Lib.hid (hd.after HO3.out); clear hd; go_wp2_with fail; go_ret; rw [HM.out]; exact HD.out)
  · have hb0 : (e0 == 0) = false := by rw [beq_eq_false_iff_ne]; exact h0
    rw [if_pos h0] at HM
    go_wp2_with fail
    go_ret
    rw [HM.out]
    obtain ⟨h1, h2, h3⟩ := wk_set HH1.out HX1.out hw (t' := { t with at_ := 4 }) ((Only.refl _ _).setCell (.inl (by simp)) _) (HX1.out.set_ 8 _)
    exact ⟨rfl, h1, h2, HO3.out.trans h3⟩
set_option maxRecDepth 100000 in
set_option maxHeartbeats 4000000 in
theorem wstep4_any (hH : FsH w0 w fb mb S n) (hX : WkAt w tb t) (hw : w0.heap.size ≤ tb) (hp : t.temp.size ≤ 1000) (hn : n ≤ 4999) (hat : t.at_ = 4) :
    Calls Tryz.prog 20 #[.pointer (some ⟨tb, 0, none⟩), .pointer (some ⟨fb, 0, none⟩)] w fun e w' => WDid w0 fb mb tb w w' e (stepW S t).1 (stepW S t).2.2 (n + 1) (stepW S t).2.1 := by
  have hb : Blk w tb 64 t.cells := hX
  have c8 : w.cell? ⟨tb, 8, none⟩ = some (.int .i64 4) := by rw [← hat]; exact hb.cell 8
  have c6 : w.cell? ⟨tb, 6, none⟩ = some (.string t.temp) := hb.cell 6
  have HM := Lib.hid (stepW_4 (S := S) hat)
  have hne := hH.ne hb.at_ (by decide)
  have HX := Lib.hid hb
  have HH := Lib.hid hH
  clear hH hX hb hat
  go_enter Tryz.func20, Tryz.ntmps20
  go_wp2_with fail
  refine (drop_h HH.out hn t.temp [] none 0 0 hp (Grd.nil _)).mono ?_
  rintro e w1 ⟨rfl, h1, o1⟩
  have HX1 := Lib.hid (show WkAt w1 tb t from HX.out.only o1 hne)
  have HO3 := Lib.hid (o1.more (cs := [fb, mb, tb]) (fun b hb => .inl (by simp at hb ⊢; rcases hb with h | h <;> simp [h])))
  have HH1 := Lib.hid h1
  clear h1 o1 c8 c6 HX HH
  go_wp2_with fail
  refine (wend_any HH1.out HX1.out hw 2).mono ?_
  (rintro e w' hd; obtain rfl := hd.ret; have HD := Lib.hid (hd.after HO3.out); clear hd; go_wp2_with fail; go_ret; rw [HM.out]; exact HD.out)
theorem wstep_any (hH : FsH w0 w fb mb S n) (hX : WkAt w tb t) (hw : w0.heap.size ≤ tb) (hp : t.temp.size ≤ 1000) (hg : t.gn.size ≤ 1000) (hn : n ≤ 4999) (hat : t.at_ = 2 ∨ t.at_ = 3 ∨ t.at_ = 4) :
    Calls Tryz.prog 20 #[.pointer (some ⟨tb, 0, none⟩), .pointer (some ⟨fb, 0, none⟩)] w fun e w' => WDid w0 fb mb tb w w' e (stepW S t).1 (stepW S t).2.2 (n + 1) (stepW S t).2.1 := by
  rcases hat with h | h | h
  · exact wstep2_any hH hX hw hp hn h
  · exact wstep3_any hH hX hw hp hg hn h
  · exact wstep4_any hH hX hw hp hn h
end
def wk0 (gn : ByteArray) (gs : Int) (l : Lk) (temp : ByteArray) (free : Bool) : Wk := ⟨gn, gs, l, temp, free, 2, 0⟩
set_option maxRecDepth 100000 in
set_option maxHeartbeats 4000000 in
theorem free_any (gn : ByteArray) (gs : Int) (l : Lk) (who inc c : Nat) (w : World) (h1 : who < 100) (h2 : inc < 100) (h3 : c < 100) (hl1 : l.who = who) (hl2 : l.inc = inc) :
    Calls Tryz.prog 8 #[.agg #[.string gn, .int .i64 gs], lkV l, .int .i64 c] w fun e w' => ∃ tb, e = .returned (.pointer (some ⟨tb, 0, none⟩)) ∧ w.heap.size ≤ tb ∧ WkAt w' tb (wk0 gn gs { l with till := 0 } (tmpOf who inc c) true) ∧ Below w.heap.size w w' := by
  unfold lkV
  go_enter Tryz.func8, Tryz.ntmps8
  go_upto_region 2 with fail
  obtain ⟨g1, hg1⟩ : ∃ g1, g1 = w.heap.size := ⟨_, rfl⟩
  obtain ⟨g2, hg2⟩ : ∃ g2, g2 = w.heap.size + 1 := ⟨_, rfl⟩
  rw [← hg2, ← hg1]
  refine at_world (fun W => Blk W g1 26 [.string gn, .int .i64 gs] ∧ Blk W g2 28 [.int .i64 l.who, .int .i64 l.inc, .int .i64 l.epoch, .int .i64 0] ∧ Below w.heap.size w W) ⟨(blk_new hg1).alloc _, by rw [hl1, hl2]; exact blk_new (by simp [hg2]), bl_alloc (bl_alloc (Below.refl _ _))⟩ ?_
  rintro W ⟨k1, k2, k4⟩
  have HG := Lib.hid k1
  have HL := Lib.hid k2
  have HB := Lib.hid k4
  have hsz : w.heap.size ≤ W.heap.size := k4.size
  rw [hl1, hl2] at k2
  have HL2 := Lib.hid k2
  have HKc := Lib.hid (fun (w' : World) (hb : Below W.heap.size W w') => (show w'.cell? ⟨g1, 0, none⟩ = some (.string gn) ∧ w'.cell? ⟨g1, 1, none⟩ = some (.int .i64 gs) ∧ w'.cell? ⟨g2, 0, none⟩ = some (.int .i64 (who : Int)) ∧ w'.cell? ⟨g2, 1, none⟩ = some (.int .i64 (inc : Int)) ∧ w'.cell? ⟨g2, 2, none⟩ = some (.int .i64 l.epoch) ∧ w'.cell? ⟨g2, 3, none⟩ = some (.int .i64 0) from ⟨(k1.below hb).cell 0, (k1.below hb).cell 1, (k2.below hb).cell 0, (k2.below hb).cell 1, (k2.below hb).cell 2, (k2.below hb).cell 3⟩))
  clear k1 k2 k4 hg1 hg2
  (refine wp_region_held_drew (S := fun w' => w'.cell? ⟨g1, 0, none⟩ = some (.string gn) ∧ w'.cell? ⟨g1, 1, none⟩ = some (.int .i64 gs) ∧ w'.cell? ⟨g2, 0, none⟩ = some (.int .i64 (who : Int)) ∧ w'.cell? ⟨g2, 1, none⟩ = some (.int .i64 (inc : Int)) ∧ w'.cell? ⟨g2, 2, none⟩ = some (.int .i64 l.epoch) ∧ w'.cell? ⟨g2, 3, none⟩ = some (.int .i64 0)) (by kernel_rfl) (HKc.out _ (Below.refl _ _).drew) (fun hHeld => ?_))
  (refine wpAnyH_take (i := 0) (oi := _) (v := ?_) (ops_at rfl) (by kernel_rfl) (by kernel_rfl) (by kernel_rfl) (fun _ _ _ h => h) (Or.inl ⟨by rfl, ?_⟩) (by assumption) ?_; rotate_left; (focus (intro w hSw; (try dsimp only at hSw); go_simp; (try with_reducible rfl))); (try simp only [Act.put, List.setIfInBounds_toArray, List.set_cons_zero, List.set_cons_succ])); (refine wpAnyH_take (i := 1) (oi := _) (v := ?_) (ops_at rfl) (by kernel_rfl) (by kernel_rfl) (by kernel_rfl) (fun _ _ _ h => h) (Or.inl ⟨by rfl, ?_⟩) (by assumption) ?_; rotate_left; (focus (intro w hSw; (try dsimp only at hSw); go_simp; (try with_reducible rfl))); (try simp only [Act.put, List.setIfInBounds_toArray, List.set_cons_zero, List.set_cons_succ])); (refine wpAnyH_take (i := 2) (oi := _) (v := ?_) (ops_at rfl) (by kernel_rfl) (by kernel_rfl) (by kernel_rfl) (fun _ _ _ h => h) (Or.inl ⟨by rfl, ?_⟩) (by assumption) ?_; rotate_left; (focus (intro w hSw; (try dsimp only at hSw); go_simp; (try with_reducible rfl))); (try simp only [Act.put, List.setIfInBounds_toArray, List.set_cons_zero, List.set_cons_succ])); (refine wpAnyH_take (i := 3) (oi := _) (v := ?_) (ops_at rfl) (by kernel_rfl) (by kernel_rfl) (by kernel_rfl) (fun _ _ _ h => h) (Or.inl ⟨by rfl, ?_⟩) (by assumption) ?_; rotate_left; (focus (intro w hSw; (try dsimp only at hSw); go_simp; (try with_reducible rfl))); (try simp only [Act.put, List.setIfInBounds_toArray, List.set_cons_zero, List.set_cons_succ])); (refine wpAnyH_take (i := 4) (oi := _) (v := ?_) (ops_at rfl) (by kernel_rfl) (by kernel_rfl) (by kernel_rfl) (fun _ _ _ h => h) (Or.inl ⟨by rfl, ?_⟩) (by assumption) ?_; rotate_left; (focus (intro w hSw; (try dsimp only at hSw); go_simp; (try with_reducible rfl))); (try simp only [Act.put, List.setIfInBounds_toArray, List.set_cons_zero, List.set_cons_succ])); (refine wpAnyH_take (i := 5) (oi := _) (v := ?_) (ops_at rfl) (by kernel_rfl) (by kernel_rfl) (by kernel_rfl) (fun _ _ _ h => h) (Or.inl ⟨by rfl, ?_⟩) (by assumption) ?_; rotate_left; (focus (intro w hSw; (try dsimp only at hSw); go_simp; (try with_reducible rfl))); (try simp only [Act.put, List.setIfInBounds_toArray, List.set_cons_zero, List.set_cons_succ])); (refine wpAnyH_take (i := 6) (oi := _) (v := ?_) (ops_at rfl) (by kernel_rfl) (by kernel_rfl) (by kernel_rfl) (fun _ _ _ h => h) (Or.inl ⟨by rfl, ?_⟩) (by assumption) ?_; rotate_left; (focus (intro w hSw; (try dsimp only at hSw); go_simp; (try with_reducible rfl))); (try simp only [Act.put, List.setIfInBounds_toArray, List.set_cons_zero, List.set_cons_succ]))
  (refine wpAnyH_ready (rs := [7]) (by kernel_rfl) (by simp) (AllReadyH.cons (ops_at rfl) (fun K hK => ?_) AllReadyH.nil); go_simp; (refine (temp_any who inc c h1 h2 h3 _).mono ?_; rintro e w' ⟨rfl, rfl⟩); refine hK.out _ _ (HKc.out _ (Below.refl _ _).drew) (fun hHeld => ?_); clear hK K; (try simp only [Act.put, List.setIfInBounds_toArray, List.set_cons_zero, List.set_cons_succ]))
  (refine wpAnyH_take (i := 8) (oi := _) (v := ?_) (ops_at rfl) (by kernel_rfl) (by kernel_rfl) (by kernel_rfl) (fun _ _ _ h => h) (Or.inl ⟨by rfl, ?_⟩) (by assumption) ?_; rotate_left; (focus (intro w hSw; (try dsimp only at hSw); go_simp; (try with_reducible rfl))); (try simp only [Act.put, List.setIfInBounds_toArray, List.set_cons_zero, List.set_cons_succ]))
  (refine wpAnyH_ready (rs := [9]) (by kernel_rfl) (by simp) (AllReadyH.cons (ops_at rfl) (fun K hK => ?_) AllReadyH.nil); go_simp; skip; refine hK.out _ _ (HKc.out _ (bl_alloc (Below.refl _ _)).drew) (fun hHeld => ?_); clear hK K; (try simp only [Act.put, List.setIfInBounds_toArray, List.set_cons_zero, List.set_cons_succ]))
  (refine wpAnyH_take (i := 10) (oi := _) (v := ?_) (ops_at rfl) (by kernel_rfl) (by kernel_rfl) (by kernel_rfl) (fun _ _ _ h => h) (Or.inl ⟨by rfl, ?_⟩) (by assumption) ?_; rotate_left; (focus (intro w hSw; (try dsimp only at hSw); go_simp; (try with_reducible rfl))); (try simp only [Act.put, List.setIfInBounds_toArray, List.set_cons_zero, List.set_cons_succ]))
  (refine wpAnyH_done (by kernel_rfl) ?_ _)
  clear hHeld
  go_wp2_with fail
  go_ret
  refine ⟨W.heap.size, rfl, hsz, ?_, (bl_alloc HB.out).drew⟩
  have := (Blk.new W 64 (wk0 gn gs { l with till := 0 } (tmpOf who inc c) true).cells).drew
  unfold WkAt
  simpa [Wk.cells, wk0, hl1, hl2] using this
end Go.Proofs.YtahdeighocmijaaGreatDoor
