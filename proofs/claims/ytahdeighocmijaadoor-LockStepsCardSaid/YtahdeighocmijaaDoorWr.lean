/- Locks: Write's steps; Free. -/
import Derived.Test.YtahdeighocmijaaDoorTake5
import Derived.Test.YtahdeighocmijaaDoorTake6
namespace Go.Proofs.YtahdeighocmijaaDoor
set_option linter.unusedSimpArgs false
set_option linter.unusedVariables false
open Go.RowKit
open Crc (Bytes)
def Wk.cells (t : Wk) : List Value := [.string t.gn, .int .i64 t.gs, .int .i64 t.l.who, .int .i64 t.l.inc, .int .i64 t.l.epoch, .int .i64 t.l.till, .string t.temp, .bool t.free, .int .i64 t.at_, .int .i64 t.told]
def WkAt (w : World) (tb : Nat) (t : Wk) : Prop := Blk w tb 83 t.cells
structure WDid (w0 : World) (fb mb tb : Nat) (w w' : World) (e : Ending) (k : Int) (S : Fs) (n : Nat) (t : Wk) : Prop where
  ret : e = .returned (.int .i64 k)
  h : FsH w0 w' fb mb S n
  x : WkAt w' tb t
  o : Only [fb, mb, tb] w w'
theorem WDid.after {w0 w w1 w2 : World} {fb mb tb n : Nat} {S : Fs} {t : Wk} {e : Ending} {k : Int} (h : WDid w0 fb mb tb w1 w2 e k S n t) (ho : Only [fb, mb, tb] w w1) : WDid w0 fb mb tb w w2 e k S n t := ⟨h.ret, h.h, h.x, ho.trans h.o⟩
section
variable {w0 w : World} {fb mb tb n : Nat} {S : Fs} {t : Wk}
theorem wk_set (hH : FsH w0 w fb mb S n) (hX : WkAt w tb t) (hw : w0.heap.size ≤ tb) {w' : World} {t' : Wk} (ho : Only [tb] w w') (hX' : WkAt w' tb t') : FsH w0 w' fb mb S n ∧ WkAt w' tb t' ∧ Only [fb, mb, tb] w w' :=
  ⟨hH.turn ho hX (by decide) (by decide) hw, hX', ho.more fun b hb => .inl (by simp at hb; simp [hb])⟩
set_option maxRecDepth 100000 in
theorem wend_any (hH : FsH w0 w fb mb S n) (hX : WkAt w tb t) (hw : w0.heap.size ≤ tb) (q : Int) :
    Calls Tryd.prog 42 #[.pointer (some ⟨tb, 0, none⟩), .int .i64 q] w fun e w' => WDid w0 fb mb tb w w' e q S n (t.end_ q) := by
  have hb : Blk w tb 83 t.cells := hX
  have c8 : w.cell? ⟨tb, 8, none⟩ = some (.int .i64 t.at_) := hb.cell 8
  have c9 : w.cell? ⟨tb, 9, none⟩ = some (.int .i64 t.told) := hb.cell 9
  have z8 := hb.frozen 8
  have z9 := hb.frozen 9
  have HS := Lib.hid (fun w' ho hx => wk_set hH hX hw (w' := w') (t' := t.end_ q) ho hx)
  have HB := Lib.hid hb
  clear hH hX hb
  go_enter Tryd.func42, Tryd.ntmps42
  go_wp2_with fail
  go_ret
  obtain ⟨h1, h2, h3⟩ := HS.out _ (((Only.refl _ _).setCell (.inl (by simp)) _).setCell (.inl (by simp)) _) ((HB.out.set_ 8 _).set_ 9 _)
  exact ⟨rfl, h1, h2, h3⟩
set_option maxRecDepth 100000 in
set_option maxHeartbeats 4000000 in
theorem wstep2_any (hH : FsH w0 w fb mb S n) (hX : WkAt w tb t) (hw : w0.heap.size ≤ tb) (hp : t.temp.size ≤ 1000) (hn : n ≤ 4999) (hat : t.at_ = 2) :
    Calls Tryd.prog 21 #[.pointer (some ⟨tb, 0, none⟩), .pointer (some ⟨fb, 0, none⟩)] w fun e w' => WDid w0 fb mb tb w w' e (stepW S t).1 (stepW S t).2.2 (n + 1) (stepW S t).2.1 := by
  have hb : Blk w tb 83 t.cells := hX
  have c8 : w.cell? ⟨tb, 8, none⟩ = some (.int .i64 2) := by rw [← hat]; exact hb.cell 8
  obtain ⟨⟨⟨st, e0⟩, S'⟩, hpq⟩ : ∃ p, S.putF t.temp t.l.bytes = p := ⟨_, rfl⟩
  have HP := Lib.hid hpq
  have HM := Lib.hid (show stepW S t = if e0 = 0 then (0, { t with at_ := 3 }, S') else (failQ e0, t.end_ (failQ e0), S') by unfold stepW; rw [if_pos hat, hpq])
  have HKc := Lib.hid (fun (w' : World) (hh : w'.heap[tb]? = w.heap[tb]?) => (show w'.cell? ⟨tb, 6, none⟩ = some (.string t.temp) ∧ w'.cell? ⟨tb, 2, none⟩ = some (.int .i64 t.l.who) ∧ w'.cell? ⟨tb, 3, none⟩ = some (.int .i64 t.l.inc) ∧ w'.cell? ⟨tb, 4, none⟩ = some (.int .i64 t.l.epoch) ∧ w'.cell? ⟨tb, 5, none⟩ = some (.int .i64 t.l.till) from ⟨(hb.keep hh).cell 6, (hb.keep hh).cell 2, (hb.keep hh).cell 3, (hb.keep hh).cell 4, (hb.keep hh).cell 5⟩))
  have htb := hb.lt
  have hne := hH.ne hb.at_ (by decide)
  have HX := Lib.hid hb
  have HH := Lib.hid hH
  clear hH hX hb hpq hat
  go_enter Tryd.func21, Tryd.ntmps21
  go_upto_region 3 with fail
  (refine wp_region_held_drew (S := fun w' => w'.cell? ⟨tb, 6, none⟩ = some (.string t.temp) ∧ w'.cell? ⟨tb, 2, none⟩ = some (.int .i64 t.l.who) ∧ w'.cell? ⟨tb, 3, none⟩ = some (.int .i64 t.l.inc) ∧ w'.cell? ⟨tb, 4, none⟩ = some (.int .i64 t.l.epoch) ∧ w'.cell? ⟨tb, 5, none⟩ = some (.int .i64 t.l.till)) (by kernel_rfl) (HKc.out _ rfl) (fun hHeld => ?_))
  (refine wpAnyH_take (i := 0) (oi := _) (v := ?_) (ops_at rfl) (by kernel_rfl) (by kernel_rfl) (by kernel_rfl) (fun _ _ _ h => h) (Or.inl ⟨by rfl, ?_⟩) (by assumption) ?_; rotate_left; (focus (intro w hSw; (try dsimp only at hSw); go_simp; (try with_reducible rfl))); (try simp only [Act.put, List.setIfInBounds_toArray, List.set_cons_zero, List.set_cons_succ])); (refine wpAnyH_take (i := 1) (oi := _) (v := ?_) (ops_at rfl) (by kernel_rfl) (by kernel_rfl) (by kernel_rfl) (fun _ _ _ h => h) (Or.inl ⟨by rfl, ?_⟩) (by assumption) ?_; rotate_left; (focus (intro w hSw; (try dsimp only at hSw); go_simp; (try with_reducible rfl))); (try simp only [Act.put, List.setIfInBounds_toArray, List.set_cons_zero, List.set_cons_succ])); (refine wpAnyH_take (i := 2) (oi := _) (v := ?_) (ops_at rfl) (by kernel_rfl) (by kernel_rfl) (by kernel_rfl) (fun _ _ _ h => h) (Or.inl ⟨by rfl, ?_⟩) (by assumption) ?_; rotate_left; (focus (intro w hSw; (try dsimp only at hSw); go_simp; (try with_reducible rfl))); (try simp only [Act.put, List.setIfInBounds_toArray, List.set_cons_zero, List.set_cons_succ])); (refine wpAnyH_take (i := 3) (oi := _) (v := ?_) (ops_at rfl) (by kernel_rfl) (by kernel_rfl) (by kernel_rfl) (fun _ _ _ h => h) (Or.inl ⟨by rfl, ?_⟩) (by assumption) ?_; rotate_left; (focus (intro w hSw; (try dsimp only at hSw); go_simp; (try with_reducible rfl))); (try simp only [Act.put, List.setIfInBounds_toArray, List.set_cons_zero, List.set_cons_succ])); (refine wpAnyH_take (i := 4) (oi := _) (v := ?_) (ops_at rfl) (by kernel_rfl) (by kernel_rfl) (by kernel_rfl) (fun _ _ _ h => h) (Or.inl ⟨by rfl, ?_⟩) (by assumption) ?_; rotate_left; (focus (intro w hSw; (try dsimp only at hSw); go_simp; (try with_reducible rfl))); (try simp only [Act.put, List.setIfInBounds_toArray, List.set_cons_zero, List.set_cons_succ])); (refine wpAnyH_take (i := 5) (oi := _) (v := ?_) (ops_at rfl) (by kernel_rfl) (by kernel_rfl) (by kernel_rfl) (fun _ _ _ h => h) (Or.inl ⟨by rfl, ?_⟩) (by assumption) ?_; rotate_left; (focus (intro w hSw; (try dsimp only at hSw); go_simp; (try with_reducible rfl))); (try simp only [Act.put, List.setIfInBounds_toArray, List.set_cons_zero, List.set_cons_succ])); (refine wpAnyH_take (i := 6) (oi := _) (v := ?_) (ops_at rfl) (by kernel_rfl) (by kernel_rfl) (by kernel_rfl) (fun _ _ _ h => h) (Or.inl ⟨by rfl, ?_⟩) (by assumption) ?_; rotate_left; (focus (intro w hSw; (try dsimp only at hSw); go_simp; (try with_reducible rfl))); (try simp only [Act.put, List.setIfInBounds_toArray, List.set_cons_zero, List.set_cons_succ])); (refine wpAnyH_take (i := 7) (oi := _) (v := ?_) (ops_at rfl) (by kernel_rfl) (by kernel_rfl) (by kernel_rfl) (fun _ _ _ h => h) (Or.inl ⟨by rfl, ?_⟩) (by assumption) ?_; rotate_left; (focus (intro w hSw; (try dsimp only at hSw); go_simp; (try with_reducible rfl))); (try simp only [Act.put, List.setIfInBounds_toArray, List.set_cons_zero, List.set_cons_succ])); (refine wpAnyH_take (i := 8) (oi := _) (v := ?_) (ops_at rfl) (by kernel_rfl) (by kernel_rfl) (by kernel_rfl) (fun _ _ _ h => h) (Or.inl ⟨by rfl, ?_⟩) (by assumption) ?_; rotate_left; (focus (intro w hSw; (try dsimp only at hSw); go_simp; (try with_reducible rfl))); (try simp only [Act.put, List.setIfInBounds_toArray, List.set_cons_zero, List.set_cons_succ]))
  (refine wpAnyH_ready (rs := [9]) (by kernel_rfl) (by simp) (AllReadyH.cons (ops_at rfl) (fun K hK => ?_) AllReadyH.nil); go_simp; (refine (rlock_any t.l _).mono ?_; rintro e w2 ⟨LA, ln, lc, rfl, hln, hown, hnone, hb2⟩); refine hK.out _ _ (HKc.out _ (hb2.block tb htb)) (fun hHeld => ?_); clear hK K; (try simp only [Act.put, List.setIfInBounds_toArray, List.set_cons_zero, List.set_cons_succ]))
  obtain rfl : ln = 34 := by have := hln.out; rw [t.l.bytes_len] at this; exact this.symm
  have hb2' : Below w.heap.size w w2 := bl_of_drew hb2
  have HLB := Lib.hid (own_bs hown t.l.bytes_by (by omega))
  have hz2 : w.heap.size ≤ w2.heap.size := hb2'.size
  have HF2 := Lib.hid (HH.out.below hb2')
  clear hln hown hnone
  (refine wpAnyH_ready (rs := [10]) (by kernel_rfl) (by simp) (AllReadyH.cons (ops_at rfl) (fun K hK => ?_) AllReadyH.nil); go_simp; (refine (put_h HF2.out hn t.temp t.l.bytes LA 34 lc hp (by omega) HLB.out).mono ?_; rintro e w3 ⟨rfl, h4, o4⟩; rw [HP.out] at h4 ⊢); refine hK.out _ _ (HKc.out _ ((o4.block tb (by omega) hne).trans (hb2'.block tb htb))) (fun hHeld => ?_); clear hK K; (try simp only [Act.put, List.setIfInBounds_toArray, List.set_cons_zero, List.set_cons_succ]))
  (refine wpAnyH_take (i := 11) (oi := _) (v := ?_) (ops_at rfl) (by kernel_rfl) (by kernel_rfl) (by kernel_rfl) (fun _ _ _ h => h) (Or.inl ⟨by rfl, ?_⟩) (by assumption) ?_; rotate_left; (focus (intro w hSw; (try dsimp only at hSw); go_simp; (try with_reducible rfl))); (try simp only [Act.put, List.setIfInBounds_toArray, List.set_cons_zero, List.set_cons_succ])); (refine wpAnyH_take (i := 12) (oi := _) (v := ?_) (ops_at rfl) (by kernel_rfl) (by kernel_rfl) (by kernel_rfl) (fun _ _ _ h => h) (Or.inl ⟨by rfl, ?_⟩) (by assumption) ?_; rotate_left; (focus (intro w hSw; (try dsimp only at hSw); go_simp; (try with_reducible rfl))); (try simp only [Act.put, List.setIfInBounds_toArray, List.set_cons_zero, List.set_cons_succ])); (refine wpAnyH_take (i := 13) (oi := _) (v := ?_) (ops_at rfl) (by kernel_rfl) (by kernel_rfl) (by kernel_rfl) (fun _ _ _ h => h) (Or.inl ⟨by rfl, ?_⟩) (by assumption) ?_; rotate_left; (focus (intro w hSw; (try dsimp only at hSw); go_simp; (try with_reducible rfl))); (try simp only [Act.put, List.setIfInBounds_toArray, List.set_cons_zero, List.set_cons_succ])); (refine wpAnyH_take (i := 14) (oi := _) (v := ?_) (ops_at rfl) (by kernel_rfl) (by kernel_rfl) (by kernel_rfl) (fun _ _ _ h => h) (Or.inl ⟨by rfl, ?_⟩) (by assumption) ?_; rotate_left; (focus (intro w hSw; (try dsimp only at hSw); go_simp; (try with_reducible rfl))); (try simp only [Act.put, List.setIfInBounds_toArray, List.set_cons_zero, List.set_cons_succ])); (refine wpAnyH_take (i := 15) (oi := _) (v := ?_) (ops_at rfl) (by kernel_rfl) (by kernel_rfl) (by kernel_rfl) (fun _ _ _ h => h) (Or.inl ⟨by rfl, ?_⟩) (by assumption) ?_; rotate_left; (focus (intro w hSw; (try dsimp only at hSw); go_simp; (try with_reducible rfl))); (try simp only [Act.put, List.setIfInBounds_toArray, List.set_cons_zero, List.set_cons_succ]))
  (refine wpAnyH_done (by kernel_rfl) ?_ _)
  clear hHeld
  have hX3 : Blk w3 tb 83 t.cells := ((Blk.below HX.out hb2').only o4 hne)
  have HX3 := Lib.hid hX3
  have HF3 := Lib.hid h4
  have HO3 := Lib.hid ((Only.of_below hb2' [fb, mb, tb]).trans (o4.more (cs := [fb, mb, tb]) (fun b hb => .inl (by simp at hb ⊢; rcases hb with h | h <;> simp [h]))))
  have d8 : w3.cell? ⟨tb, 8, none⟩ = some (.int .i64 t.at_) := hX3.cell 8
  have z8 := hX3.frozen 8
  clear h4 o4 hb2' hX3 HKc HLB HF2 c8
  by_cases h0 : e0 = 0
  · subst h0
    rw [if_pos rfl] at HM
    go_wp2_with fail
    go_ret
    rw [HM.out]
    obtain ⟨h1, h2, h3⟩ := wk_set HF3.out HX3.out hw (t' := { t with at_ := 3 }) ((Only.refl _ _).setCell (.inl (by simp)) _) (HX3.out.set_ 8 _)
    exact ⟨rfl, h1, h2, HO3.out.trans h3⟩
  have hb0 : (e0 == 0) = false := by rw [beq_eq_false_iff_ne]; exact h0
  rw [if_neg h0] at HM
  by_cases h2 : e0 = 2
  · have hq : failQ e0 = 4 := by unfold failQ; rw [if_pos h2]
    rw [hq] at HM
    subst h2
    clear hq d8 z8
    go_wp2_with fail
    refine (wend_any HF3.out HX3.out hw 4).mono ?_
    (rintro e w' hd; obtain rfl := hd.ret; have HD := Lib.hid (hd.after HO3.out); clear hd; go_wp2_with fail; go_ret; rw [HM.out]; exact HD.out)
  · have hq : failQ e0 = 3 := by unfold failQ; rw [if_neg h2]
    have hb2 : (e0 == 2) = false := by rw [beq_eq_false_iff_ne]; exact h2
    rw [hq] at HM
    clear hq d8 z8 h2
    go_wp2_with fail
    refine (wend_any HF3.out HX3.out hw 3).mono ?_
    (rintro e w' hd; obtain rfl := hd.ret; have HD := Lib.hid (hd.after HO3.out); clear hd; go_wp2_with fail; go_ret; rw [HM.out]; exact HD.out)
end
end Go.Proofs.YtahdeighocmijaaDoor
