/- Locks: fettlelaw13.taken. -/
import Derived.Test.YtahdeighocmijaaGreatDoorTake7
namespace Go.Proofs.YtahdeighocmijaaGreatDoor
set_option linter.unusedSimpArgs false
set_option linter.unusedVariables false
open Go.RowKit
open Crc (Bytes)

structure LoopT (w0 w1 : World) (fb mb tb k : Nat) (x : Int × Tk × Fs) (W : World) : Prop where
  tk : TkAt W tb x.2.1
  fs : FsH w0 W fb mb x.2.2 k
  o : Only [fb, mb, tb] w1 W
theorem ite_ne2 {P : Prop} [Decidable P] {a b : Int × Tk} (ha : a.2.at_ ≠ 0) (hb : b.2.at_ ≠ 0) : (if P then a else b).2.at_ ≠ 0 := by by_cases h : P; (rw [if_pos h]; exact ha); (rw [if_neg h]; exact hb)
theorem ite_ne3 {P : Prop} [Decidable P] {a b : Int × Tk × Fs} (ha : a.2.1.at_ ≠ 0) (hb : b.2.1.at_ ≠ 0) : (if P then a else b).2.1.at_ ≠ 0 := by by_cases h : P; (rw [if_pos h]; exact ha); (rw [if_neg h]; exact hb)
theorem readT_ne0 (now : Int) (S : Fs) (t : Tk) : (readT now S t).2.at_ ≠ 0 := by
  unfold readT
  exact ite_ne2 (by simp) (ite_ne2 (by simp [Tk.end_]) (ite_ne2 (by simp [Tk.held]) (ite_ne2 (by simp) (ite_ne2 (by simp [Tk.end_]) (by simp [Tk.end_])))))
theorem madeT_ne0 (now : Int) (S : Fs) (t : Tk) : (madeT now S t).2.1.at_ ≠ 0 := by
  unfold madeT
  exact ite_ne3 (by simp [Tk.held]) (ite_ne3 (by simp [Tk.end_]) (by simp [Tk.end_]))
theorem putT_ne0 (now : Int) (S : Fs) (t : Tk) : (putT now S t).2.1.at_ ≠ 0 := by
  unfold putT
  exact ite_ne3 (by simp [Tk.end_]) (by simp)
theorem stepT_ne0 (now : Int) (S : Fs) (t : Tk) : (stepT now S t).2.1.at_ ≠ 0 := by
  by_cases h0 : t.at_ = 0
  · rw [stepT_0 h0]; exact readT_ne0 _ _ _
  · by_cases h1 : t.at_ = 1
    · rw [stepT_1 h1]; exact madeT_ne0 _ _ _
    · by_cases h2 : t.at_ = 2
      · rw [stepT_2 h2]; exact putT_ne0 _ _ _
      · by_cases h3 : t.at_ = 3
        · rw [stepT_3 h3]; exact ite_ne3 (by simp) (by simp [Tk.held])
        · by_cases h4 : t.at_ = 4
          · rw [stepT_4 h4]; simp [Tk.end_]
          · unfold stepT; rw [if_neg h0, if_neg h1, if_neg h2, if_neg h3, if_neg h4]; exact h0
theorem trun_step {w0 w1 W : World} {fb mb tb k m q : Nat} {now : Int} {S0 S' : Fs} {t0 t : Tk} {kk : Int} {X : Nat → Int × Tk × Fs} (R : TRun now S0 t0 m X kk t S') (hq : q < m) (h : LoopT w0 w1 fb mb tb k (X q) W) (hk : k ≤ 4999) (hw : w0.heap.size ≤ tb)
    (hlen : (S0.readF t0.file).2.1.length ≤ 100000) :
    Calls Tryz.prog 18 #[.pointer (some ⟨tb, 0, none⟩), .pointer (some ⟨fb, 0, none⟩), .int .i64 now] W fun e w' => e = .returned (.int .i64 (X (q + 1)).1) ∧ LoopT w0 w1 fb mb tb (k + 1) (X (q + 1)) w' := by
  refine (tstep_any h.fs h.tk hw (R.ok q (by omega)) now hk (fun e => (by cases q with | zero => (rw [R.zero]; exact hlen) | succ q => (rw [← R.step q (by omega)] at e; exact absurd e (stepT_ne0 _ _ _))))).mono ?_
  intro e w' hd
  rw [R.step q hq] at hd
  exact ⟨hd.ret, hd.x, hd.h, h.o.trans hd.o⟩
def takenV (k : Int) (t : Tk) : Value := if k = 1 then heldV t else noneV
set_option maxRecDepth 100000 in
set_option maxHeartbeats 4000000 in
theorem taken_any {w0 w : World} {fb mb n m : Nat} {S S' : Fs} (who inc : Nat) (now : Int) {X : Nat → Int × Tk × Fs} {k : Int} {t : Tk} (hH : FsH w0 w fb mb S n) (R : TRun now S (tk0 nmC (tmpOf who inc 3) who inc 30) m X k t S') (h1 : who < 100) (h2 : inc < 100) (hn : n ≤ 4990)
    (hlen : (S.readF nmC).2.1.length ≤ 100000) :
    Calls Tryz.prog 7 #[.pointer (some ⟨fb, 0, none⟩), .int .i64 who, .int .i64 inc, .int .i64 now] w fun e w' => e = .returned (takenV k t) ∧ FsH w0 w' fb mb S' (n + 3) ∧ Only [fb, mb] w w' := by
  have HH := Lib.hid hH
  have HR := Lib.hid R
  have HL := Lib.hid hlen
  have hm0 := R.m0
  have hm1 := R.m1
  have hww : w0.heap.size ≤ w.heap.size := hH.bel.size
  clear hH R hlen
  go_enter Tryz.func7, Tryz.ntmps7
  go_wp2_with fail
  refine (tnew_any nmC who inc 3 30 _ h1 h2 (by decide) (by decide) (by decide)).mono ?_
  rintro e w1 ⟨rfl, hx, hb1⟩
  go_upto_region 4 with fail
  obtain ⟨g1, hg1⟩ : ∃ g1, g1 = w.heap.size := ⟨_, rfl⟩
  obtain ⟨g2, hg2⟩ : ∃ g2, g2 = w.heap.size + 1 := ⟨_, rfl⟩
  obtain ⟨tb, htb⟩ : ∃ tb, tb = w.heap.size + 1 + 1 := ⟨_, rfl⟩
  rw [← htb, ← hg2, ← hg1]
  have hbel : Below w.heap.size w w1 := bl_then (bl_alloc (bl_alloc (Below.refl _ _))) hb1
  refine at_world (fun W => Blk W g1 26 [.string ⟨#[]⟩, .int .i64 0] ∧ Blk W g2 28 [.int .i64 0, .int .i64 0, .int .i64 0, .int .i64 0] ∧ TkAt W tb (tk0 nmC (tmpOf who inc 3) who inc 30) ∧ FsH w0 W fb mb S n ∧ Below w.heap.size w W)
    ⟨((blk_new hg1).alloc _).below hb1, (blk_new (by simp [hg2])).below hb1, (by have := hx; simp only [World.size_alloc] at this; rw [htb]; exact this), (HH.out.below hbel), hbel⟩ ?_
  have hn1 : g1 ≠ tb := by omega
  have hn2 : g2 ≠ tb := by omega
  have hn3 : g2 ≠ g1 := by omega
  have hn4 : g1 ≠ g2 := by omega
  have hw1 : w.heap.size ≤ g1 := by omega
  have hw2 : w.heap.size ≤ g2 := by omega
  have hw3 : w.heap.size ≤ tb := by omega
  have hwt : w0.heap.size ≤ tb := by omega
  clear hg1 hg2 htb hbel hx hb1 HH
  rintro W ⟨k1, k2, k3, k4, k5⟩
  have HG := Lib.hid k1
  have HK := Lib.hid k2
  have HT := Lib.hid k3
  have HF := Lib.hid k4
  have HB := Lib.hid k5
  have hgn1 : g1 ∉ [fb, mb, tb] := by have := k4.ne k1.at_ (by decide); simp at this ⊢; exact ⟨this.1, this.2, hn1⟩
  have hgn2 : g2 ∉ [fb, mb, tb] := by have := k4.ne k2.at_ (by decide); simp at this ⊢; exact ⟨this.1, this.2, hn2⟩
  clear k1 k2 k3 k4 k5
  go_wp2_with fail
  go_loopw [12, 13] (fun i kv wr => ∃ q : Nat, q < m ∧ i = .int .i64 q ∧ LoopT w0 W fb mb tb (n + q) (X q) wr) (fun i _ _ => m - (intOf i).toNat)
  case atStart => exact ⟨0, by omega, rfl, by rw [HR.out.zero]; exact HT.out, by rw [HR.out.zero]; exact HF.out, Only.refl _ _⟩
  case round =>
    obtain ⟨q, hq, rfl, hx⟩ := hrel
    have HX := Lib.hid hx
    clear hx
    have hq6 : (q : Int) < 6 := by omega
    go_wp2_with fail
    refine (trun_step HR.out hq HX.out (by omega) hwt HL.out).mono ?_
    rintro e w4 ⟨rfl, hx⟩
    have HX3 := Lib.hid hx
    clear hx HX
    by_cases hqe : q + 1 = m
    · rw [show (X (q + 1)).1 = k by rw [hqe, HR.out.fin]]
      have hx4 : LoopT w0 W fb mb tb (n + m) (k, t, S') w4 := by have := HX3.out; rw [hqe, HR.out.fin] at this; rwa [Nat.add_assoc, hqe] at this
      have HX4 := Lib.hid hx4
      have hg4 := HG.out.only hx4.o hgn1
      have hk4 := HK.out.only hx4.o hgn2
      have HG4 := Lib.hid hg4
      have HK4 := Lib.hid hk4
      clear HX3 hx4
      by_cases hk1 : k = 1
      · subst hk1
        clear hg4 hk4
        go_wp2_with fail
        refine (tgot_any HX4.out.tk HR.out.at_ HR.out.told).mono ?_
        rintro e w5 ⟨rfl, hb5⟩
        have hg5 := HG4.out.below hb5
        have hk5 := HK4.out.below hb5
        have HG5 := Lib.hid hg5
        have HK5 := Lib.hid hk5
        have HF5 := Lib.hid ((HX4.out.fs.below hb5).more (k' := n + 3) (by omega) (by omega))
        have HO5 := Lib.hid (((Only.of_below HB.out [fb, mb]).step HX4.out.o (by intro b hb; simp at hb ⊢; omega)).trans (Only.of_below hb5 [fb, mb]))
        clear hb5
        unfold heldV lkV
        have a0 : w5.cell? ⟨g1, 0, none⟩ = some (.string ⟨#[]⟩) := hg5.cell 0; have a1 : w5.cell? ⟨g1, 1, none⟩ = some (.int .i64 0) := hg5.cell 1; have b0 : w5.cell? ⟨g2, 0, none⟩ = some (.int .i64 0) := hk5.cell 0; have b1 : w5.cell? ⟨g2, 1, none⟩ = some (.int .i64 0) := hk5.cell 1; have b2 : w5.cell? ⟨g2, 2, none⟩ = some (.int .i64 0) := hk5.cell 2; have b3 : w5.cell? ⟨g2, 3, none⟩ = some (.int .i64 0) := hk5.cell 3; have y0 := hg5.frozen 0; have y1 := hg5.frozen 1; have z0 := hk5.frozen 0; have z1 := hk5.frozen 1; have z2 := hk5.frozen 2; have z3 := hk5.frozen 3; have hF6 := (HF5.out.turn ((((Only.refl [g1] w5)).setCell (p := ⟨g1, 0, none⟩) (.inl (by simp)) (.string t.gn)).setCell (p := ⟨g1, 1, none⟩) (.inl (by simp)) (.int .i64 (t.gs))) hg5 (by decide) (by decide) (by omega)); have hk6 := (hk5.far (p := ⟨g1, 0, none⟩) hn3 (.string t.gn)).far (p := ⟨g1, 1, none⟩) hn3 (.int .i64 (t.gs)); have hF7 := hF6.turn ((((((Only.refl [g2] _)).setCell (p := ⟨g2, 0, none⟩) (.inl (by simp)) (.int .i64 (t.l.who))).setCell (p := ⟨g2, 1, none⟩) (.inl (by simp)) (.int .i64 (t.l.inc))).setCell (p := ⟨g2, 2, none⟩) (.inl (by simp)) (.int .i64 (t.l.epoch))).setCell (p := ⟨g2, 3, none⟩) (.inl (by simp)) (.int .i64 (t.l.till))) hk6 (by decide) (by decide) (by omega); have HO7 := Lib.hid ((((((HO5.out.setCell (p := ⟨g1, 0, none⟩) (.inr hw1) (.string t.gn)).setCell (p := ⟨g1, 1, none⟩) (.inr hw1) (.int .i64 (t.gs))).setCell (p := ⟨g2, 0, none⟩) (.inr hw2) (.int .i64 (t.l.who))).setCell (p := ⟨g2, 1, none⟩) (.inr hw2) (.int .i64 (t.l.inc))).setCell (p := ⟨g2, 2, none⟩) (.inr hw2) (.int .i64 (t.l.epoch))).setCell (p := ⟨g2, 3, none⟩) (.inr hw2) (.int .i64 (t.l.till))); have HF7 := Lib.hid hF7; clear hg5 hk5 hF6 hk6 hF7; go_wp2_with fail; refine bodyPost_ret (v := heldV t) ?_ rfl ⟨by unfold takenV; first | (rw [if_pos rfl]) | (rw [if_neg Hk1.out]), HF7.out, HO7.out⟩; rw [results_cell2_tmp rfl]; (try unfold heldV); (try unfold noneV lk0); unfold lkV; go_simp
      · have hk1b : (k == 1) = false := by rw [beq_eq_false_iff_ne]; exact hk1
        have hk0b : (k == 0) = false := by rw [beq_eq_false_iff_ne]; exact HR.out.k0
        have hg5 := hg4
        have hk5 := hk4
        have HG5 := HG4
        have HK5 := HK4
        have HF5 := Lib.hid (HX4.out.fs.more (k' := n + 3) (by omega) (by omega))
        have HO5 := Lib.hid ((Only.of_below HB.out [fb, mb]).step HX4.out.o (by intro b hb; simp at hb ⊢; omega))
        have Hk1 := Lib.hid hk1
        clear hk1 hg4 hk4
        have a0 : w4.cell? ⟨g1, 0, none⟩ = some (.string ⟨#[]⟩) := hg5.cell 0; have a1 : w4.cell? ⟨g1, 1, none⟩ = some (.int .i64 0) := hg5.cell 1; have b0 : w4.cell? ⟨g2, 0, none⟩ = some (.int .i64 0) := hk5.cell 0; have b1 : w4.cell? ⟨g2, 1, none⟩ = some (.int .i64 0) := hk5.cell 1; have b2 : w4.cell? ⟨g2, 2, none⟩ = some (.int .i64 0) := hk5.cell 2; have b3 : w4.cell? ⟨g2, 3, none⟩ = some (.int .i64 0) := hk5.cell 3; have y0 := hg5.frozen 0; have y1 := hg5.frozen 1; have z0 := hk5.frozen 0; have z1 := hk5.frozen 1; have z2 := hk5.frozen 2; have z3 := hk5.frozen 3; have hF6 := (HF5.out.turn ((((Only.refl [g1] w4)).setCell (p := ⟨g1, 0, none⟩) (.inl (by simp)) (.string ⟨#[]⟩)).setCell (p := ⟨g1, 1, none⟩) (.inl (by simp)) (.int .i64 (0))) hg5 (by decide) (by decide) (by omega)); have hk6 := (hk5.far (p := ⟨g1, 0, none⟩) hn3 (.string ⟨#[]⟩)).far (p := ⟨g1, 1, none⟩) hn3 (.int .i64 (0)); have hF7 := hF6.turn ((((((Only.refl [g2] _)).setCell (p := ⟨g2, 0, none⟩) (.inl (by simp)) (.int .i64 (0))).setCell (p := ⟨g2, 1, none⟩) (.inl (by simp)) (.int .i64 (0))).setCell (p := ⟨g2, 2, none⟩) (.inl (by simp)) (.int .i64 (0))).setCell (p := ⟨g2, 3, none⟩) (.inl (by simp)) (.int .i64 (0))) hk6 (by decide) (by decide) (by omega); have HO7 := Lib.hid ((((((HO5.out.setCell (p := ⟨g1, 0, none⟩) (.inr hw1) (.string ⟨#[]⟩)).setCell (p := ⟨g1, 1, none⟩) (.inr hw1) (.int .i64 (0))).setCell (p := ⟨g2, 0, none⟩) (.inr hw2) (.int .i64 (0))).setCell (p := ⟨g2, 1, none⟩) (.inr hw2) (.int .i64 (0))).setCell (p := ⟨g2, 2, none⟩) (.inr hw2) (.int .i64 (0))).setCell (p := ⟨g2, 3, none⟩) (.inr hw2) (.int .i64 (0))); have HF7 := Lib.hid hF7; clear hg5 hk5 hF6 hk6 hF7; go_wp2_with fail; refine bodyPost_ret (v := noneV) ?_ rfl ⟨by unfold takenV; first | (rw [if_pos rfl]) | (rw [if_neg Hk1.out]), HF7.out, HO7.out⟩; rw [results_cell2_tmp rfl]; (try unfold heldV); (try unfold noneV lk0); unfold lkV; go_simp
    · rw [HR.out.work (q + 1) (by omega)]
      go_wp2_with fail
      exact ⟨⟨q + 1, by omega, by go_num, HX3.out⟩, by simp [intOf]; omega⟩
end Go.Proofs.YtahdeighocmijaaGreatDoor
