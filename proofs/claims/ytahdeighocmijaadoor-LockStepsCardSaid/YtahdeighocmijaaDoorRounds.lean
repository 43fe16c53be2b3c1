/- A range over a function whose rounds all go on, and know what the iterator knows of what it hands out. -/
import Derived.Test.YtahdeighocmijaaDoorFramAll
import Derived.RangeFuncOwn
import Derived.RangeFuncRecord
namespace Go.Proofs.YtahdeighocmijaaDoor
set_option linter.unusedSimpArgs false
set_option linter.unusedVariables false
open Go.RowKit Go.Shelf

theorem range_rounds {P : Program} {α : Type} {gop : Operand} {ps : Array Tmp} {assign body : Code} {Q : Exit → Act → World → Prop} {a : Act} {w : World} {gf : Nat} {lb : Array Value}
    (hg : a.eval gop = .func (.func gf) #[] lb) (eg : ∀ args w, (callFunc gf args).run P w = .ok (.enter gf args) w)
    (encs : α → Array Value) (hps : ∀ x, (encs x).size = ps.size) (G : α → World → Prop) (Kp : World → World → Prop) (J S : List α → World → Prop) (a₁ : α → Act) (N : Nat)
    (contract : ∀ (l : Nat) (J2 : List α → World → Prop) (W : World), Below w.heap.size w W → (∀ pre W W', J2 pre W → Below W.heap.size W W' → J2 pre W') →
      (∀ pre x W, J2 pre W → pre.length < N → G x W → YieldAt Fence.wide 4 P l (encs x) W fun e W' => e = .returned (.bool true) ∧ J2 (pre ++ [x]) W' ∧ Kp W W') → J2 [] W →
      CallsIn Fence.wide 5 P gf (#[.func (.yield l) #[] #[]] ++ lb) W fun e W' => (∃ v, e = .returned v) ∧ ∃ xs, S xs W' ∧ J2 xs W')
    (hJb : ∀ pre W W', J pre W → Below W.heap.size W W' → J pre W')
    (hJp : ∀ pre W r o o', J pre W → w.heap.size ≤ r → W.heap[r]? = some o → o.isCells = false → J pre (W.putObj r o'))
    (hGp : ∀ x W r o o', G x W → W.heap[r]? = some o → o.isCells = false → G x (W.putObj r o'))
    (hSp : ∀ xs W r o o', S xs W → W.heap[r]? = some o → o.isCells = false → S xs (W.putObj r o'))
    (hKt : ∀ A B C, Kp A B → Kp B C → Kp A C) (hKo : ∀ W r o o', w.heap.size ≤ r → W.heap[r]? = some o → o.isCells = false → Kp W (W.putObj r o'))
    (h0 : J [] w)
    (hassign : ∀ (l : Nat) (x : α) (W : World) (K : Act → World → Prop), K (a₁ x) W → assign.wpIn (Fence.wide.inRound l) 4 P (Exit.then K (fun _ _ _ => False)) { tmps := (ps.zip (encs x)).foldl (fun t (p, v) => t.setIfInBounds p v) a.tmps, defers := [] } W)
    (hbody : ∀ (l : Nat) (pre : List α) (x : α) (W : World), J pre W → pre.length < N → G x W → body.wpIn (Fence.wide.inRound l) 4 P (fun e _ W' => e = .normal ∧ KeepsOthers W W' ∧ Kp W W' ∧ J (pre ++ [x]) W') (a₁ x) W)
    (hdone : ∀ (D : Nat) (xs : List α) (W : World), w.heap.size ≤ D → S xs W → J xs W → W.heap[D]? = some (.deferred (some [])) → Q .normal { a with defers := { target := .collected D, args := #[] } :: a.defers } W) :
    (Code.rangeFunc gop ps assign body).wpIn Fence.wide 6 P Q a w := by
  refine wpIn_rangeFunc fun fn hfn => ?_
  obtain ⟨rec, hrec⟩ : ∃ rec : LoopState → Option Code → Loop, rec = fun st pe => { state := st, pending := pe, fn, tmps := a.tmps, params := ps, assign, body, defers := w.heap.size } := ⟨_, rfl⟩
  have hlay : (Instr.enterLoop fn a.tmps ps assign body Fence.wide.round).run P w = .ok (w.heap.size + 1, [{ target := .collected w.heap.size, args := #[] }]) ((w.alloc (.deferred (some []))).alloc (.loop (rec .ready none))) := by
    rw [hrec]; exact run_enterLoop_outer fn a.tmps ps assign body
  obtain ⟨W1, hW1⟩ : ∃ W1, (w.alloc (.deferred (some []))).alloc (.loop (rec .ready none)) = W1 := ⟨_, rfl⟩
  rw [hW1] at hlay
  have hbel : Below w.heap.size w W1 := by
    rw [← hW1]; exact ((Below.refl _ w).alloc (Nat.le_refl _) _).alloc (by simp) _
  have hloop : W1.heap[w.heap.size + 1]? = some (.loop (rec .ready none)) := by
    have := World.alloc_heap_new (w.alloc (.deferred (some []))) (.loop (rec .ready none))
    rw [World.size_alloc, hW1] at this
    exact this
  have hdef : W1.heap[w.heap.size]? = some (.deferred (some [])) := by
    rw [← hW1]; exact (Below.heap_alloc _ _ _ (by simp)).trans (World.alloc_heap_new w _)
  refine ⟨w.heap.size + 1, [{ target := .collected w.heap.size, args := #[] }], W1, { target := .fn (.func gf) lb, args := #[.func (.yield (w.heap.size + 1)) #[] #[]] }, W1, gf, #[.func (.yield (w.heap.size + 1)) #[] #[]] ++ lb, W1, hlay, ?_, fun f' hf' => trivial, ?_, fun _ => by omega, ?_⟩
  · simp only [resolve, hg]
    simp [go_sem]
  · simp [invoke, go_sem, eg]
  refine (contract (w.heap.size + 1) (fun pre W => J pre W ∧ W.heap[w.heap.size + 1]? = some (.loop (rec .ready none)) ∧ W.heap[w.heap.size]? = some (.deferred (some []))) W1 hbel ?_ ?_ ⟨hJb _ _ _ h0 hbel, hloop, hdef⟩).mono ?_
  · rintro pre W W' ⟨hj, hl, hd⟩ hb
    exact ⟨hJb _ _ _ hj hb, (hb.block _ (Array.getElem?_eq_some_iff.1 hl).1).trans hl, (hb.block _ (Array.getElem?_eq_some_iff.1 hd).1).trans hd⟩
  · rintro pre x W ⟨hj, hl, hd⟩ hN hG
    have hlt : w.heap.size + 1 < W.heap.size := (Array.getElem?_eq_some_iff.1 hl).1
    have hy := run_yield (P := P) (args := encs x) hl (by rw [hrec]; exact hps x)
    rw [hrec] at hy
    refine ⟨fn, _, assign, body, hy, roundIn_of_wpIn trivial (hassign _ x W _ ⟨_, run_beginRound hl (by rw [hrec]), ?_⟩)⟩
    obtain ⟨busy, hbusy⟩ : ∃ o : Obj, o = .loop { rec .ready none with state := .busy } := ⟨_, rfl⟩
    have hl2 : (W.putObj (w.heap.size + 1) busy).heap[w.heap.size + 1]? = some busy := World.putObj_heap_same hlt
    have hd2 : (W.putObj (w.heap.size + 1) busy).heap[w.heap.size]? = some (.deferred (some [])) := (World.putObj_heap_other (by omega)).trans hd
    have hnc : busy.isCells = false := by rw [hbusy]; rfl
    rw [← hbusy]
    refine wpIn_mono (hbody _ pre x _ (hJp _ _ _ _ _ hj (by omega) hl rfl) hN (hGp _ _ _ _ _ hG hl rfl)) ?_
    rintro e a3 W3 ⟨rfl, hk3, hkp3, hj3⟩
    have hl3 := hk3.same _ _ hl2 hnc
    have hd3 := hk3.same _ _ hd2 rfl
    rw [hbusy] at hl3
    have hend := run_endRound (P := P) none hl3
    refine ⟨_, _, hend, rfl, ⟨hJp _ _ _ _ _ hj3 (by omega) hl3 rfl, ?_, (World.putObj_heap_other (by omega)).trans hd3⟩, hKt _ _ _ (hKt _ _ _ (hKo _ _ _ _ (by omega) hl rfl) hkp3) (hKo _ _ _ _ (by omega) hl3 rfl)⟩
    rw [World.putObj_heap_same (Array.getElem?_eq_some_iff.1 hl3).1, hrec]
    rfl
  · rintro e W2 ⟨⟨v, rfl⟩, xs, hS, hj, hl, hd⟩
    have hend := run_endLoop (P := P) hl (by rw [hrec]; simp)
    refine ⟨_, _, hend, ?_⟩
    rw [show (rec .ready none).pending = none by rw [hrec]]
    exact hdone _ xs _ (Nat.le_refl _) (hSp _ _ _ _ _ hS hl rfl) (hJp _ _ _ _ _ hj (by omega) hl rfl) ((World.putObj_heap_other (by omega)).trans hd)
end Go.Proofs.YtahdeighocmijaaDoor
