/- Frames: All, as an iterator whose rounds keep bytes. A range over a function whose rounds all go on, and know what the iterator knows of what it hands out. -/
import Derived.Test.YtahdeighocmijaaGreatFram
import Derived.RangeFuncBox
import Derived.RangeFuncLeaves
import Derived.RangeFuncIn
import Derived.Shelf.Abstract
import Derived.WalkKit
import Derived.OwnWalkIn
import Derived.TacticsInMore
import Derived.LoopNIn
import Derived.LoopIn
import Derived.RangeFuncOwn
import Derived.RangeFuncRecord
namespace Go.Proofs.YtahdeighocmijaaGreat
set_option linter.unusedSimpArgs false
set_option linter.unusedVariables false
open Go.RowKit Go.Shelf
open Crc (Bytes)

attribute [local go_sem] Oper.semAt_some

/-- What a round keeps: every block of bytes, and block g. -/
structure KeepU (g : Nat) (W W' : World) : Prop where
  size : W.heap.size ≤ W'.heap.size
  u8 : ∀ (k : Nat) (cs : Array Value) (fr : Nat × Nat), W.heap[k]? = some (Obj.cells cs 5 fr) → W'.heap[k]? = W.heap[k]?
  box : W'.heap[g]? = W.heap[g]?
theorem KeepU.refl (g : Nat) (W : World) : KeepU g W W := ⟨Nat.le_refl _, fun _ _ _ _ => rfl, rfl⟩
theorem KeepU.trans {g : Nat} {A B C : World} (h : KeepU g A B) (k : KeepU g B C) : KeepU g A C :=
  ⟨Nat.le_trans h.size k.size, fun i cs fr hi => (k.u8 i cs fr ((h.u8 i cs fr hi).trans hi)).trans (h.u8 i cs fr hi), k.box.trans h.box⟩
theorem KeepU.of_below {g : Nat} {W W' : World} (h : Below W.heap.size W W') (hg : g < W.heap.size) : KeepU g W W' :=
  ⟨h.size, fun k cs fr hk => h.block k (Array.getElem?_eq_some_iff.1 hk).1, h.block g hg⟩
theorem KeepU.bs {g n : Nat} {W W' : World} {A : Option Addr} {l : List Int} (h : KeepU g W W') (hb : Bs W A n l) (hu : U8 W A n) : Bs W' A n l :=
  ⟨hb.rd.keep h.size fun ad hA h0 => by obtain ⟨cs, fr, e⟩ := hu ad hA h0; exact h.u8 _ _ _ e, hb.by_, hb.le⟩
theorem KeepU.U8 {g n : Nat} {W W' : World} {A : Option Addr} (h : KeepU g W W') (hu : U8 W A n) : U8 W' A n :=
  hu.keep fun ad hA h0 => by obtain ⟨cs, fr, e⟩ := hu ad hA h0; exact h.u8 _ _ _ e

/-- A frame that was met: where it begins, the slice that was handed out, what it holds. -/
structure Fx where
  pos : Nat
  A : Option Addr
  m : Nat
  d : Nat
  x : List Int
/-- It is still what it was. -/
structure Fx.ok (W : World) (f : Fx) : Prop where
  bs : Bs W f.A f.m f.x
  u8 : Go.Proofs.YtahdeighocmijaaGreat.U8 W f.A f.m
  cap : f.m ≤ f.d
  pos_ : f.pos ≤ 140737488355328
theorem Fx.ok.keep {g : Nat} {W W' : World} {f : Fx} (h : f.ok W) (k : KeepU g W W') : f.ok W' := ⟨k.bs h.bs h.u8, k.U8 h.u8, h.cap, h.pos_⟩
/-- The frames of bytes from their beginning on. -/
inductive Fr (b : List Int) : List (Nat × List Int) → Nat → Prop
  | nil : Fr b [] 0
  | snoc {l : List (Nat × List Int)} {k s : Nat} {x : List Int} (h : Fr b l k) (h1 : oneF (b.drop k) = some (x, s)) : Fr b (l ++ [(k, x)]) (k + s)
theorem oneF_len {l x : List Int} {s : Nat} (h : oneF l = some (x, s)) : s = x.length + 10 ∧ s ≤ l.length := by
  unfold oneF at h
  split at h
  · cases h
  split at h
  · cases h
  split at h
  · simp only [Option.some.injEq, Prod.mk.injEq] at h
    obtain ⟨rfl, rfl⟩ := h
    omega
  · cases h
theorem Fr.len {b : List Int} {l : List (Nat × List Int)} {k : Nat} (h : Fr b l k) : l.length * 10 ≤ k := by
  induction h with
  | nil => simp
  | snoc h h1 ih => have := (oneF_len h1).1; rw [List.length_append]; simp; omega
def Fx.pair (f : Fx) : Nat × List Int := (f.pos, f.x)
theorem keep_cell {g : Nat} {W W' : World} {v : Value} (h : KeepU g W W') (hc : W.cell? ⟨g, 0, none⟩ = some v) : W'.cell? ⟨g, 0, none⟩ = some v := by
  rw [World.cell?_of_block h.box]; exact hc
set_option maxRecDepth 100000 in
set_option maxHeartbeats 4000000 in
/-- The iterator, at a loop whose rounds go on and keep bytes. -/
theorem all1_any (l Bn n c : Nat) (A : Option Addr) (b : List Int) (hc : n ≤ c) (J : List Fx → World → Prop)
    (hJa : ∀ pre W W', J pre W → Below W.heap.size W W' → J pre W')
    (hY : ∀ pre (f : Fx) W, J pre W → pre.length < n → f.ok W → YieldAt Fence.wide 4 Tryz.prog l #[.int .i64 f.pos, .slice f.A f.m f.d] W fun e W' => e = .returned (.bool true) ∧ J (pre ++ [f]) W' ∧ KeepU Bn W W')
    (W : World) (hBn : W.cell? ⟨Bn, 0, none⟩ = some (.slice A n c)) (hb : Bs W A n b) (hu : Go.Proofs.YtahdeighocmijaaGreat.U8 W A n) (h0 : J [] W) :
    CallsIn Fence.wide 5 Tryz.prog 101 #[.func (.yield l) #[] #[], .pointer (some ⟨Bn, 0, none⟩)] W fun e W' => (∃ v, e = .returned v) ∧ ∃ fs k, Fr b (fs.map Fx.pair) k ∧ oneF (b.drop k) = none ∧ (∀ f ∈ fs, f.ok W') ∧ J fs W' := by
  have hbl := hb.len
  have hble := hb.le
  have HB := Lib.hid hb
  have HU := Lib.hid hu
  have hBl : Bn < W.heap.size := World.block_lt_of_cell? W ⟨Bn, 0, none⟩ hBn
  clear hb hu
  refine callsIn_of_wp Tryz.func101 rfl trivial ?_ rfl
  simp only [Tryz.ntmps101, List.size_toArray, List.length_cons, List.length_nil, Nat.reduceAdd, Nat.reduceSub, Array.replicate_succ, Array.replicate_zero, List.push_toArray, List.append_toArray, List.nil_append, List.cons_append]
  gi_wp2
  gi_loopw [3] (fun p wr => ∃ (fs : List Fx) (k : Nat), p = .int .i64 k ∧ k ≤ n ∧ Fr b (fs.map Fx.pair) k ∧ (∀ f ∈ fs, f.ok wr) ∧ J fs wr ∧ KeepU Bn W wr) (fun p wr => n - (intOf p).toNat)
  case atStart => exact ⟨[], 0, rfl, Nat.zero_le _, .nil, by simp, h0, KeepU.refl _ _⟩
  case round =>
    obtain ⟨fs, k, rfl, hk, hfr, hok, hJ, hkeep⟩ := hrel
    have hc1 := keep_cell hkeep hBn
    have HBW := Lib.hid (hkeep.bs HB.out HU.out)
    obtain ⟨A2, hA2⟩ : ∃ A2, (if c = k then A else A.map (·.add (k * 1))) = A2 := ⟨_, rfl⟩
    have hsl : ∀ w, (Instr.slice 23 (.slice A n c) (some (.int .i64 (k : Int))) none none).run Tryz.prog w = .ok (.slice A2 (n - k) (c - k)) w := fun w => by
      rw [← hA2]; exact slice_from (P := Tryz.prog) (k := k) (kk := .i64) Tryz.underlying23 u8s hk hc w
    have hbd : (b.drop k).take (n - k) = b.drop k := List.take_of_length_le (by rw [List.length_drop, hbl]; omega)
    have hmid := HBW.out.mid (k := k) (m := n) hk (Nat.le_refl _) hc hA2
    rw [hbd] at hmid
    have HM := Lib.hid hmid
    clear hmid
    gi_wp2_with (refine ⟨trivial, ?_⟩; gi_at_call 102; refine (callsIn_wide.2 (one_any A2 (n - k) (c - k) (b.drop k) HM.out (by omega))).mono ?_; rintro e w2 ⟨⟨ho, rfl⟩ | ⟨x, s, B, m, d, ho, rfl, hxm, hs, hsl2, hown, hby⟩, hb2⟩)
    · gi_wp2
      refine ⟨fun _ h => (by cases h), ?_⟩
      gi_wp2
      refine bodyPost_ret (results_none rfl _ _ _) rfl ?_
      have hkb := KeepU.of_below (g := Bn) hb2 (Nat.lt_of_lt_of_le hBl hkeep.size)
      exact ⟨⟨_, rfl⟩, fs, k, hfr, ho, fun f hf => (hok f hf).keep hkb, hJa _ _ _ hJ hb2⟩
    · have hmb : m ≤ 140737488355328 := by rw [List.length_drop, hbl] at hsl2; omega
      have hkb := KeepU.of_below (g := Bn) hb2 (Nat.lt_of_lt_of_le hBl hkeep.size)
      have hfok : Fx.ok w2 ⟨k, B, m, d, x⟩ := ⟨own_bs hown hby hmb, U8.of_own hown, hown.cap, by show k ≤ _; omega⟩
      obtain ⟨fn, tmps, assign, body, hy, hR⟩ := hY fs ⟨k, B, m, d, x⟩ w2 (hJa _ _ _ hJ hb2) (by have := hfr.len; rw [List.length_map] at this; rw [List.length_drop, hbl] at hsl2; omega) hfok
      dsimp only at hy
      have hks : k + s ≤ n := by rw [List.length_drop, hbl] at hsl2; omega
      gi_wp2
      rw [hy]
      gi_wp2
      refine hR.mono ?_
      rintro e W3 ⟨rfl, hJ3, hk3⟩
      gi_wp2
      go_roundw
      case rel =>
        have hkk := hkb.trans hk3
        refine ⟨fs ++ [⟨k, B, m, d, x⟩], k + s, by rw [hs]; go_num, hks, ?_, ?_, hJ3, hkeep.trans hkk⟩
        · rw [List.map_append]; exact .snoc hfr ho
        · intro f hf
          rcases List.mem_append.1 hf with h | h
          · exact (hok f h).keep hkk
          · simp at h; subst h; exact hfok.keep hk3
      case measure => simp [intOf]; omega
end Go.Proofs.YtahdeighocmijaaGreat
namespace Go.Proofs.YtahdeighocmijaaGreat
set_option linter.unusedSimpArgs false
set_option linter.unusedVariables false
open Go.RowKit Go.Shelf

theorem range_rounds {P : Program} {α : Type} {gop : Operand} {ps : Array Tmp} {assign body : Code} {Q : Exit → Act → World → Prop} {a : Act} {w : World} {gf : Nat} {lb : Array Value}
    (hg : a.eval gop = .func (.func gf) #[] lb) (eg : ∀ args w, (callFunc gf args).run P w = .ok (.enter gf args) w)
    (encs : α → Array Value) (hps : ∀ x, (encs x).size = ps.size) (G : α → World → Prop) (Kp : World → World → Prop) (J S : List α → World → Prop) (a₁ : α → Act) (N : Nat)
    (contract : ∀ (l : Nat) (J2 : List α → World → Prop) (W : World), Below w.heap.size w W → (∀ pre W W', J2 pre W → Below W.heap.size W W' → J2 pre W') →
      (∀ pre x W, J2 pre W → pre.length < N → G x W → YieldAt Fence.wide 4 P l (encs x) W fun e W' => e = .returned (.bool true) ∧ J2 (pre ++ [x]) W' ∧ Kp W W') → J2 [] W →
      CallsIn Fence.wide 5 P gf (#[.func (.yield l) #[] #[]] ++ lb) W fun e W' => (∃ v, e = .returned v) ∧ ∃ xs, S xs W' ∧ J2 xs W')
    (hJb : ∀ pre W W', J pre W → Below W.heap.size W W' → J pre W')
    (hJp : ∀ pre W r o o', J pre W → w.heap.size ≤ r → W.heap[r]? = some o → o.isCells = false → J pre (W.putObj r o'))
    (hGp : ∀ x W r o o', G x W → W.heap[r]? = some o → o.isCells = false → G x (W.putObj r o'))
    (hSp : ∀ xs W r o o', S xs W → W.heap[r]? = some o → o.isCells = false → S xs (W.putObj r o'))
    (hKt : ∀ A B C, Kp A B → Kp B C → Kp A C) (hKo : ∀ W r o o', w.heap.size ≤ r → W.heap[r]? = some o → o.isCells = false → Kp W (W.putObj r o'))
    (h0 : J [] w)
    (hassign : ∀ (l : Nat) (x : α) (W : World) (K : Act → World → Prop), K (a₁ x) W → assign.wpIn (Fence.wide.inRound l) 4 P (Exit.then K (fun _ _ _ => False)) { tmps := (ps.zip (encs x)).foldl (fun t (p, v) => t.setIfInBounds p v) a.tmps, defers := [] } W)
    (hbody : ∀ (l : Nat) (pre : List α) (x : α) (W : World), J pre W → pre.length < N → G x W → body.wpIn (Fence.wide.inRound l) 4 P (fun e _ W' => e = .normal ∧ KeepsOthers W W' ∧ Kp W W' ∧ J (pre ++ [x]) W') (a₁ x) W)
    (hdone : ∀ (D : Nat) (xs : List α) (W : World), w.heap.size ≤ D → S xs W → J xs W → W.heap[D]? = some (.deferred (some [])) → Q .normal { a with defers := { target := .collected D, args := #[] } :: a.defers } W) :
    (Code.rangeFunc gop ps assign body).wpIn Fence.wide 6 P Q a w := by
  refine wpIn_rangeFunc fun fn hfn => ?_
  obtain ⟨rec, hrec⟩ : ∃ rec : LoopState → Option Code → Loop, rec = fun st pe => { state := st, pending := pe, fn, tmps := a.tmps, params := ps, assign, body, defers := w.heap.size } := ⟨_, rfl⟩
  have hlay : (Instr.enterLoop fn a.tmps ps assign body Fence.wide.round).run P w = .ok (w.heap.size + 1, [{ target := .collected w.heap.size, args := #[] }]) ((w.alloc (.deferred (some []))).alloc (.loop (rec .ready none))) := by
    rw [hrec]; exact run_enterLoop_outer fn a.tmps ps assign body
  obtain ⟨W1, hW1⟩ : ∃ W1, (w.alloc (.deferred (some []))).alloc (.loop (rec .ready none)) = W1 := ⟨_, rfl⟩
  rw [hW1] at hlay
  have hbel : Below w.heap.size w W1 := by
    rw [← hW1]; exact ((Below.refl _ w).alloc (Nat.le_refl _) _).alloc (by simp) _
  have hloop : W1.heap[w.heap.size + 1]? = some (.loop (rec .ready none)) := by
    have := World.alloc_heap_new (w.alloc (.deferred (some []))) (.loop (rec .ready none))
    rw [World.size_alloc, hW1] at this
    exact this
  have hdef : W1.heap[w.heap.size]? = some (.deferred (some [])) := by
    rw [← hW1]; exact (Below.heap_alloc _ _ _ (by simp)).trans (World.alloc_heap_new w _)
  refine ⟨w.heap.size + 1, [{ target := .collected w.heap.size, args := #[] }], W1, { target := .fn (.func gf) lb, args := #[.func (.yield (w.heap.size + 1)) #[] #[]] }, W1, gf, #[.func (.yield (w.heap.size + 1)) #[] #[]] ++ lb, W1, hlay, ?_, fun f' hf' => trivial, ?_, fun _ => by omega, ?_⟩
  · simp only [resolve, hg]
    simp [go_sem]
  · simp [invoke, go_sem, eg]
  refine (contract (w.heap.size + 1) (fun pre W => J pre W ∧ W.heap[w.heap.size + 1]? = some (.loop (rec .ready none)) ∧ W.heap[w.heap.size]? = some (.deferred (some []))) W1 hbel ?_ ?_ ⟨hJb _ _ _ h0 hbel, hloop, hdef⟩).mono ?_
  · rintro pre W W' ⟨hj, hl, hd⟩ hb
    exact ⟨hJb _ _ _ hj hb, (hb.block _ (Array.getElem?_eq_some_iff.1 hl).1).trans hl, (hb.block _ (Array.getElem?_eq_some_iff.1 hd).1).trans hd⟩
  · rintro pre x W ⟨hj, hl, hd⟩ hN hG
    have hlt : w.heap.size + 1 < W.heap.size := (Array.getElem?_eq_some_iff.1 hl).1
    have hy := run_yield (P := P) (args := encs x) hl (by rw [hrec]; exact hps x)
    rw [hrec] at hy
    refine ⟨fn, _, assign, body, hy, roundIn_of_wpIn trivial (hassign _ x W _ ⟨_, run_beginRound hl (by rw [hrec]), ?_⟩)⟩
    obtain ⟨busy, hbusy⟩ : ∃ o : Obj, o = .loop { rec .ready none with state := .busy } := ⟨_, rfl⟩
    have hl2 : (W.putObj (w.heap.size + 1) busy).heap[w.heap.size + 1]? = some busy := World.putObj_heap_same hlt
    have hd2 : (W.putObj (w.heap.size + 1) busy).heap[w.heap.size]? = some (.deferred (some [])) := (World.putObj_heap_other (by omega)).trans hd
    have hnc : busy.isCells = false := by rw [hbusy]; rfl
    rw [← hbusy]
    refine wpIn_mono (hbody _ pre x _ (hJp _ _ _ _ _ hj (by omega) hl rfl) hN (hGp _ _ _ _ _ hG hl rfl)) ?_
    rintro e a3 W3 ⟨rfl, hk3, hkp3, hj3⟩
    have hl3 := hk3.same _ _ hl2 hnc
    have hd3 := hk3.same _ _ hd2 rfl
    rw [hbusy] at hl3
    have hend := run_endRound (P := P) none hl3
    refine ⟨_, _, hend, rfl, ⟨hJp _ _ _ _ _ hj3 (by omega) hl3 rfl, ?_, (World.putObj_heap_other (by omega)).trans hd3⟩, hKt _ _ _ (hKt _ _ _ (hKo _ _ _ _ (by omega) hl rfl) hkp3) (hKo _ _ _ _ (by omega) hl3 rfl)⟩
    rw [World.putObj_heap_same (Array.getElem?_eq_some_iff.1 hl3).1, hrec]
    rfl
  · rintro e W2 ⟨⟨v, rfl⟩, xs, hS, hj, hl, hd⟩
    have hend := run_endLoop (P := P) hl (by rw [hrec]; simp)
    refine ⟨_, _, hend, ?_⟩
    rw [show (rec .ready none).pending = none by rw [hrec]]
    exact hdone _ xs _ (Nat.le_refl _) (hSp _ _ _ _ _ hS hl rfl) (hJp _ _ _ _ _ hj (by omega) hl rfl) ((World.putObj_heap_other (by omega)).trans hd)
end Go.Proofs.YtahdeighocmijaaGreat
