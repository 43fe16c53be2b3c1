/- Frames: All, as an iterator whose rounds keep bytes. -/
import Derived.Test.YtahdeighocmijaaDoorFram
import Derived.RangeFuncBox
import Derived.RangeFuncLeaves
import Derived.RangeFuncIn
import Derived.Shelf.Abstract
import Derived.WalkKit
import Derived.OwnWalkIn
import Derived.TacticsInMore
import Derived.LoopNIn
import Derived.LoopIn
namespace Go.Proofs.YtahdeighocmijaaDoor
set_option linter.unusedSimpArgs false
set_option linter.unusedVariables false
open Go.RowKit Go.Shelf
open Crc (Bytes)

attribute [local go_sem] Oper.semAt_some

/-- What a round keeps: every block of bytes, and block g. -/
structure KeepU (g : Nat) (W W' : World) : Prop where
  size : W.heap.size ≤ W'.heap.size
  u8 : ∀ (k : Nat) (cs : Array Value) (fr : Nat × Nat), W.heap[k]? = some (Obj.cells cs 5 fr) → W'.heap[k]? = W.heap[k]?
  box : W'.heap[g]? = W.heap[g]?
theorem KeepU.refl (g : Nat) (W : World) : KeepU g W W := ⟨Nat.le_refl _, fun _ _ _ _ => rfl, rfl⟩
theorem KeepU.trans {g : Nat} {A B C : World} (h : KeepU g A B) (k : KeepU g B C) : KeepU g A C :=
  ⟨Nat.le_trans h.size k.size, fun i cs fr hi => (k.u8 i cs fr ((h.u8 i cs fr hi).trans hi)).trans (h.u8 i cs fr hi), k.box.trans h.box⟩
theorem KeepU.of_below {g : Nat} {W W' : World} (h : Below W.heap.size W W') (hg : g < W.heap.size) : KeepU g W W' :=
  ⟨h.size, fun k cs fr hk => h.block k (Array.getElem?_eq_some_iff.1 hk).1, h.block g hg⟩
theorem KeepU.bs {g n : Nat} {W W' : World} {A : Option Addr} {l : List Int} (h : KeepU g W W') (hb : Bs W A n l) (hu : U8 W A n) : Bs W' A n l :=
  ⟨hb.rd.keep h.size fun ad hA h0 => by obtain ⟨cs, fr, e⟩ := hu ad hA h0; exact h.u8 _ _ _ e, hb.by_, hb.le⟩
theorem KeepU.U8 {g n : Nat} {W W' : World} {A : Option Addr} (h : KeepU g W W') (hu : U8 W A n) : U8 W' A n :=
  hu.keep fun ad hA h0 => by obtain ⟨cs, fr, e⟩ := hu ad hA h0; exact h.u8 _ _ _ e

/-- A frame that was met: where it begins, the slice that was handed out, what it holds. -/
structure Fx where
  pos : Nat
  A : Option Addr
  m : Nat
  d : Nat
  x : List Int
/-- It is still what it was. -/
structure Fx.ok (W : World) (f : Fx) : Prop where
  bs : Bs W f.A f.m f.x
  u8 : Go.Proofs.YtahdeighocmijaaDoor.U8 W f.A f.m
  cap : f.m ≤ f.d
  pos_ : f.pos ≤ 140737488355328
theorem Fx.ok.keep {g : Nat} {W W' : World} {f : Fx} (h : f.ok W) (k : KeepU g W W') : f.ok W' := ⟨k.bs h.bs h.u8, k.U8 h.u8, h.cap, h.pos_⟩
/-- The frames of bytes from their beginning on. -/
inductive Fr (b : List Int) : List (Nat × List Int) → Nat → Prop
  | nil : Fr b [] 0
  | snoc {l : List (Nat × List Int)} {k s : Nat} {x : List Int} (h : Fr b l k) (h1 : oneF (b.drop k) = some (x, s)) : Fr b (l ++ [(k, x)]) (k + s)
theorem oneF_len {l x : List Int} {s : Nat} (h : oneF l = some (x, s)) : s = x.length + 10 ∧ s ≤ l.length := by
  unfold oneF at h
  split at h
  · cases h
  split at h
  · cases h
  split at h
  · simp only [Option.some.injEq, Prod.mk.injEq] at h
    obtain ⟨rfl, rfl⟩ := h
    omega
  · cases h
theorem Fr.len {b : List Int} {l : List (Nat × List Int)} {k : Nat} (h : Fr b l k) : l.length * 10 ≤ k := by
  induction h with
  | nil => simp
  | snoc h h1 ih => have := (oneF_len h1).1; rw [List.length_append]; simp; omega
def Fx.pair (f : Fx) : Nat × List Int := (f.pos, f.x)
theorem keep_cell {g : Nat} {W W' : World} {v : Value} (h : KeepU g W W') (hc : W.cell? ⟨g, 0, none⟩ = some v) : W'.cell? ⟨g, 0, none⟩ = some v := by
  rw [World.cell?_of_block h.box]; exact hc
set_option maxRecDepth 100000 in
set_option maxHeartbeats 4000000 in
/-- The iterator, at a loop whose rounds go on and keep bytes. -/
theorem all1_any (l Bn n c : Nat) (A : Option Addr) (b : List Int) (hc : n ≤ c) (J : List Fx → World → Prop)
    (hJa : ∀ pre W W', J pre W → Below W.heap.size W W' → J pre W')
    (hY : ∀ pre (f : Fx) W, J pre W → pre.length < n → f.ok W → YieldAt Fence.wide 4 Tryd.prog l #[.int .i64 f.pos, .slice f.A f.m f.d] W fun e W' => e = .returned (.bool true) ∧ J (pre ++ [f]) W' ∧ KeepU Bn W W')
    (W : World) (hBn : W.cell? ⟨Bn, 0, none⟩ = some (.slice A n c)) (hb : Bs W A n b) (hu : Go.Proofs.YtahdeighocmijaaDoor.U8 W A n) (h0 : J [] W) :
    CallsIn Fence.wide 5 Tryd.prog 82 #[.func (.yield l) #[] #[], .pointer (some ⟨Bn, 0, none⟩)] W fun e W' => (∃ v, e = .returned v) ∧ ∃ fs k, Fr b (fs.map Fx.pair) k ∧ oneF (b.drop k) = none ∧ (∀ f ∈ fs, f.ok W') ∧ J fs W' := by
  have hbl := hb.len
  have hble := hb.le
  have HB := Lib.hid hb
  have HU := Lib.hid hu
  have hBl : Bn < W.heap.size := World.block_lt_of_cell? W ⟨Bn, 0, none⟩ hBn
  clear hb hu
  refine callsIn_of_wp Tryd.func82 rfl trivial ?_ rfl
  simp only [Tryd.ntmps82, List.size_toArray, List.length_cons, List.length_nil, Nat.reduceAdd, Nat.reduceSub, Array.replicate_succ, Array.replicate_zero, List.push_toArray, List.append_toArray, List.nil_append, List.cons_append]
  gi_wp2
  gi_loopw [3] (fun p wr => ∃ (fs : List Fx) (k : Nat), p = .int .i64 k ∧ k ≤ n ∧ Fr b (fs.map Fx.pair) k ∧ (∀ f ∈ fs, f.ok wr) ∧ J fs wr ∧ KeepU Bn W wr) (fun p wr => n - (intOf p).toNat)
  case atStart => exact ⟨[], 0, rfl, Nat.zero_le _, .nil, by simp, h0, KeepU.refl _ _⟩
  case round =>
    obtain ⟨fs, k, rfl, hk, hfr, hok, hJ, hkeep⟩ := hrel
    have hc1 := keep_cell hkeep hBn
    have HBW := Lib.hid (hkeep.bs HB.out HU.out)
    obtain ⟨A2, hA2⟩ : ∃ A2, (if c = k then A else A.map (·.add (k * 1))) = A2 := ⟨_, rfl⟩
    have hsl : ∀ w, (Instr.slice 33 (.slice A n c) (some (.int .i64 (k : Int))) none none).run Tryd.prog w = .ok (.slice A2 (n - k) (c - k)) w := fun w => by
      rw [← hA2]; exact slice_from (P := Tryd.prog) (k := k) (kk := .i64) Tryd.underlying33 u8s hk hc w
    have hbd : (b.drop k).take (n - k) = b.drop k := List.take_of_length_le (by rw [List.length_drop, hbl]; omega)
    have hmid := HBW.out.mid (k := k) (m := n) hk (Nat.le_refl _) hc hA2
    rw [hbd] at hmid
    have HM := Lib.hid hmid
    clear hmid
    gi_wp2_with (refine ⟨trivial, ?_⟩; gi_at_call 83; refine (callsIn_wide.2 (one_any A2 (n - k) (c - k) (b.drop k) HM.out (by omega))).mono ?_; rintro e w2 ⟨⟨ho, rfl⟩ | ⟨x, s, B, m, d, ho, rfl, hxm, hs, hsl2, hown, hby⟩, hb2⟩)
    · gi_wp2
      refine ⟨fun _ h => (by cases h), ?_⟩
      gi_wp2
      refine bodyPost_ret (results_none rfl _ _ _) rfl ?_
      have hkb := KeepU.of_below (g := Bn) hb2 (Nat.lt_of_lt_of_le hBl hkeep.size)
      exact ⟨⟨_, rfl⟩, fs, k, hfr, ho, fun f hf => (hok f hf).keep hkb, hJa _ _ _ hJ hb2⟩
    · have hmb : m ≤ 140737488355328 := by rw [List.length_drop, hbl] at hsl2; omega
      have hkb := KeepU.of_below (g := Bn) hb2 (Nat.lt_of_lt_of_le hBl hkeep.size)
      have hfok : Fx.ok w2 ⟨k, B, m, d, x⟩ := ⟨own_bs hown hby hmb, U8.of_own hown, hown.cap, by show k ≤ _; omega⟩
      obtain ⟨fn, tmps, assign, body, hy, hR⟩ := hY fs ⟨k, B, m, d, x⟩ w2 (hJa _ _ _ hJ hb2) (by have := hfr.len; rw [List.length_map] at this; rw [List.length_drop, hbl] at hsl2; omega) hfok
      dsimp only at hy
      have hks : k + s ≤ n := by rw [List.length_drop, hbl] at hsl2; omega
      gi_wp2
      rw [hy]
      gi_wp2
      refine hR.mono ?_
      rintro e W3 ⟨rfl, hJ3, hk3⟩
      gi_wp2
      go_roundw
      case rel =>
        have hkk := hkb.trans hk3
        refine ⟨fs ++ [⟨k, B, m, d, x⟩], k + s, by rw [hs]; go_num, hks, ?_, ?_, hJ3, hkeep.trans hkk⟩
        · rw [List.map_append]; exact .snoc hfr ho
        · intro f hf
          rcases List.mem_append.1 hf with h | h
          · exact (hok f h).keep hkk
          · simp at h; subst h; exact hfok.keep hk3
      case measure => simp [intOf]; omega
end Go.Proofs.YtahdeighocmijaaDoor
