/- Words for memory: a slice that reads as a list, a block that is known whole, what may have turned. -/
import Derived.WalkKit
import Derived.WalkSpells
import Derived.WalkLawsBesides
import Derived.Deep.Draws
import Derived.Deep.AppendLies
import Derived.Maps.AppendAt
import Derived.Laws.Rows
import Derived.Lib.Hide
import Derived.Lib.SlBytesConst
import Derived.Lib.ConvBytes
import Derived.Deep.RegionHeld3
import Derived.Deep.QuietTactic
import Derived.BigQuiet
import Derived.BigRegion
import Derived.StillTailTactics
import Derived.Deep.RegionWith
import Derived.Test.YtkbgedaogfcdnaaDoorCrcMath
namespace Go.Proofs.YtkbgedaogfcdnaaDoor
set_option linter.unusedSimpArgs false
set_option linter.unusedVariables false
open Go.RowKit
open Crc (Bytes)

theorem addr_block (a : Addr) (n : Nat) : (a.add n).block = a.block := by unfold Addr.add; split <;> rfl
theorem addr_add (a : Addr) (i j : Nat) : (a.add i).add j = a.add (i + j) := by
  unfold Addr.add
  by_cases hi : i = 0 <;> by_cases hj : j = 0 <;> simp [hi, hj, Nat.add_assoc]

/-- The slice value '.slice A n _' holds the cells xs (n elements of 'size' cells). -/
structure Rd (w : World) (size : Nat) (A : Option Addr) (n : Nat) (xs : List Value) : Prop where
  len : xs.length = n * size
  at_ : 0 < n → ∃ ad, A = some ad ∧ ad.block < w.heap.size ∧ ∀ j u, xs[j]? = some u → w.cell? (ad.add j) = some u

/-- What may have turned: the blocks of the list alone; and there may be new ones. -/
structure Only (bs : List Nat) (w w' : World) : Prop where
  os : w'.os = w.os
  tape : w'.tape = w.tape
  output : w'.output = w.output
  size : w.heap.size ≤ w'.heap.size
  block : ∀ k, k < w.heap.size → k ∉ bs → w'.heap[k]? = w.heap[k]?

@[go_sem] theorem run_min2 {P : Program} (w : World) (ts : Array TypeId) (t : TypeId) (k : IntKind) (a b : Int) : (Builtin.min_ ts t #[.int k a, .int k b]).run P w = .ok (.int k (min a b)) w := by
  have h : (if b < a then b else a) = min a b := by split <;> omega
  simp [Builtin.min_, Builtin.min2, h]
@[go_sem] theorem run_max2 {P : Program} (w : World) (ts : Array TypeId) (t : TypeId) (k : IntKind) (a b : Int) : (Builtin.max_ ts t #[.int k a, .int k b]).run P w = .ok (.int k (max a b)) w := by
  have h : (if b > a then b else a) = max a b := by split <;> omega
  simp [Builtin.max_, Builtin.max2, h]
@[go_sem] theorem run_min3 {P : Program} (w : World) (ts : Array TypeId) (t : TypeId) (k : IntKind) (a b c : Int) : (Builtin.min_ ts t #[.int k a, .int k b, .int k c]).run P w = .ok (.int k (min (min a b) c)) w := by
  have h : ∀ a b : Int, (if b < a then b else a) = min a b := fun a b => by split <;> omega
  simp [Builtin.min_, Builtin.min2, h]
@[go_sem] theorem run_min4 {P : Program} (w : World) (ts : Array TypeId) (t : TypeId) (k : IntKind) (a b c d : Int) : (Builtin.min_ ts t #[.int k a, .int k b, .int k c, .int k d]).run P w = .ok (.int k (min (min (min a b) c) d)) w := by
  have h : ∀ a b : Int, (if b < a then b else a) = min a b := fun a b => by split <;> omega
  simp [Builtin.min_, Builtin.min2, h]
attribute [go_sem] World.cell?_alloc_some
@[go_sem] theorem frozen_alloc_some (w : World) (a : Addr) (o : Obj) (h : (w.cell? a).isSome = true) : (w.alloc o).frozen? a = w.frozen? a := by
  obtain ⟨u, hu⟩ := Option.isSome_iff_exists.1 h
  exact World.frozen?_of_block (Below.heap_alloc w o a.block (World.block_lt_of_cell? w a hu))
theorem eql_slice_nil {P : Program} {t e : TypeId} (ht : P.underlying t = some (.slice e)) (w : World) (a : Option Addr) (n c n' c' : Nat) :
    (binOp .eql t (.slice a n c) (.slice none n' c')).run P w = .ok (.bool a.isNone) w := by
  simp only [binOp]
  simp [Op.equal, Op.maxDepth, Lib.run_equalIn_slice_nil w 9999 t e a n c n' c' ht]
theorem ops_at {l : List Oper} {i : Nat} {o : Oper} (h : l[i]? = some o) : l.toArray[i]? = some o := by simpa using h
/-- The world at hand is forgotten but for what is said of it. -/
theorem at_world {P : Program} {c : Code} {Q : Exit → Act → World → Prop} {a : Act} {W : World} (F : World → Prop) (hF : F W) (h : ∀ W', F W' → c.wp P Q a W') : c.wp P Q a W := h W hF
theorem bl_drewN {B : Nat} {w w' : World} (h : Below B w w') (n : Nat) : Below B w (w'.drewN n) := ⟨h.os, h.tape, h.output, h.size, h.block⟩
theorem bl_alloc {w w' : World} {o : Obj} (h : Below w.heap.size w w') : Below w.heap.size w (w'.alloc o) := h.alloc h.size o
theorem bl_then {w w1 w2 : World} (h : Below w.heap.size w w1) (k : Below w1.heap.size w1 w2) : Below w.heap.size w w2 := h.trans (k.mono h.size)

section
variable {w w' w'' : World} {bs cs : List Nat}
theorem Only.refl (bs : List Nat) (w : World) : Only bs w w := ⟨rfl, rfl, rfl, Nat.le_refl _, fun _ _ _ => rfl⟩
theorem Only.trans (h : Only bs w w') (k : Only bs w' w'') : Only bs w w'' :=
  ⟨k.os.trans h.os, k.tape.trans h.tape, k.output.trans h.output, Nat.le_trans h.size k.size, fun i hi hn => (k.block i (Nat.lt_of_lt_of_le hi h.size) hn).trans (h.block i hi hn)⟩
theorem Only.more (h : Only bs w w') (hs : ∀ b ∈ bs, b ∈ cs ∨ w.heap.size ≤ b) : Only cs w w' :=
  ⟨h.os, h.tape, h.output, h.size, fun i hi hn => h.block i hi (fun hb => by
    rcases hs i hb with h1 | h1
    · exact hn h1
    · omega)⟩
/-- A second stretch, whose blocks are of the first's or newer. -/
theorem Only.step (h : Only bs w w') (k : Only cs w' w'') (hs : ∀ b ∈ cs, b ∈ bs ∨ w.heap.size ≤ b) : Only bs w w'' :=
  ⟨k.os.trans h.os, k.tape.trans h.tape, k.output.trans h.output, Nat.le_trans h.size k.size, fun i hi hn =>
    (k.block i (Nat.lt_of_lt_of_le hi h.size) (fun hb => by
      rcases hs i hb with h1 | h1
      · exact hn h1
      · omega)).trans (h.block i hi hn)⟩
theorem Only.of_below (h : Below w.heap.size w w') (bs : List Nat) : Only bs w w' := ⟨h.os, h.tape, h.output, h.size, fun i hi _ => h.block i hi⟩
theorem Only.below (h : Only [] w w') : Below w.heap.size w w' := ⟨h.os, h.tape, h.output, h.size, fun i hi => h.block i hi (by simp)⟩
theorem Only.drew (h : Only bs w w') : Only bs w w'.drew := ⟨h.os, h.tape, h.output, h.size, h.block⟩
theorem Only.drewN (h : Only bs w w') (n : Nat) : Only bs w (w'.drewN n) := ⟨h.os, h.tape, h.output, h.size, h.block⟩
theorem Only.alloc (h : Only bs w w') (o : Obj) : Only bs w (w'.alloc o) :=
  ⟨h.os, h.tape, h.output, Nat.le_trans h.size (by simp), fun i hi hn => (Below.heap_alloc w' o i (Nat.lt_of_lt_of_le hi h.size)).trans (h.block i hi hn)⟩
theorem Only.setCell (h : Only bs w w') {p : Addr} (hp : p.block ∈ bs ∨ w.heap.size ≤ p.block) (u : Value) : Only bs w (w'.setCell p u) :=
  ⟨h.os, h.tape, h.output, by simpa [World.setCell] using h.size, fun i hi hn => (Below.heap_setCell w' p u i (by
    rintro rfl
    rcases hp with hp | hp
    · exact hn hp
    · omega)).trans (h.block i hi hn)⟩
theorem Only.grown (h : Only bs w w') {row : Option Nat} (hg : w'.grownBy w'' row) (hr : ∀ k, row = some k → k ∈ bs ∨ w.heap.size ≤ k) : Only bs w w'' :=
  ⟨hg.os.trans h.os, hg.tape.trans h.tape, hg.output.trans h.output, Nat.le_trans h.size hg.size, fun i hi hn =>
    (hg.block i (Nat.lt_of_lt_of_le hi h.size) (fun e => by
      rcases hr i e.symm with h1 | h1
      · exact hn h1
      · omega)).trans (h.block i hi hn)⟩
theorem Only.cell (h : Only bs w w') {p : Addr} (hp : p.block < w.heap.size) (hn : p.block ∉ bs) : w'.cell? p = w.cell? p := World.cell?_of_block (h.block p.block hp hn)
end

theorem below_only {B : Nat} {w w1 w2 : World} {bs : List Nat} (h : Below B w w1) (k : Only bs w1 w2) (hb : ∀ b ∈ bs, B ≤ b) (hB : B ≤ w1.heap.size) : Below B w w2 :=
  h.trans ⟨k.os, k.tape, k.output, k.size, fun i hi => k.block i (by omega) (fun hm => by have := hb i hm; omega)⟩
section
variable {w w' : World} {size n : Nat} {A : Option Addr} {xs : List Value}
theorem Rd.nil (w : World) (size : Nat) (A : Option Addr) : Rd w size A 0 [] := ⟨by simp, fun h => absurd h (by omega)⟩
theorem Rd.get {k : Nat} (h : Rd w 1 A n xs) (hk : k < n) : ∃ ad, A = some ad ∧ w.cell? (ad.add k) = xs[k]? ∧ k < xs.length := by
  obtain ⟨ad, e, _, hc⟩ := h.at_ (by omega)
  have hl : k < xs.length := by have := h.len; omega
  exact ⟨ad, e, by rw [List.getElem?_eq_getElem hl]; exact hc k _ (List.getElem?_eq_getElem hl), hl⟩
theorem Rd.keep (h : Rd w size A n xs) (hs : w.heap.size ≤ w'.heap.size) (hk : ∀ ad, A = some ad → 0 < n → w'.heap[ad.block]? = w.heap[ad.block]?) : Rd w' size A n xs :=
  ⟨h.len, fun hn => by
    obtain ⟨ad, e, hb, hc⟩ := h.at_ hn
    refine ⟨ad, e, by omega, fun j u hu => ?_⟩
    rw [World.cell?_of_block (w := w) (a := ad.add j) (by rw [addr_block]; exact hk ad e hn)]
    exact hc j u hu⟩
theorem Rd.below (h : Rd w size A n xs) (hb : Below w.heap.size w w') : Rd w' size A n xs :=
  h.keep hb.size fun ad e hn => by
    obtain ⟨ad', e', hlt, _⟩ := h.at_ hn
    rw [e] at e'; cases e'
    exact hb.block _ hlt
theorem Rd.only {bs : List Nat} (h : Rd w size A n xs) (hb : Only bs w w') (hn : ∀ ad, A = some ad → 0 < n → ad.block ∉ bs) : Rd w' size A n xs :=
  h.keep hb.size fun ad e h0 => by
    obtain ⟨ad', e', hlt, _⟩ := h.at_ h0
    rw [e] at e'; cases e'
    exact hb.block _ hlt (hn ad e h0)
theorem Rd.drew (h : Rd w size A n xs) : Rd w.drew size A n xs := ⟨h.len, h.at_⟩
theorem Rd.drewN (h : Rd w size A n xs) (k : Nat) : Rd (w.drewN k) size A n xs := ⟨h.len, h.at_⟩
theorem Rd.alloc (h : Rd w size A n xs) (o : Obj) : Rd (w.alloc o) size A n xs := h.below ((Below.refl _ _).alloc (Nat.le_refl _) o)
theorem Rd.setCell (h : Rd w size A n xs) {p : Addr} (hp : ∀ ad, A = some ad → 0 < n → ad.block ≠ p.block) (u : Value) : Rd (w.setCell p u) size A n xs :=
  h.keep (by simp [World.setCell]) fun ad e hn => Below.heap_setCell w p u _ (hp ad e hn)
theorem Rd.of_own {base : Nat} {e : TypeId} {c : Nat} (h : w.ownsRow base e size (.slice A n c) n xs) : Rd w size A n xs := by
  refine ⟨h.1, fun hn => ?_⟩
  rcases h.2 with ⟨_, h0⟩ | ⟨g, cap, cur, hv, hg, hh, _⟩
  · omega
  · have hA : A = some ⟨g, 0, none⟩ := by injection hv
    subst hA
    refine ⟨_, rfl, ?_, h.cells (g := g) rfl⟩
    rcases Nat.lt_or_ge g w.heap.size with hlt | hge
    · exact hlt
    · rw [Array.getElem?_eq_none hge] at hh; cases hh
/-- s[k:] -/
theorem Rd.cut (h : Rd w size A n xs) {k cap : Nat} (hk : k ≤ n) (hc : n ≤ cap) :
    Rd w size (if cap = k then A else A.map (·.add (k * size))) (n - k) (xs.drop (k * size)) := by
  refine ⟨by rw [List.length_drop, h.len, Nat.sub_mul], fun hn => ?_⟩
  obtain ⟨ad, rfl, hb, hcell⟩ := h.at_ (by omega)
  rw [if_neg (by omega)]
  refine ⟨ad.add (k * size), rfl, by rw [addr_block]; exact hb, fun j u hu => ?_⟩
  rw [addr_add]
  exact hcell _ u (by rw [← hu, List.getElem?_drop])
/-- s[:k] -/
theorem Rd.take (h : Rd w size A n xs) {k : Nat} (hk : k ≤ n) : Rd w size A k (xs.take (k * size)) := by
  refine ⟨by rw [List.length_take, h.len]; exact Nat.min_eq_left (Nat.mul_le_mul_right _ hk), fun hn => ?_⟩
  obtain ⟨ad, rfl, hb, hcell⟩ := h.at_ (by omega)
  refine ⟨ad, rfl, hb, fun j u hu => hcell _ u ?_⟩
  rw [List.getElem?_take] at hu
  split at hu
  · exact hu
  · cases hu
end

theorem cell_alloc (w : World) (C : Array Value) (e : TypeId) (fr : Nat × Nat) (j : Nat) : (w.alloc (.cells C e fr)).cell? ⟨w.heap.size, j, none⟩ = C[j]? := by
  have h : (w.alloc (.cells C e fr)).heap[w.heap.size]? = some (.cells C e fr) := heap_alloc_new w _
  unfold World.cell?
  simp only [h, Option.isSome_none, Bool.false_eq_true, if_false]
theorem add_zero (b j : Nat) : (⟨b, 0, none⟩ : Addr).add j = ⟨b, j, none⟩ := by
  unfold Addr.add
  split
  · rename_i h; subst h; rfl
  · simp
theorem Rd.lit (w : World) (C : Array Value) (e : TypeId) (fr : Nat × Nat) (size n : Nat) (h : C.size = n * size) : Rd (w.alloc (.cells C e fr)) size (some ⟨w.heap.size, 0, none⟩) n C.toList :=
  ⟨by simpa using h, fun _ => ⟨_, rfl, by simp, fun j u hu => by rw [add_zero, cell_alloc]; simpa using hu⟩⟩

/-- []byte of a constant text, wherever its row lies -/
theorem conv_const {P : Program} {t e : TypeId} (ht : P.underlying t = some (.slice e)) (he : P.underlying e = some (.int .u8)) (w : World) (C : Array Value) (n c g : Nat) (hg : g = w.heap.size) :
    (convert t t (.slice (some ⟨g, 0, none⟩) n c)).run P (w.alloc (.cells C e)) = .ok (.slice (some ⟨g, 0, none⟩) n c) (w.alloc (.cells C e (C.size, C.size + 1))) := by
  subst hg; exact Lib.run_convert_bytes_const w t e C n c ht he

/-- s[k:], the new address under one name -/
theorem slice_from {P : Program} {t e : TypeId} {size : Nat} (ht : P.underlying t = some (.slice e)) (hs : (P.info? e).map (·.size) = some size) {A : Option Addr} {n c k : Nat} {kk : IntKind} (hk : k ≤ n) (hc : n ≤ c) (w : World) :
    (Instr.slice t (.slice A n c) (some (.int kk (k : Int))) none none).run P w = .ok (.slice (if c = k then A else A.map (·.add (k * size))) (n - k) (c - k)) w := by
  obtain ⟨i, hi, hsi⟩ := Option.map_eq_some_iff.1 hs
  have h1 : (0 : Int) ≤ (k : Int) := by omega
  have h2 : (k : Int) ≤ (n : Int) := by omega
  simp [Instr.slice, run_underlying ht, Instr.sliceBounds, Instr.sliceBound, asIntOf, sizeOf, typeInfo, hi, hsi, h1, h2]
  omega
theorem Rd.from_ {w : World} {size n c k : Nat} {A A2 : Option Addr} {xs : List Value} (h : Rd w size A n xs) (hk : k ≤ n) (hc : n ≤ c) (hA : (if c = k then A else A.map (·.add (k * size))) = A2) :
    Rd w size A2 (n - k) (xs.drop (k * size)) ∧ (∀ ad, A2 = some ad → 0 < n - k → ∃ ad', A = some ad' ∧ ad.block = ad'.block) := by
  refine ⟨hA ▸ h.cut hk hc, fun ad hB h0 => ?_⟩
  subst hA
  rw [if_neg (by omega)] at hB
  cases A with
  | none => cases hB
  | some a => simp at hB; exact ⟨a, rfl, by rw [← hB, addr_block]⟩

/-- numbers of a kind as cells -/
def ints (k : IntKind) (l : List Int) : List Value := l.map (Value.int k)
theorem ints_len (k : IntKind) (l : List Int) : (ints k l).length = l.length := by simp [ints]
theorem ints_one (k : IntKind) (l : List Int) : ∀ u ∈ ints k l, u.oneCell' = true := by
  intro u hu; simp only [ints, List.mem_map] at hu; obtain ⟨x, _, rfl⟩ := hu; rfl
theorem ints_get (k : IntKind) (l : List Int) {i : Nat} (h : i < l.length) : (ints k l)[i]? = some (.int k l[i]) := by simp [ints, h]

/-- the number at a place -/
def ix (l : List Int) (k : Nat) : Int := l.getD k 0
theorem ix_get {l : List Int} {k : Nat} (h : k < l.length) : ix l k = l[k] := by simp [ix, h]
/-- make([]T, n) of a whole-number kind -/
theorem make_ints {P : Program} {t e : TypeId} {k kn : IntKind} {by_ : Nat} (ht : P.underlying t = some (.slice e)) (hinfo : (P.info? e).map (fun i => (i.zero, i.size, i.bytes)) = some (some (.int k 0), 1, by_))
    (n : Nat) (hn : by_ * n ≤ 281474976710656) (hm : n ≤ 9223372036854775807) (w : World) :
    (Instr.makeSlice t (.int kn (n : Int)) (.int kn (n : Int))).run P w = .ok (.slice (some ⟨w.heap.size, 0, none⟩) n n) (w.alloc (.cells (ints k (List.replicate n 0)).toArray e)) := by
  obtain ⟨i, hi, hz, hs, hby⟩ := info_parts hinfo
  have hb : (i.bytes : Int) * (n : Int) ≤ 281474976710656 := by
    rw [hby, ← Int.natCast_mul]; omega
  have h := run_make (P := P) w t e i (.int k 0) ht hi hz kn kn n n (by omega) (Int.le_refl _) hb (by omega)
  rw [h]
  have e2 : madeCells (Value.int k 0).cells ((n : Int).toNat * i.size) = (ints k (List.replicate n 0)).toArray := by
    rw [hs]
    apply Array.toList_inj.1
    rw [show (Value.int k 0).cells = #[Value.int k 0] from rfl, toList_madeCells_one]
    simp [ints]
  rw [e2]
  simp

/-- Block g is just these cells, none of them frozen. -/
structure Blk (w : World) (g : Nat) (t : TypeId) (cs : List Value) : Prop where
  at_ : w.heap[g]? = some (.cells cs.toArray t (0, 0))
section
variable {w w' : World} {g : Nat} {t : TypeId} {cs : List Value}
theorem Blk.lt (h : Blk w g t cs) : g < w.heap.size := by
  rcases Nat.lt_or_ge g w.heap.size with hlt | hge
  · exact hlt
  · have := h.at_; rw [Array.getElem?_eq_none hge] at this; cases this
theorem Blk.cell (h : Blk w g t cs) (i : Nat) : w.cell? ⟨g, i, none⟩ = cs[i]? := by
  have := cell_of_row w g i cs.toArray t (0, 0) h.at_
  rw [this]; simp
theorem Blk.frozen (h : Blk w g t cs) (i : Nat) : w.frozen? ⟨g, i, none⟩ = false := by
  unfold World.frozen?
  simp [h.at_]
theorem Blk.new (w : World) (t : TypeId) (cs : List Value) : Blk (w.alloc (.cells cs.toArray t)) w.heap.size t cs := ⟨heap_alloc_new w _⟩
theorem blk_new {w : World} {t : TypeId} {cs : List Value} {g : Nat} (hg : g = w.heap.size) : Blk (w.alloc (.cells cs.toArray t)) g t cs := by subst hg; exact Blk.new w t cs
theorem Blk.keep (h : Blk w g t cs) (hk : w'.heap[g]? = w.heap[g]?) : Blk w' g t cs := ⟨hk.trans h.at_⟩
theorem Blk.drew (h : Blk w g t cs) : Blk w.drew g t cs := ⟨h.at_⟩
theorem Blk.drewN (h : Blk w g t cs) (n : Nat) : Blk (w.drewN n) g t cs := ⟨h.at_⟩
theorem Blk.alloc (h : Blk w g t cs) (o : Obj) : Blk (w.alloc o) g t cs := h.keep (Below.heap_alloc w o g h.lt)
theorem Blk.set_ (h : Blk w g t cs) (i : Nat) (u : Value) : Blk (w.setCell ⟨g, i, none⟩ u) g t (cs.set i u) := by
  refine ⟨?_⟩
  have := h.at_
  simp [World.setCell, Array.getElem?_modify, this]
theorem Blk.far (h : Blk w g t cs) {p : Addr} (hp : g ≠ p.block) (u : Value) : Blk (w.setCell p u) g t cs := h.keep (Below.heap_setCell w p u g hp)
theorem Blk.below (h : Blk w g t cs) (hb : Below w.heap.size w w') : Blk w' g t cs := h.keep (hb.block g h.lt)
theorem Blk.only {bs : List Nat} (h : Blk w g t cs) (hb : Only bs w w') (hg : g ∉ bs) : Blk w' g t cs := h.keep (hb.block g h.lt hg)
theorem Blk.ne {g' : Nat} {t' : TypeId} {cs' : List Value} (h : Blk w g t cs) (h' : Blk w g' t' cs') (hne : t ≠ t') : g ≠ g' := by
  rintro rfl
  have := h.at_.symm.trans h'.at_
  injection this with this
  injection this with _ ht
  exact hne ht
/-- A block of the call's own, as a slice. -/
theorem Blk.rd (h : Blk w g t cs) {size n : Nat} (hl : cs.length = n * size) : Rd w size (some ⟨g, 0, none⟩) n cs :=
  ⟨hl, fun _ => ⟨_, rfl, h.lt, fun j u hu => by rw [add_zero, h.cell]; exact hu⟩⟩
end

/-- A slice of bytes that reads as l. -/
structure Bs (w : World) (A : Option Addr) (n : Nat) (l : List Int) : Prop where
  rd : Rd w 1 A n (ints .u8 l)
  by_ : Bytes l
  le : n ≤ 140737488355328

section
variable {w w' : World} {n : Nat} {A : Option Addr} {l : List Int}
theorem Bs.len (h : Bs w A n l) : l.length = n := by have := h.rd.len; rw [ints_len] at this; omega
theorem Bs.get {k : Nat} (h : Bs w A n l) (hk : k < n) : ∃ ad, A = some ad ∧ w.cell? (ad.add k) = some (.int .u8 (ix l k)) ∧ 0 ≤ ix l k ∧ ix l k ≤ 255 := by
  obtain ⟨ad, e, hc, _⟩ := h.rd.get hk
  have hl : k < l.length := by have := h.len; omega
  have hg := ix_get hl
  refine ⟨ad, e, by rw [hc, ints_get .u8 l hl, hg], ?_⟩
  rw [hg]; exact h.by_ _ (List.getElem_mem _)
theorem Bs.nil (w : World) (A : Option Addr) : Bs w A 0 [] := ⟨Rd.nil w 1 A, fun x hx => by simp at hx, by omega⟩
theorem Bs.lit (w : World) (l : List Int) (e : TypeId) (fr : Nat × Nat) (hb : Bytes l) (hl : l.length ≤ 140737488355328) : Bs (w.alloc (.cells (ints .u8 l).toArray e fr)) (some ⟨w.heap.size, 0, none⟩) l.length l :=
  ⟨Rd.lit w (ints .u8 l).toArray e fr 1 l.length (by simp [ints]), hb, hl⟩
theorem bs_lit {w : World} {l : List Int} {e : TypeId} {fr : Nat × Nat} {g : Nat} (hb : Bytes l) (hl : l.length ≤ 140737488355328) (hg : g = w.heap.size) : Bs (w.alloc (.cells (ints .u8 l).toArray e fr)) (some ⟨g, 0, none⟩) l.length l := by
  subst hg; exact Bs.lit w l e fr hb hl
theorem Blk.bs {g : Nat} {t : TypeId} (h : Blk w g t (ints .u8 l)) (hb : Bytes l) (hl : l.length ≤ 140737488355328) : Bs w (some ⟨g, 0, none⟩) l.length l :=
  ⟨h.rd (by simp [ints]), hb, hl⟩
/-- a text's bytes as numbers -/
def bl (s : ByteArray) : List Int := s.data.toList.map fun b => (b.toNat : Int)
theorem bl_len (s : ByteArray) : (bl s).length = s.size := by simp [bl]
theorem bl_bytes (s : ByteArray) : Bytes (bl s) := by
  intro x hx
  simp only [bl, List.mem_map] at hx
  obtain ⟨b, _, rfl⟩ := hx
  have := b.toNat_lt
  omega
/-- []byte(s) -/
theorem bs_conv {w : World} {s : ByteArray} {cap : Nat} {e : TypeId} {fr : Nat × Nat} {g : Nat} (hl : s.size ≤ 140737488355328) (hg : g = w.heap.size) :
    Bs (w.alloc (.cells (bytesRow s cap) e fr)) (some ⟨g, 0, none⟩) s.size (bl s) := by
  subst hg
  refine ⟨⟨by rw [ints_len, bl_len]; omega, fun _ => ⟨_, rfl, by simp, fun j u hu => ?_⟩⟩, bl_bytes s, hl⟩
  have hj : j < s.data.size := by
    have : j < (ints .u8 (bl s)).length := by
      rcases Nat.lt_or_ge j (ints .u8 (bl s)).length with h | h
      · exact h
      · rw [List.getElem?_eq_none h] at hu; cases hu
    rw [ints_len, bl_len] at this; exact this
  rw [add_zero, cell_alloc, bytesRow_at s cap j hj]
  rw [ints_get .u8 (bl s) (by rw [bl_len]; exact hj)] at hu
  injection hu with hu
  rw [← hu]
  simp [bl]
theorem Bs.below (h : Bs w A n l) (hb : Below w.heap.size w w') : Bs w' A n l := ⟨h.rd.below hb, h.by_, h.le⟩
theorem Bs.take (h : Bs w A n l) {k : Nat} (hk : k ≤ n) : Bs w A k (l.take k) :=
  ⟨by have := h.rd.take hk; rwa [Nat.mul_one, show (ints .u8 l).take k = ints .u8 (l.take k) by simp [ints, List.map_take]] at this, fun x hx => h.by_ x (List.mem_of_mem_take hx), by have := h.le; omega⟩
theorem Bs.only {bs : List Nat} (h : Bs w A n l) (hb : Only bs w w') (hn : ∀ ad, A = some ad → 0 < n → ad.block ∉ bs) : Bs w' A n l := ⟨h.rd.only hb hn, h.by_, h.le⟩
theorem Bs.lt (h : Bs w A n l) : ∀ ad, A = some ad → 0 < n → ad.block < w.heap.size := fun ad hA h0 => by
  obtain ⟨ad', hA', hlt, _⟩ := h.rd.at_ h0
  rw [hA] at hA'; cases hA'; exact hlt
theorem Bs.drew (h : Bs w A n l) : Bs w.drew A n l := ⟨h.rd.drew, h.by_, h.le⟩
theorem Bs.drewN (h : Bs w A n l) (k : Nat) : Bs (w.drewN k) A n l := ⟨h.rd.drewN k, h.by_, h.le⟩
theorem Bs.alloc (h : Bs w A n l) (o : Obj) : Bs (w.alloc o) A n l := ⟨h.rd.alloc o, h.by_, h.le⟩
end
end Go.Proofs.YtkbgedaogfcdnaaDoor
