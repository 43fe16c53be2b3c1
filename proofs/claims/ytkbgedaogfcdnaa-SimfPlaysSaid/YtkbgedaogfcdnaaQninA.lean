/- The document's files (fettleref9): what a heap says of them. -/
import Derived.Test.YtkbgedaogfcdnaaQninP
import Derived.Test.YtkbgedaogfcdnaaOwn9
namespace Go.Proofs.Ytkbgedaogfcdnaa
set_option linter.unusedSimpArgs false
set_option linter.unusedVariables false
open Go.RowKit
open Crc (Bytes)

def Qe.cells (x : Qe) : List Value := [.string x.nm, .slice x.A x.n x.c, .int .i64 x.st]
structure Qe.ok (W : World) (x : Qe) : Prop where
  bs : Bs W x.A x.n x.b
  u8 : U8 W x.A x.n
  cap : x.n ≤ x.c
theorem Qe.ok.keep {W W' : World} {x : Qe} (h : x.ok W) (hs : W.heap.size ≤ W'.heap.size) (hk : ∀ ad, x.A = some ad → 0 < x.n → W'.heap[ad.block]? = W.heap[ad.block]?) : x.ok W' :=
  ⟨⟨h.bs.rd.keep hs hk, h.bs.by_, h.bs.le⟩, h.u8.keep hk, h.cap⟩
theorem Qe.ok.below {W W' : World} {x : Qe} (h : x.ok W) (hb : Below W.heap.size W W') : x.ok W' := ⟨h.bs.below hb, h.u8.below hb, h.cap⟩
theorem Qe.ok.grown {W W' : World} {x : Qe} {row : Option Nat} (h : x.ok W) (hg : W.grownBy W' row) (hr : ∀ k, row = some k → ∃ t cs fr, W.heap[k]? = some (Obj.cells cs t fr) ∧ t ≠ 5) : x.ok W' :=
  h.keep hg.size (h.u8.grown hg hr)
def qfl (xs : List Qe) : List Value := (xs.map Qe.cells).flatten
theorem qfl_app (xs ys : List Qe) : qfl (xs ++ ys) = qfl xs ++ qfl ys := by simp [qfl]
theorem qfl_one (x : Qe) : qfl [x] = x.cells := by simp [qfl]
theorem qfl_len (xs : List Qe) : (qfl xs).length = xs.length * 3 := by
  induction xs with
  | nil => rfl
  | cons x xs ih => unfold qfl at *; simp only [List.map_cons, List.flatten_cons, List.length_append, ih, List.length_cons]; simp [Qe.cells]; omega
theorem qfl_take (xs : List Qe) (i : Nat) : qfl (xs.take i) = (qfl xs).take (i * 3) := by
  induction xs generalizing i with
  | nil => simp [qfl]
  | cons x xs ih =>
    cases i with
    | zero => simp [qfl]
    | succ i =>
      have e : qfl (x :: xs) = x.cells ++ qfl xs := rfl
      have hl : x.cells.length = 3 := rfl
      rw [List.take_succ_cons, show qfl (x :: xs.take i) = x.cells ++ qfl (xs.take i) from rfl, e, List.take_append, hl, show (i + 1) * 3 - 3 = i * 3 by omega, ih, List.take_of_length_le (l := x.cells) (by omega)]
theorem qfl_drop (xs : List Qe) (i : Nat) : qfl (xs.drop i) = (qfl xs).drop (i * 3) := by
  induction xs generalizing i with
  | nil => simp [qfl]
  | cons x xs ih =>
    cases i with
    | zero => simp [qfl]
    | succ i =>
      have e : qfl (x :: xs) = x.cells ++ qfl xs := rfl
      have hl : x.cells.length = 3 := rfl
      rw [List.drop_succ_cons, e, List.drop_append, hl, show (i + 1) * 3 - 3 = i * 3 by omega, ih, List.drop_of_length_le (l := x.cells) (by omega), List.nil_append]
theorem qfl_get (xs : List Qe) (j : Nat) (h : j < xs.length) : (qfl xs)[j * 3]? = some (.string xs[j].nm) ∧ (qfl xs)[j * 3 + 1]? = some (.slice xs[j].A xs[j].n xs[j].c) ∧ (qfl xs)[j * 3 + 2]? = some (.int .i64 xs[j].st) := by
  induction xs generalizing j with
  | nil => simp at h
  | cons x xs ih =>
    have e : qfl (x :: xs) = x.cells ++ qfl xs := rfl
    have hl : x.cells.length = 3 := rfl
    cases j with
    | zero => rw [e]; exact ⟨rfl, rfl, rfl⟩
    | succ j =>
      obtain ⟨h1, h2, h3⟩ := ih j (by simpa using h)
      rw [e]
      refine ⟨?_, ?_, ?_⟩
      · rw [List.getElem?_append_right (by omega), hl, show (j + 1) * 3 - 3 = j * 3 by omega]; exact h1
      · rw [List.getElem?_append_right (by omega), hl, show (j + 1) * 3 + 1 - 3 = j * 3 + 1 by omega]; exact h2
      · rw [List.getElem?_append_right (by omega), hl, show (j + 1) * 3 + 2 - 3 = j * 3 + 2 by omega]; exact h3
theorem qeInfo : (Try.prog.info? 58).map (fun i => (i.zero, i.size, i.bytes)) = some (some (.agg #[.string ⟨#[]⟩, .slice none 0 0, .int .i64 0]), 3, 48) := by kernel_rfl
/-- The names that are names. -/
def okN : List ByteArray := [⟨#[97]⟩, ⟨#[98]⟩, ⟨#[99]⟩, ⟨#[116, 114, 97, 99, 101]⟩, ⟨#[116, 109, 112, 47, 49, 46, 49, 46, 49]⟩, ⟨#[116, 109, 112, 47, 50, 46, 49, 46, 49]⟩, ⟨#[108, 111, 99, 107, 47, 108, 111, 103]⟩, ⟨#[99, 108, 97, 105, 109, 47, 97]⟩, ⟨#[99, 108, 97, 105, 109, 47, 98]⟩]
/-- A row of files. -/
structure QRow (W : World) (base : Nat) (A : Option Addr) (n c : Nat) (xs : List Qe) : Prop where
  own : Own W base 58 3 A n c (qfl xs)
  ok : ∀ x ∈ xs, x.ok W
section
variable {W W' : World} {base n c : Nat} {A : Option Addr} {xs : List Qe}
theorem QRow.len (h : QRow W base A n c xs) : xs.length = n := by
  have := h.own.rd.len
  rw [qfl_len] at this
  omega
theorem QRow.below (h : QRow W base A n c xs) (hb : Below W.heap.size W W') : QRow W' base A n c xs := ⟨h.own.below hb, fun x hx => (h.ok x hx).below hb⟩
theorem QRow.more (h : QRow W base A n c xs) {b2 : Nat} (hb : b2 ≤ base) : QRow W b2 A n c xs := ⟨h.own.more hb, h.ok⟩
theorem QRow.nil (W : World) (base : Nat) : QRow W base none 0 0 [] := ⟨Own.nil _ _ _ _, fun x h => by cases h⟩
theorem QRow.get (h : QRow W base A n c xs) {j : Nat} (hj : j < n) :
    ∃ g x, A = some ⟨g, 0, none⟩ ∧ g < W.heap.size ∧ xs[j]? = some x ∧ W.cell? ⟨g, j * 3, none⟩ = some (.string x.nm) ∧ W.cell? ⟨g, j * 3 + 1, none⟩ = some (.slice x.A x.n x.c) ∧ W.cell? ⟨g, j * 3 + 2, none⟩ = some (.int .i64 x.st) ∧ x.ok W := by
  have hl := h.len
  obtain ⟨g, rfl, hg1, hg2⟩ := h.own.some (by omega)
  obtain ⟨f1, f2, f3⟩ := qfl_get xs j (by omega)
  exact ⟨g, xs[j], rfl, hg2, List.getElem?_eq_getElem (by omega), (h.own.cellAt _ (by omega)).trans f1, (h.own.cellAt _ (by omega)).trans f2, (h.own.cellAt _ (by omega)).trans f3, h.ok _ (List.getElem_mem (by omega))⟩
end
/-- The document's files at a block. -/
structure QAt (W : World) (base qb : Nat) (S : Fs) (k : Nat) : Prop where
  ex : ∃ A n c xs, Blk W qb 56 [.slice A n c, .int .i64 S.room, .int .i64 S.last, .int .i64 (if S.cuts = true then S.cut else -1)] ∧ QRow W base A n c xs ∧ QS S xs ∧ n ≤ k ∧ ∀ x ∈ xs, x.nm ∈ okN
  hb : base ≤ qb
theorem QAt.below {W W' : World} {base qb k : Nat} {S : Fs} (h : QAt W base qb S k) (hb : Below W.heap.size W W') : QAt W' base qb S k := by
  obtain ⟨A, n, c, xs, h1, h2, h3, h4, h5⟩ := h.ex
  exact ⟨⟨A, n, c, xs, h1.below hb, h2.below hb, h3, h4, h5⟩, h.hb⟩
theorem QAt.alloc {W : World} {base qb k : Nat} {S : Fs} (h : QAt W base qb S k) {o : Obj} : QAt (W.alloc o) base qb S k := h.below ((Below.refl _ _).alloc (Nat.le_refl _) o)
theorem QAt.only {W W' : World} {base qb k : Nat} {S : Fs} {bs : List Nat} (h : QAt W base qb S k) (ho : Only bs W W') (hb : ∀ b ∈ bs, ∃ t cs fr, W.heap[b]? = some (Obj.cells cs t fr) ∧ t ≠ 5 ∧ t ≠ 58 ∧ t ≠ 56) : QAt W' base qb S k := by
  obtain ⟨A, n, c, xs, h1, h2, h3, h4, h5⟩ := h.ex
  have e0 : qb ∉ bs := fun hm => by
    obtain ⟨t, cs, fr, e, _, _, ht⟩ := hb qb hm
    rw [h1.at_] at e; injection e with e; injection e with _ e; exact ht e.symm
  refine ⟨⟨A, n, c, xs, h1.only ho e0, ⟨h2.own.keep fun g hg => ho.block g (h2.own.blk g hg).2 fun hm => ?_, fun x hx => (h2.ok x hx).keep ho.size fun ad hA h0 => ho.block ad.block ((h2.ok x hx).u8.lt ad hA h0) fun hm => ?_⟩, h3, h4, h5⟩, h.hb⟩
  · obtain ⟨t, cs, fr, e, _, ht, _⟩ := hb g hm
    obtain ⟨cs', fr', e2⟩ := own_at h2.own hg
    rw [e2] at e; injection e with e; injection e with _ e; exact ht e.symm
  · obtain ⟨t, cs, fr, e, ht, _, _⟩ := hb ad.block hm
    obtain ⟨cs', fr', e2⟩ := (h2.ok x hx).u8 ad hA h0
    rw [e2] at e; injection e with e; injection e with _ e; exact ht e.symm
end Go.Proofs.Ytkbgedaogfcdnaa
