/- A row's arguments: slices of whole numbers opened. A slice of whole numbers (int) that came in or was made. -/
import Derived.WalkKit
import Derived.ProofKit
import Derived.SizedLaws
import Derived.Test.YtkbgedaogfcdnaaDoorMem
import Derived.Test.YtkbgedaogfcdnaaDoorApp
import Derived.Test.YtkbgedaogfcdnaaDoorProg
namespace Go.Proofs.YtkbgedaogfcdnaaDoor
open Go.ChangeShapes Go.WideShapes Go.ChangeAt Go.RowKit
variable {H : Type} {enc : TypeId × Value → H} {P : Program} {W : World} {base : Nat} {spare : Nat → Bool} {held : Bool}

/-- A slice of whole numbers that came in. -/
structure Came (k : IntKind) (w : World) (a : Option Addr) (len cap : Nat) (l : List Int) : Prop where
  rd : Rd w 1 a len (ints k l)
  wf : ∀ x ∈ l, (Lit.int k x).wf = true
  le : len ≤ cap
  cap : cap ≤ maxLen

theorem is_row {t e : TypeId} {k : IntKind} {a : Option Addr} {len cap : Nat} {d : DataW H} {ps : List MemPlace} (hu : P.underlying t = some (.slice e)) (he : P.underlying e = some (.int k)) (hc : P.cellsOf e = 1)
    (h : DataW.Trod enc P W base spare held t (.slice a len cap) d ps) : ∃ l, Came k W a len cap l := by
  obtain ⟨fuel, hf⟩ := h
  rcases open_ints hu he hc hf with ⟨hcs, _⟩ | ⟨x, l, c, zs, hcs, _, hl, hm, hz, _, hcell, hwz⟩
  · simp [Value.cells] at hcs
    obtain ⟨rfl, rfl, rfl⟩ := hcs
    exact ⟨[], Rd.nil _ _ _, by simp, Nat.le_refl _, by simp [maxLen]⟩
  · simp [Value.cells] at hcs
    obtain ⟨rfl, rfl, rfl⟩ := hcs
    have hlz : len ≤ zs.length := by rw [hz]; split <;> omega
    refine ⟨zs.take len, ⟨by rw [ints_len, List.length_take]; omega, fun hn => ⟨x, rfl, ?_, fun j u hu => ?_⟩⟩, fun y hy => hwz y (List.mem_of_mem_take hy), hl, hm⟩
    · have h0 := hcell 0 (by omega)
      have := World.block_lt_of_cell? W (x.add 0) h0
      rwa [addr_block] at this
    · have hj : j < len := by
        rcases Nat.lt_or_ge j len with h | h
        · exact h
        · rw [List.getElem?_eq_none (by rw [ints_len, List.length_take]; omega)] at hu; cases hu
      rw [ints_get k (zs.take len) (by rw [List.length_take]; omega)] at hu
      injection hu with hu
      rw [← hu, hcell j (by omega)]
      simp [show j < zs.length by omega]

theorem sized_row {t e : TypeId} {k : IntKind} {a : Option Addr} {len cap : Nat} {d : DataW H} {ps : List MemPlace} {ts : List TypeId} {ds : List (DataW H)} {j : Nat}
    (hsz : (DataW.weightsEach P ts ds).all (· ≤ reachBytes) = true) (ht : ts[j]? = some t) (hd : ds[j]? = some d) (hu : P.underlying t = some (.slice e)) (he : P.underlying e = some (.int k)) (hc : P.cellsOf e = 1) {B : Nat} (hB : P.bytesOf e = B)
    (h : DataW.Trod enc P W base spare held t (.slice a len cap) d ps) : len * B ≤ 140737488351232 := by
  obtain ⟨fuel, hf⟩ := h
  rcases open_ints hu he hc hf with ⟨hcs, _⟩ | ⟨x, l, c, zs, hcs, _, hl, _, hz, hx, _, _⟩
  · simp [Value.cells] at hcs
    obtain ⟨rfl, rfl, rfl⟩ := hcs
    simp
  · simp [Value.cells] at hcs
    obtain ⟨rfl, rfl, rfl⟩ := hcs
    obtain ⟨hx, _⟩ := Prod.mk.inj hx
    subst hx
    have z := sized_slice hsz ht hd hu
    rw [hB] at z
    have hl2 : len ≤ zs.length := by rw [hz]; split <;> omega
    have h1 : (lits (H := H) k (zs.take len)).length + (lits (H := H) k (zs.drop len)).length = zs.length := by simp [lits]; omega
    rw [h1] at z
    exact Nat.le_trans (Nat.mul_le_mul_right _ hl2) z

theorem wf_u8 {x : Int} (h : (Lit.int .u8 x).wf = true) : 0 ≤ x ∧ x ≤ 255 := by
  simp [Lit.wf, IntKind.min, IntKind.max, IntKind.signed, IntKind.bits] at h
  omega
theorem wf_i64 {x : Int} (h : (Lit.int .i64 x).wf = true) : -9223372036854775808 ≤ x ∧ x ≤ 9223372036854775807 := by
  simp [Lit.wf, IntKind.min, IntKind.max, IntKind.signed, IntKind.bits] at h
  omega
theorem came_bytes {a : Option Addr} {len cap : Nat} {l : List Int} (h : Came .u8 W a len cap l) (hy : len * 1 ≤ 140737488351232) : Bs W a len l :=
  ⟨h.rd, fun x hx => wf_u8 (h.wf x hx), by omega⟩
end Go.Proofs.YtkbgedaogfcdnaaDoor
namespace Go.Proofs.YtkbgedaogfcdnaaDoor
set_option linter.unusedSimpArgs false
set_option linter.unusedVariables false
open Go.RowKit

structure Is (w : World) (A : Option Addr) (n : Nat) (l : List Int) : Prop where
  rd : Rd w 1 A n (ints .i64 l)
  wf : ∀ x ∈ l, -9223372036854775808 ≤ x ∧ x ≤ 9223372036854775807
  le : n ≤ 17592186044416
section
variable {w w' : World} {n : Nat} {A : Option Addr} {l : List Int}
theorem Is.len (h : Is w A n l) : l.length = n := by have := h.rd.len; rw [ints_len] at this; omega
theorem Is.get {k : Nat} (h : Is w A n l) (hk : k < n) : ∃ ad, A = some ad ∧ w.cell? (ad.add k) = some (.int .i64 (ix l k)) ∧ -9223372036854775808 ≤ ix l k ∧ ix l k ≤ 9223372036854775807 := by
  obtain ⟨ad, e, hc, _⟩ := h.rd.get hk
  have hl : k < l.length := by have := h.len; omega
  have hg := ix_get hl
  refine ⟨ad, e, by rw [hc, ints_get .i64 l hl, hg], ?_⟩
  rw [hg]; exact h.wf _ (List.getElem_mem _)
theorem Is.below (h : Is w A n l) (hb : Below w.heap.size w w') : Is w' A n l := ⟨h.rd.below hb, h.wf, h.le⟩
end
theorem came_ints {W : World} {a : Option Addr} {len cap : Nat} {l : List Int} (h : Came .i64 W a len cap l) (hy : len * 8 ≤ 140737488351232) : Is W a len l :=
  ⟨h.rd, fun x hx => wf_i64 (h.wf x hx), by omega⟩
theorem i64i : (Tryd.prog.info? 3).map (fun i => (i.zero, i.size, i.bytes)) = some (some (.int .i64 0), 1, 8) := by kernel_rfl

theorem mask_bd (m : Nat) (hm : m < 62) (x : Int) : 0 ≤ Go.bits .and .i64 x ((2 ^ m - 1 : Nat) : Int) ∧ Go.bits .and .i64 x ((2 ^ m - 1 : Nat) : Int) < ((2 ^ m : Nat) : Int) := by
  have hp : (2 : Nat) ^ m < 2 ^ 62 := Nat.pow_lt_pow_right (by decide) hm
  have h62 : (2 : Nat) ^ 62 = 4611686018427387904 := by decide
  have hpos : 0 < 2 ^ m := Nat.two_pow_pos m
  have h : (BitVec.ofInt IntKind.i64.bits x &&& BitVec.ofInt IntKind.i64.bits ((2 ^ m - 1 : Nat) : Int)).toNat ≤ 2 ^ m - 1 := by
    have h255 : (BitVec.ofInt IntKind.i64.bits ((2 ^ m - 1 : Nat) : Int)).toNat = 2 ^ m - 1 := by
      rw [BitVec.ofInt_natCast, BitVec.toNat_ofNat]
      exact Nat.mod_eq_of_lt (by show 2 ^ m - 1 < 2 ^ 64; omega)
    rw [BitVec.toNat_and, h255]; exact Nat.and_le_right
  have e : Go.bits .and .i64 x ((2 ^ m - 1 : Nat) : Int) = IntKind.i64.wrap ((BitVec.ofInt IntKind.i64.bits x &&& BitVec.ofInt IntKind.i64.bits ((2 ^ m - 1 : Nat) : Int)).toNat : Int) := rfl
  generalize (BitVec.ofInt IntKind.i64.bits x &&& BitVec.ofInt IntKind.i64.bits ((2 ^ m - 1 : Nat) : Int)).toNat = k at h e
  rw [e, IntKind.wrap_i64]
  omega
theorem maskN (m : Nat) (hm : m < 62) (x M : Int) (hM : M = ((2 ^ m - 1 : Nat) : Int)) : ∃ p : Nat, Go.bits .and .i64 x M = (p : Int) ∧ p < 2 ^ m := by
  subst hM
  obtain ⟨h1, h2⟩ := mask_bd m hm x
  exact ⟨(Go.bits .and .i64 x ((2 ^ m - 1 : Nat) : Int)).toNat, (Int.toNat_of_nonneg h1).symm, by omega⟩
theorem mask32 (x : Int) : 0 ≤ Go.bits .and .i64 x 4294967295 ∧ Go.bits .and .i64 x 4294967295 < 4294967296 := mask_bd 32 (by decide) x
theorem mask16 (x : Int) : 0 ≤ Go.bits .and .i64 x 65535 ∧ Go.bits .and .i64 x 65535 < 65536 := mask_bd 16 (by decide) x

theorem own_apart {w : World} {b1 b2 e1 e2 s1 s2 n1 n2 c1 c2 : Nat} {A B : Option Addr} {xs ys : List Value} (h : Own w b1 e1 s1 A n1 c1 xs) (k : Own w b2 e2 s2 B n2 c2 ys) (he : e1 ≠ e2) : ob A = none ∨ ob A ≠ ob B := by
  rcases h.row.2 with ⟨hv, _⟩ | ⟨g, cap, cur, hv, _, hh, _⟩
  · left; have : A = none := by injection hv
    rw [this]; rfl
  · right
    have hA : A = some ⟨g, 0, none⟩ := by injection hv
    rcases k.row.2 with ⟨hv', _⟩ | ⟨g', cap', cur', hv', _, hh', _⟩
    · have : B = none := by injection hv'
      rw [this, hA]; simp [ob]
    · have hB : B = some ⟨g', 0, none⟩ := by injection hv'
      rw [hA, hB]
      simp only [ob]
      intro hg
      injection hg with hg
      subst hg
      rw [hh] at hh'
      injection hh' with hh'
      injection hh' with _ hh'
      exact he hh'
end Go.Proofs.YtkbgedaogfcdnaaDoor
