/- Numbers in six bytes: plain mathematics. The walks of package code: numbers and bytes written. -/
import Derived.Test.YtkbgedaogfcdnaaDoorCrcMath
import Derived.Laws.BitsLemmas
import Derived.Test.YtkbgedaogfcdnaaDoorProg
import Derived.Test.YtkbgedaogfcdnaaDoorApp
namespace Go.Proofs.YtkbgedaogfcdnaaDoor.Cod
open Go
open Crc (Bytes)

def far : Int := 1099511627776
def held (n : Int) : Int := min (max n 0) far
/-- the k-th of the six bytes, the highest being number 5 -/
def dig (n : Int) (k : Nat) : Int := held n / 2 ^ (8 * k) % 256
def six (n : Int) : List Int := [dig n 5, dig n 4, dig n 3, dig n 2, dig n 1, dig n 0]
def sixTo (n : Int) (k : Nat) : List Int := (six n).take k
/-- six bytes as a number -/
def numOf (l : List Int) : Int := (l.take 6).foldl (fun n x => n * 256 + x) 0
def numTo (l : List Int) (k : Nat) : Int := (l.take k).foldl (fun n x => n * 256 + x) 0

theorem held_bd (n : Int) : 0 ≤ held n ∧ held n ≤ 1099511627776 := by unfold held far; omega
theorem dig_byte (n : Int) (k : Nat) : 0 ≤ dig n k ∧ dig n k ≤ 255 := by unfold dig; omega
theorem six_len (n : Int) : (six n).length = 6 := rfl
theorem six_bytes (n : Int) : Bytes (six n) := by
  intro x hx
  simp only [six, List.mem_cons, List.not_mem_nil, or_false] at hx
  rcases hx with rfl | rfl | rfl | rfl | rfl | rfl <;> exact dig_byte n _
theorem numOf_six (n : Int) (l : List Int) : numOf (six n ++ l) = held n := by
  have h := held_bd n
  have e : (six n ++ l).take 6 = six n := by rw [List.take_append_of_le_length (by simp [six]), List.take_of_length_le (by simp [six])]
  unfold numOf
  rw [e]
  simp only [six, List.foldl_cons, List.foldl_nil, dig]
  generalize held n = m at *
  simp only [show (2 : Int) ^ (8 * 5) = 1099511627776 from rfl, show (2 : Int) ^ (8 * 4) = 4294967296 from rfl, show (2 : Int) ^ (8 * 3) = 16777216 from rfl, show (2 : Int) ^ (8 * 2) = 65536 from rfl, show (2 : Int) ^ (8 * 1) = 256 from rfl, show (2 : Int) ^ (8 * 0) = 1 from rfl]
  omega
theorem numTo_bd {l : List Int} (hb : Bytes l) : ∀ k, k ≤ l.length → 0 ≤ numTo l k ∧ numTo l k < 256 ^ k := by
  intro k
  induction k with
  | zero => intro _; simp [numTo]
  | succ k ih =>
    intro hk
    obtain ⟨h0, h1⟩ := ih (by omega)
    have e : numTo l (k + 1) = numTo l k * 256 + l[k] := by
      unfold numTo
      rw [List.take_succ_eq_append_getElem (show k < l.length by omega), List.foldl_append]
      rfl
    have hx := hb (l[k]'(by omega)) (List.getElem_mem _)
    rw [e, Int.pow_succ]
    generalize (256 : Int) ^ k = P at *
    omega
theorem numTo_succ {l : List Int} {k : Nat} (hk : k < l.length) : numTo l (k + 1) = numTo l k * 256 + l[k] := by
  unfold numTo
  rw [List.take_succ_eq_append_getElem hk, List.foldl_append]
  rfl
theorem or_low (x y : Int) (hx : 0 ≤ x) (hx1 : x < 1099511627776) (hy : 0 ≤ y ∧ y ≤ 255) : Go.bits .or .i64 (x * 256) y = x * 256 + y :=
  bits_join .i64 62 (by decide) (fun n h0 h1 => by rw [IntKind.wrap_i64]; omega) 8 (x * 256) y (by omega) (by omega) (by omega) hy.1 (by omega) (by omega)
theorem six_take (n : Int) (j : Nat) (hj : j < 6) : (six n).take (6 - (j + 1)) ++ [dig n j] = (six n).take (6 - j) := by
  have h : j = 0 ∨ j = 1 ∨ j = 2 ∨ j = 3 ∨ j = 4 ∨ j = 5 := by omega
  rcases h with rfl | rfl | rfl | rfl | rfl | rfl <;> rfl
end Go.Proofs.YtkbgedaogfcdnaaDoor.Cod
namespace Go.Proofs.YtkbgedaogfcdnaaDoor
set_option linter.unusedSimpArgs false
set_option linter.unusedVariables false
open Go.RowKit
open Crc (Bytes)

theorem u8i : (Tryd.prog.info? 5).map (fun i => (i.zero, i.size, i.bytes)) = some (some (.int .u8 0), 1, 1) := by kernel_rfl

/-- The call gives back a row of bytes of its own. -/
structure Gives (w : World) (l : List Int) (e : Ending) (w' : World) : Prop where
  out : ∃ A n c, e = .returned (.slice A n c) ∧ Hid (l.length = n) ∧ Own w' w.heap.size 5 1 A n c (ints .u8 l) ∧ (A = none → l = []) ∧ Below w.heap.size w w'

theorem own_none {w : World} {base n c : Nat} {l : List Int} (h : Own w base 5 1 none n c (ints .u8 l)) : l = [] := by
  rcases Nat.eq_zero_or_pos n with h0 | h0
  · have := h.row.1
    rw [ints_len, h0, Nat.zero_mul] at this
    exact List.eq_nil_of_length_eq_zero this
  · obtain ⟨g, hg, _⟩ := h.some h0
    cases hg

open Cod (six held dig far)
structure NumRel (w : World) (l : List Int) (x : Int) (j : Nat) (C : Option Addr) (cc : Nat) (wr : World) : Prop where
  room : Room wr w.heap.size 5 1 C (l.length + (6 - j)) cc (ints .u8 (l ++ (six x).take (6 - j)))
  own : j < 6 → Own wr w.heap.size 5 1 C (l.length + (6 - j)) cc (ints .u8 (l ++ (six x).take (6 - j)))
  none_ : C = none → j = 6 ∧ l = []
  bel : Below w.heap.size w wr
theorem room_alloc {w : World} {base : Nat} {e : TypeId} {size n c : Nat} {A : Option Addr} {xs : List Value} (h : Room w base e size A n c xs) (o : Obj) : Room (w.alloc o) base e size A n c xs := by
  cases h with
  | own h => exact .own (h.alloc o)
  | full h hc h0 => exact .full (h.alloc o) hc h0
/-- What the call gives, read. -/
theorem own_bs {w : World} {base n c : Nat} {l : List Int} {A : Option Addr} (h : Own w base 5 1 A n c (ints .u8 l)) (hb : Bytes l) (hl : n ≤ 140737488355328) : Bs w A n l := ⟨h.rd, hb, hl⟩
theorem bytes_app {l m : List Int} (hl : Bytes l) (hm : Bytes m) : Bytes (l ++ m) := fun x hx => by
  rcases List.mem_append.1 hx with h | h
  · exact hl x h
  · exact hm x h

end Go.Proofs.YtkbgedaogfcdnaaDoor
