/- Numbers in six bytes: plain mathematics. -/
import Derived.Test.YtahdeighocmijaaDoorCrcMath
import Derived.Laws.BitsLemmas
namespace Go.Proofs.YtahdeighocmijaaDoor.Cod
open Go
open Crc (Bytes)

def far : Int := 1099511627776
def held (n : Int) : Int := min (max n 0) far
/-- the k-th of the six bytes, the highest being number 5 -/
def dig (n : Int) (k : Nat) : Int := held n / 2 ^ (8 * k) % 256
def six (n : Int) : List Int := [dig n 5, dig n 4, dig n 3, dig n 2, dig n 1, dig n 0]
def sixTo (n : Int) (k : Nat) : List Int := (six n).take k
/-- six bytes as a number -/
def numOf (l : List Int) : Int := (l.take 6).foldl (fun n x => n * 256 + x) 0
def numTo (l : List Int) (k : Nat) : Int := (l.take k).foldl (fun n x => n * 256 + x) 0

theorem held_bd (n : Int) : 0 ≤ held n ∧ held n ≤ 1099511627776 := by unfold held far; omega
theorem dig_byte (n : Int) (k : Nat) : 0 ≤ dig n k ∧ dig n k ≤ 255 := by unfold dig; omega
theorem six_len (n : Int) : (six n).length = 6 := rfl
theorem six_bytes (n : Int) : Bytes (six n) := by
  intro x hx
  simp only [six, List.mem_cons, List.not_mem_nil, or_false] at hx
  rcases hx with rfl | rfl | rfl | rfl | rfl | rfl <;> exact dig_byte n _
theorem numOf_six (n : Int) (l : List Int) : numOf (six n ++ l) = held n := by
  have h := held_bd n
  have e : (six n ++ l).take 6 = six n := by rw [List.take_append_of_le_length (by simp [six]), List.take_of_length_le (by simp [six])]
  unfold numOf
  rw [e]
  simp only [six, List.foldl_cons, List.foldl_nil, dig]
  generalize held n = m at *
  simp only [show (2 : Int) ^ (8 * 5) = 1099511627776 from rfl, show (2 : Int) ^ (8 * 4) = 4294967296 from rfl, show (2 : Int) ^ (8 * 3) = 16777216 from rfl, show (2 : Int) ^ (8 * 2) = 65536 from rfl, show (2 : Int) ^ (8 * 1) = 256 from rfl, show (2 : Int) ^ (8 * 0) = 1 from rfl]
  omega
theorem numTo_bd {l : List Int} (hb : Bytes l) : ∀ k, k ≤ l.length → 0 ≤ numTo l k ∧ numTo l k < 256 ^ k := by
  intro k
  induction k with
  | zero => intro _; simp [numTo]
  | succ k ih =>
    intro hk
    obtain ⟨h0, h1⟩ := ih (by omega)
    have e : numTo l (k + 1) = numTo l k * 256 + l[k] := by
      unfold numTo
      rw [List.take_succ_eq_append_getElem (show k < l.length by omega), List.foldl_append]
      rfl
    have hx := hb (l[k]'(by omega)) (List.getElem_mem _)
    rw [e, Int.pow_succ]
    generalize (256 : Int) ^ k = P at *
    omega
theorem numTo_succ {l : List Int} {k : Nat} (hk : k < l.length) : numTo l (k + 1) = numTo l k * 256 + l[k] := by
  unfold numTo
  rw [List.take_succ_eq_append_getElem hk, List.foldl_append]
  rfl
theorem or_low (x y : Int) (hx : 0 ≤ x) (hx1 : x < 1099511627776) (hy : 0 ≤ y ∧ y ≤ 255) : Go.bits .or .i64 (x * 256) y = x * 256 + y :=
  bits_join .i64 62 (by decide) (fun n h0 h1 => by rw [IntKind.wrap_i64]; omega) 8 (x * 256) y (by omega) (by omega) (by omega) hy.1 (by omega) (by omega)
theorem six_take (n : Int) (j : Nat) (hj : j < 6) : (six n).take (6 - (j + 1)) ++ [dig n j] = (six n).take (6 - j) := by
  have h : j = 0 ∨ j = 1 ∨ j = 2 ∨ j = 3 ∨ j = 4 ∨ j = 5 := by omega
  rcases h with rfl | rfl | rfl | rfl | rfl | rfl <;> rfl
end Go.Proofs.YtahdeighocmijaaDoor.Cod
