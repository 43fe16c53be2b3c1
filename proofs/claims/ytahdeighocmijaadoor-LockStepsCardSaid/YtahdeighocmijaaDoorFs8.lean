/- The files: Append. -/
import Derived.Test.YtahdeighocmijaaDoorFsIn
import Derived.Test.YtahdeighocmijaaDoorConcat
namespace Go.Proofs.YtahdeighocmijaaDoor
set_option linter.unusedSimpArgs false
set_option linter.unusedVariables false
open Go.RowKit
open Crc (Bytes)

theorem addr_zero (A : Option Addr) : A.map (·.add 0) = A := by
  cases A with
  | none => rfl
  | some a => obtain ⟨b, o, p⟩ := a; unfold Addr.add; cases p <;> rfl
theorem slice_upto {P : Program} {t e : TypeId} {size : Nat} (ht : P.underlying t = some (.slice e)) (hs : (P.info? e).map (·.size) = some size) {A : Option Addr} {n c k : Nat} {kk : IntKind} (hk : k ≤ n) (hc : n ≤ c) (w : World) :
    (Instr.slice t (.slice A n c) none (some (.int kk (k : Int))) none).run P w = .ok (.slice A k c) w := by
  obtain ⟨i, hi, hsi⟩ := Option.map_eq_some_iff.1 hs
  have h1 : (0 : Int) ≤ (k : Int) := by omega
  have h2 : (k : Int) ≤ (c : Int) := by omega
  have e1 := addr_zero A
  simp [Instr.slice, run_underlying ht, Instr.sliceBounds, Instr.sliceBound, asIntOf, sizeOf, typeInfo, hi, hsi, h1, h2]
  rw [e1, if_pos (by omega)]
  simp
theorem rws_two {w : World} {t : TypeId} {B A : Option Addr} {m d n c g : Nat} {lb la : List Int} (hg : g = w.heap.size) (hb : Bs w B m lb) (ha : Bs w A n la) :
    Rws (w.alloc (.cells #[.slice B m d, .slice A n c] t)) g 2 [(B, m, d, lb), (A, n, c, la)] := by
  subst hg
  refine ⟨rfl, fun j hj => ?_, fun j hj => ?_, by omega⟩
  · rw [cell_alloc]
    have : j < 2 := hj
    rcases (show j = 0 ∨ j = 1 by omega) with rfl | rfl <;> rfl
  · have : j < 2 := hj
    rcases (show j = 0 ∨ j = 1 by omega) with rfl | rfl
    · exact hb.alloc _
    · exact ha.alloc _
theorem allOf_two (B A : Option Addr) (m d n c : Nat) (lb la : List Int) : allOf [(B, m, d, lb), (A, n, c, la)] = lb ++ la := by simp [allOf]
theorem Fs.ok.mid {S : Fs} {U : Int} (h : S.ok U) (k : Nat) : (S.mid k).2.ok U := by
  rcases S.mid_fs k with e | e <;> rw [e]
  · exact h
  · exact ⟨h.u0, h.u1, h.r0, h.r1, h.l0, h.l1, h.U1, h.by1⟩
end Go.Proofs.YtahdeighocmijaaDoor
