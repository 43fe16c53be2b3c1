/- Rows that are the call's own: what lies where. -/
import Derived.Test.YtkbgedaogfcdnaaFsL
namespace Go.Proofs.Ytkbgedaogfcdnaa
set_option linter.unusedSimpArgs false
set_option linter.unusedVariables false
open Go.RowKit

theorem own_at {w : World} {base : Nat} {e : TypeId} {size n c : Nat} {A : Option Addr} {xs : List Value} (h : Own w base e size A n c xs) {k : Nat} (hk : ob A = some k) : ∃ cs fr, w.heap[k]? = some (Obj.cells cs e fr) := by
  rcases h.row.2 with ⟨hv, _⟩ | ⟨g', cap, cur, hv, _, hh, _⟩
  · have : A = none := by injection hv
    rw [this] at hk; cases hk
  · have hO : A = some ⟨g', 0, none⟩ := by injection hv
    rw [hO] at hk
    simp only [ob, Option.some.injEq] at hk
    subst hk
    exact ⟨_, _, hh⟩
theorem U8.grown {w w' : World} {A : Option Addr} {n : Nat} {row : Option Nat} (h : U8 w A n) (hg : w.grownBy w' row) (hr : ∀ k, row = some k → ∃ t cs fr, w.heap[k]? = some (Obj.cells cs t fr) ∧ t ≠ 5) : (∀ ad, A = some ad → 0 < n → w'.heap[ad.block]? = w.heap[ad.block]?) := fun ad hA h0 => by
  obtain ⟨cs, fr, e⟩ := h ad hA h0
  refine hg.block _ (Array.getElem?_eq_some_iff.1 e).1 fun h2 => ?_
  obtain ⟨t, cs', fr', e2, ht⟩ := hr _ h2.symm
  rw [e] at e2
  injection e2 with e2
  injection e2 with _ e3
  exact ht e3.symm
end Go.Proofs.Ytkbgedaogfcdnaa
