/- Proved: the tied card of NamesNumbers. -/
import Derived.Test.YtdegfbhnilbcfaaDoorRowNames
import Derived.Test.YtdegfbhnilbcfaaDoorTie
import Derived.Test.YtdegfbhnilbcfaaDoorCards
import Derived.SevenTiedAt
namespace Go.Proofs.YtdegfbhnilbcfaaDoor
open Go
theorem namesNumbers_holds : Rows.NamesNumbersCardSaid :=
  Claim7.holds_tied_plain_at .later [] [.data, .data, .data] true (true, "d5f900a3a69cd3f79d04957e53e503877fc22697272bbacbc610b319c396240d") false
    names.over (fun _ h => by cases h) (by kernel_rfl) (fun _ h => by cases h) namesNumbers_row_tie rfl ⟨rfl, rfl⟩ (by kernel_rfl) rfl
    (fun f fn hf hfn => by
      obtain rfl : f = 3 := Option.some.inj ((show Tryd.prog.funcNamed "fettle/fettlelaw0.NamesNumbers" = some 3 by kernel_rfl).symm.trans hf) |>.symm
      obtain rfl : fn = Tryd.f3 := (Option.some.inj (Tryd.func3.symm.trans hfn)).symm
      exact ⟨by kernel_rfl, fun j t ht => by
        rw [Tryd.params3] at ht
        simp at ht⟩)
    (by kernel_rfl)
#print axioms namesNumbers_holds
end Go.Proofs.YtdegfbhnilbcfaaDoor
