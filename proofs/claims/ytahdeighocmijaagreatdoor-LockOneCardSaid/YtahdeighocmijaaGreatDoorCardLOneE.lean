/- Proved: the tied card of LockOne. -/
import Derived.Test.YtahdeighocmijaaGreatDoorRowLOneE
import Derived.Test.YtahdeighocmijaaGreatDoorTie
import Derived.Test.YtahdeighocmijaaGreatDoorCards
import Derived.SevenTiedAt
namespace Go.Proofs.YtahdeighocmijaaGreatDoor
set_option linter.unusedSimpArgs false
open Go
theorem lockOne_holds : Rows.LockOneCardSaid :=
  Claim7.holds_tied_plain_at .later [] [.data, .data, .data] true (true, "f789f19792eed9d302480a79341284783ccacc886a25ed389e87fe19c7559849") false
    lockOne.over (fun _ h => by cases h) (by kernel_rfl) (fun _ h => by cases h) lockOne_row_tie rfl ⟨rfl, rfl⟩ (by kernel_rfl) rfl
    (fun f fn hf hfn => by
      obtain rfl : f = 5 := Option.some.inj ((show Tryz.prog.funcNamed "fettle/fettlelaw13.LockOne" = some 5 by kernel_rfl).symm.trans hf) |>.symm
      obtain rfl : fn = Tryz.f5 := (Option.some.inj (Tryz.func5.symm.trans hfn)).symm
      exact ⟨by kernel_rfl, fun j t ht => by
        rw [Tryz.params5] at ht
        have ht2 := Array.mem_of_getElem? ht
        simp only [List.mem_toArray, List.mem_cons, List.not_mem_nil, or_false, or_self] at ht2
        subst ht2
        exact (show Tryz.prog.wantsStandIn 22 = false by kernel_rfl)⟩)
    (by kernel_rfl)
#print axioms lockOne_holds
end Go.Proofs.YtahdeighocmijaaGreatDoor
