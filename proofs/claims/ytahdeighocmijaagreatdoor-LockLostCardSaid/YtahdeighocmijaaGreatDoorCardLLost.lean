/- Proved: the tied card of LockLost. -/
import Derived.Test.YtahdeighocmijaaGreatDoorRowLLost
import Derived.Test.YtahdeighocmijaaGreatDoorTie
import Derived.Test.YtahdeighocmijaaGreatDoorCards
import Derived.SevenTiedAt
namespace Go.Proofs.YtahdeighocmijaaGreatDoor
open Go
theorem lockLost_holds : Rows.LockLostCardSaid :=
  Claim7.holds_tied_plain_at .later [] [.data, .data, .data] true (true, "f789f19792eed9d302480a79341284783ccacc886a25ed389e87fe19c7559849") false
    lockLost.over (fun _ h => by cases h) (by kernel_rfl) (fun _ h => by cases h) lockLost_row_tie rfl ⟨rfl, rfl⟩ (by kernel_rfl) rfl
    (fun f fn hf hfn => by
      obtain rfl : f = 4 := Option.some.inj ((show Tryz.prog.funcNamed "fettle/fettlelaw13.LockLost" = some 4 by kernel_rfl).symm.trans hf) |>.symm
      obtain rfl : fn = Tryz.f4 := (Option.some.inj (Tryz.func4.symm.trans hfn)).symm
      exact ⟨by kernel_rfl, fun j t ht => by
        rw [Tryz.params4] at ht
        have ht2 := Array.mem_of_getElem? ht
        simp only [List.mem_toArray, List.mem_cons, List.not_mem_nil, or_false, or_self] at ht2
        rcases ht2 with rfl | rfl | rfl | rfl
        · exact (show Tryz.prog.wantsStandIn 3 = false by kernel_rfl)
        · exact (show Tryz.prog.wantsStandIn 3 = false by kernel_rfl)
        · exact (show Tryz.prog.wantsStandIn 4 = false by kernel_rfl)
        · exact (show Tryz.prog.wantsStandIn 3 = false by kernel_rfl)⟩)
    (by kernel_rfl)
#print axioms lockLost_holds
end Go.Proofs.YtahdeighocmijaaGreatDoor
