/- Proved: the tied card of LockSteps. -/
import Derived.Test.YtahdeighocmijaaDoorRowKSteps
import Derived.Test.YtahdeighocmijaaDoorTie
import Derived.Test.YtahdeighocmijaaDoorCards
import Derived.SevenTiedAt
namespace Go.Proofs.YtahdeighocmijaaDoor
open Go
theorem lockSteps_holds : Rows.LockStepsCardSaid :=
  Claim7.holds_tied_plain_at .later [] [.data, .data, .data] true (true, "5282b8e16ae0496d05d04cf04a1e8377f7e4d2619f0668449691d5b7d68f2601") false
    lockSteps.over (fun _ h => by cases h) (by kernel_rfl) (fun _ h => by cases h) lockSteps_row_tie rfl ⟨rfl, rfl⟩ (by kernel_rfl) rfl
    (fun f fn hf hfn => by
      obtain rfl : f = 6 := Option.some.inj ((show Tryd.prog.funcNamed "fettle/fettlelaw13.LockSteps" = some 6 by kernel_rfl).symm.trans hf) |>.symm
      obtain rfl : fn = Tryd.f6 := (Option.some.inj (Tryd.func6.symm.trans hfn)).symm
      exact ⟨by kernel_rfl, fun j t ht => by
        rw [Tryd.params6] at ht
        have ht2 := Array.mem_of_getElem? ht
        simp only [List.mem_toArray, List.mem_cons, List.not_mem_nil, or_false, or_self] at ht2
        rcases ht2 with rfl | rfl | rfl
        · exact (show Tryd.prog.wantsStandIn 3 = false by kernel_rfl)
        · exact (show Tryd.prog.wantsStandIn 4 = false by kernel_rfl)
        · exact (show Tryd.prog.wantsStandIn 3 = false by kernel_rfl)⟩)
    (by kernel_rfl)
#print axioms lockSteps_holds
end Go.Proofs.YtahdeighocmijaaDoor
