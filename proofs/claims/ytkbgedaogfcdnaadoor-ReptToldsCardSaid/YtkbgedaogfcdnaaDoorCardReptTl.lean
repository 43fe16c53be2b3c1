/- Proved: the tied card of ReptTolds. -/
import Derived.Test.YtkbgedaogfcdnaaDoorRowReptTl
import Derived.Test.YtkbgedaogfcdnaaDoorTie
import Derived.Test.YtkbgedaogfcdnaaDoorCards
import Derived.SevenTiedAt
namespace Go.Proofs.YtkbgedaogfcdnaaDoor
set_option linter.unusedSimpArgs false
open Go
theorem reptTolds_holds : Rows.ReptToldsCardSaid :=
  Claim7.holds_tied_plain_at .later [] [.data, .data, .data, .data, .sentinel, .sentinel, .pinned] true (true, "eba398eb1d3944bac42e2228db37e219a74c1be74a485eec1d49286ec94182fc") true
    reptTolds.over (fun _ h => by cases h) (by kernel_rfl) (fun _ h => by cases h) reptTolds_row_tie rfl ⟨rfl, rfl⟩ (by kernel_rfl) rfl
    (fun f fn hf hfn => by
      obtain rfl : f = 3 := Option.some.inj ((show Tryd.prog.funcNamed "fettle/fettlelaw27.ReptTolds" = some 3 by kernel_rfl).symm.trans hf) |>.symm
      obtain rfl : fn = Tryd.f3 := (Option.some.inj (Tryd.func3.symm.trans hfn)).symm
      exact ⟨by kernel_rfl, fun j t ht => by
        rw [Tryd.params3] at ht
        have ht2 := Array.mem_of_getElem? ht
        simp only [List.mem_toArray, List.mem_cons, List.not_mem_nil, or_false, or_self] at ht2
        rcases ht2 with rfl | rfl | rfl
        · exact (show Tryd.prog.wantsStandIn 3 = false by kernel_rfl)
        · exact (show Tryd.prog.wantsStandIn 3 = false by kernel_rfl)
        · exact (show Tryd.prog.wantsStandIn 4 = false by kernel_rfl)⟩)
    (by kernel_rfl)
#print axioms reptTolds_holds
end Go.Proofs.YtkbgedaogfcdnaaDoor
