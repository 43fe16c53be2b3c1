/- SimfPlays: the walk, as the row wants it. -/
import Derived.Test.YtkbgedaogfcdnaaPlayW
import Derived.Test.YtkbgedaogfcdnaaPlayX
namespace Go.Proofs.Ytkbgedaogfcdnaa
open Go.RowKit
theorem simfplays_row {A RA : Option Addr} {n c rn rc : Nat} {l : List Int} {x : Int} {w : World} (_ : (Lit.int .i64 x).wf = true) (hb : Came .i64 w A n c l) (yb : n * 8 ≤ 140737488351232) (hr : RowsIn w RA rn) (W : World) (hW : W = w) :
    Calls Try.prog 3 #[.int .i64 x, .slice A n c, .slice RA rn rc] W fun e w' => e = .returned (.bool true) ∧ Below W.heap.size W w' := by
  subst hW
  exact simfplays_any x A n c l RA rn rc W (came_ints hb yb) hr
end Go.Proofs.Ytkbgedaogfcdnaa
