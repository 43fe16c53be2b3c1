/- The walk of NamesNumbers. -/
import Derived.Test.YtdegfbhnilbcfaaDoorSum
import Derived.Great.Walk
namespace Go.Proofs.YtdegfbhnilbcfaaDoor
set_option linter.unusedSimpArgs false
set_option linter.unusedVariables false
open Go.RowKit

def nums : List Int := [0,1,2,3,4,5,6,7,1,2,3,4,5,6,7,8,9,10,11,12,1,2,3,4,5,6,7,8,9,10,11,1,2,3,4,0,1,2,3,4,0,1,2,3,0,1,2,3,4,0,1,2,3,4,5,6,1,2,3,4,0,1,2,3,4,5,6,7,8,9,1,2,3,4,1,2,3,4,5,6,7,8]
def pairs (l : List Int) : List Value := l.flatMap fun x => [.int .i64 x, .int .i64 x]
theorem pairs_get (l : List Int) : ∀ k (h : k < l.length), (pairs l)[k * 2]? = some (.int .i64 l[k]) ∧ (pairs l)[k * 2 + 1]? = some (.int .i64 l[k]) := by
  induction l with
  | nil => intro k h; exact absurd h (Nat.not_lt_zero _)
  | cons x l ih =>
    intro k h
    cases k with
    | zero => exact ⟨rfl, rfl⟩
    | succ k =>
      have := ih k (by simpa using h)
      have e : (k + 1) * 2 = k * 2 + 2 := by omega
      rw [e]
      exact this
set_option maxRecDepth 100000 in
set_option maxHeartbeats 4000000 in
theorem all_any (w : World) : Calls Tryd.prog 4 #[] w fun e w' => e = .returned (.slice (some ⟨w.heap.size, 0, none⟩) 82 82) ∧ w' = w.alloc (.cells (pairs nums).toArray 25) := by
  go_enter Tryd.func4, Tryd.ntmps4
  go_wp2_with (refine Great.wpList_buildSliceTo rfl 22 25 82 _ rfl _ rfl _ rfl Tryd.underlying22 (pairs nums).toArray (by kernel_rfl) ?_)
  go_ret
  exact ⟨rfl, rfl⟩
set_option maxHeartbeats 4000000 in
theorem small7 (w : World) : Calls Tryd.prog 10 #[.int .i64 7] w fun e w' => e = .returned (.string ⟨#[55]⟩) ∧ w = w' := by
  go_enter Tryd.func10, Tryd.ntmps10
  go_wp2
  go_ret
  exact ⟨by kernel_rfl, rfl⟩
set_option maxHeartbeats 4000000 in
theorem format7 (w : World) : Calls Tryd.prog 9 #[.int .i64 7, .int .i64 10] w fun e w' => e = .returned (.string ⟨#[55]⟩) ∧ w = w' := by
  go_enter Tryd.func9, Tryd.ntmps9
  go_wp2_with (refine (small7 _).mono ?_; rintro e w' ⟨rfl, rfl⟩)
  go_ret
  exact ⟨rfl, rfl⟩
theorem itoa7b (w : World) : Calls Tryd.prog 8 #[.int .i64 7] w fun e w' => e = .returned (.string ⟨#[55]⟩) ∧ w = w' := by
  go_enter Tryd.func8, Tryd.ntmps8
  go_wp2_with (refine (format7 _).mono ?_; rintro e w' ⟨rfl, rfl⟩)
  go_ret
  exact ⟨rfl, rfl⟩
theorem itoa7 (w : World) : Calls Tryd.prog 7 #[.int .i64 7] w fun e w' => e = .returned (.string ⟨#[55]⟩) ∧ w = w' := by
  go_enter Tryd.func7, Tryd.ntmps7
  go_wp2_with (refine (itoa7b _).mono ?_; rintro e w' ⟨rfl, rfl⟩)
  go_ret
  exact ⟨rfl, rfl⟩
theorem error7 (w : World) : Calls Tryd.prog 5 #[.int .i64 7] w fun e w' => e = .returned (.string ⟨#[101, 114, 114, 111, 114, 32, 55]⟩) ∧ w = w' := by
  go_enter Tryd.func5, Tryd.ntmps5
  go_wp2_with (refine (itoa7 _).mono ?_; rintro e w' ⟨rfl, rfl⟩)
  go_ret
  exact ⟨rfl, rfl⟩
end Go.Proofs.YtdegfbhnilbcfaaDoor
