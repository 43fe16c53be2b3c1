/- The walk of NamesNumbers. -/
import Derived.Test.YtdegfbhnilbcfaaDoorNumbers
namespace Go.Proofs.YtdegfbhnilbcfaaDoor
set_option linter.unusedSimpArgs false
set_option linter.unusedVariables false
open Go.RowKit

theorem num_cells {W : World} {g : Nat} (h : Blk W g 25 (pairs nums)) {k : Nat} (hk : k < 82) : ∃ v, W.cell? ⟨g, k * 2, none⟩ = some (.int .i64 v) ∧ W.cell? ⟨g, k * 2 + 1, none⟩ = some (.int .i64 v) := by
  obtain ⟨h1, h2⟩ := pairs_get nums k hk
  exact ⟨nums[k], (h.cell _).trans h1, (h.cell _).trans h2⟩
set_option maxRecDepth 100000 in
set_option maxHeartbeats 4000000 in
theorem names_any (w : World) : Calls Tryd.prog 3 #[] w fun e w' => e = .returned (.bool true) ∧ Below w.heap.size w w' := by
  have kc := @conv_const Tryd.prog _ _ Tryd.underlying30 Tryd.underlying5
  go_enter Tryd.func3, Tryd.ntmps3
  go_wp2_with (refine (all_any _).mono ?_; rintro e w1 ⟨rfl, rfl⟩)
  refine at_world (fun W => Blk W w.heap.size 25 (pairs nums) ∧ Below w.heap.size w W) ⟨Blk.new w 25 (pairs nums), (Below.refl _ _).alloc (Nat.le_refl _) _⟩ ?_
  rintro W ⟨hW, hbW⟩
  obtain ⟨g, hg⟩ : ∃ y, y = w.heap.size := ⟨_, rfl⟩
  rw [← hg] at hW ⊢
  clear hg
  have HW := Lib.hid hW
  have HbW := Lib.hid hbW
  clear hW hbW
  go_loopw [2] (fun i wr => ∃ k : Nat, k ≤ 82 ∧ i = .int .i64 k ∧ Blk wr g 25 (pairs nums) ∧ Below W.heap.size W wr) (fun i _ => 82 - (intOf i).toNat)
  case atStart => exact ⟨0, by omega, rfl, HW.out, Below.refl _ _⟩
  case round =>
    obtain ⟨k, hk, rfl, hb, hbel⟩ := hrel
    by_cases hk8 : k < 82
    · obtain ⟨v, h1, h2⟩ := num_cells hb hk8
      have Hb := Lib.hid hb
      have Hbel := Lib.hid hbel
      clear hb hbel
      go_wp2_with fail
      go_quiet (fail)
      go_wp2_with fail
      exact ⟨⟨k + 1, by omega, by go_num, Hb.out.drewN _, bl_drewN Hbel.out _⟩, by simp [intOf]; omega⟩
    · have hk82 : k = 82 := by omega
      subst hk82
      have HbW2 := Lib.hid (HbW.out.trans (hbel.mono HbW.out.size))
      clear hb hbel
      go_wp2_with (first | (go_at_call 5; refine (error7 _).mono ?_; rintro e w' ⟨rfl, rfl⟩) | (go_at_call 6; refine (sum_eq _ _ _ [49, 50, 51, 52, 53, 54, 55, 56, 57] 3421780262 _ (by decide +kernel) ?_).mono ?_; rotate_left; rintro e w' ⟨rfl, rfl⟩))
      · go_ret
        exact ⟨rfl, HbW2.out.alloc HbW2.out.size _⟩
      · exact bs_lit (l := [49, 50, 51, 52, 53, 54, 55, 56, 57]) (by intro x hx; simp at hx; omega) (by decide) rfl
end Go.Proofs.YtdegfbhnilbcfaaDoor
