/- slices.Grow from nil; slices.Concat of a row of rows. -/
import Derived.Test.YtkbgedaogfcdnaaStr
import Derived.Test.YtkbgedaogfcdnaaCode
import Derived.Lib.AppendZeros
import Derived.Lib.AppendZerosOnto
namespace Go.Proofs.Ytkbgedaogfcdnaa
set_option linter.unusedSimpArgs false
set_option linter.unusedVariables false
open Go.RowKit
open Crc (Bytes)

set_option maxRecDepth 100000 in
theorem grow0_any (w : World) : Calls Try.prog 56 #[.slice none 0 0, .int .i64 0] w fun e w' => e = .returned (.slice none 0 0) ∧ w = w' := by
  go_enter Try.func56, Try.ntmps56
  go_wp2_with fail
  go_ret
  exact ⟨rfl, rfl⟩

theorem nil_zeros (w : World) (n : Nat) (h0 : 0 < n) (h1 : n ≤ 140737488355328) (ty : TypeId) : ∃ c w', (Builtin.append_ #[30, 3] ty #[.slice none 0 0, .int .i64 n]).run Try.prog w = .ok (.slice (some ⟨w.heap.size, 0, none⟩) n c) w' ∧ n ≤ c ∧ Own w' w.heap.size 5 1 (some ⟨w.heap.size, 0, none⟩) 0 c [] ∧ Below w.heap.size w w' := by
  obtain ⟨i, hi, hz, hs, hb⟩ := info_parts u8i
  have h := Lib.run_append_nil_zeros w 30 3 ty 5 i (.int .u8 0) .i64 .i64 Try.underlying30 Try.underlying3 hi hz n h0 (by omega) (by omega) (by rw [hb]; omega)
  refine ⟨_, _, h, grownCap_ge w _ _ _, ?_, (Below.refl _ _).drew.alloc (Nat.le_refl _) _⟩
  have hge := grownCap_ge w n 0 5
  have hle := grownCap_le_maxLen w n 0 5 (by unfold maxLen; omega)
  refine ⟨⟨rfl, .inr ⟨w.heap.size, _, _, rfl, Nat.le_refl _, heap_alloc_new w.drew _, Nat.zero_le _, hle, ?_, ?_⟩⟩⟩
  · have e : (Value.int IntKind.u8 0).cells.size = 1 := rfl
    simp [Builtin.zeroCells, e]; omega
  · simp
set_option maxRecDepth 100000 in
set_option maxHeartbeats 1000000 in
theorem grow_any (w : World) (n : Nat) (h0 : 0 < n) (h1 : n ≤ 140737488355328) : Calls Try.prog 56 #[.slice none 0 0, .int .i64 n] w fun e w' => ∃ c, e = .returned (.slice (some ⟨w.heap.size, 0, none⟩) 0 c) ∧ Own w' w.heap.size 5 1 (some ⟨w.heap.size, 0, none⟩) 0 c [] ∧ Below w.heap.size w w' := by
  obtain ⟨c, w', hrun, hc, hown, hb⟩ := nil_zeros w n h0 h1 30
  have Hown := Lib.hid hown
  clear hown
  go_enter Try.func56, Try.ntmps56
  go_wp2_with (at_builtin; refine Lib.wpList_append_run _ rfl _ _ _ _ rfl _ _ rfl rfl _ _ hrun ?_)
  go_ret
  exact ⟨c, rfl, Hown.out, hb⟩
/-- A row of rows of bytes: the slices' own parts, and what they hold. -/
structure Rws (w : World) (g k : Nat) (rs : List (Option Addr × Nat × Nat × List Int)) : Prop where
  len : rs.length = k
  cell : ∀ j (hj : j < rs.length), w.cell? ⟨g, j, none⟩ = some (.slice rs[j].1 rs[j].2.1 rs[j].2.2.1)
  bs : ∀ j (hj : j < rs.length), Bs w rs[j].1 rs[j].2.1 rs[j].2.2.2
  small : k ≤ 1000000
def allOf (rs : List (Option Addr × Nat × Nat × List Int)) : List Int := (rs.map fun r => r.2.2.2).flatten
theorem allOf_snoc (rs : List (Option Addr × Nat × Nat × List Int)) (j : Nat) (hj : j < rs.length) : allOf (rs.take (j + 1)) = allOf (rs.take j) ++ rs[j].2.2.2 := by
  unfold allOf
  rw [List.take_succ_eq_append_getElem hj, List.map_append, List.flatten_append]
  simp
theorem allOf_le (rs : List (Option Addr × Nat × Nat × List Int)) (j : Nat) : (allOf (rs.take j)).length ≤ (allOf rs).length := by
  conv => rhs; rw [← List.take_append_drop j rs]
  unfold allOf
  simp only [List.map_append, List.flatten_append, List.length_append]
  omega
theorem allOf_all (rs : List (Option Addr × Nat × Nat × List Int)) : allOf (rs.take rs.length) = allOf rs := by rw [List.take_length]
theorem growN_any (w : World) (n : Nat) (h1 : n ≤ 140737488355328) : Calls Try.prog 56 #[.slice none 0 0, .int .i64 n] w fun e w' => ∃ A c, e = .returned (.slice A 0 c) ∧ Own w' w.heap.size 5 1 A 0 c [] ∧ Below w.heap.size w w' := by
  rcases Nat.eq_zero_or_pos n with h0 | h0
  · subst h0
    refine (grow0_any w).mono ?_
    rintro e w' ⟨rfl, rfl⟩
    exact ⟨none, 0, rfl, Own.nil _ _ _ _, Below.refl _ _⟩
  · refine (grow_any w n h0 h1).mono ?_
    rintro e w' ⟨c, rfl, ho, hb⟩
    exact ⟨_, c, rfl, ho, hb⟩
set_option maxRecDepth 100000 in
set_option maxHeartbeats 2000000 in
theorem concat_any (w : World) (g k c : Nat) (rs : List (Option Addr × Nat × Nat × List Int)) (h : Rws w g k rs) (hn : (allOf rs).length ≤ 140737488355328) : Calls Try.prog 42 #[.slice (some ⟨g, 0, none⟩) k c] w (Gives w (allOf rs)) := by
  obtain rfl := h.len
  have H := Lib.hid h
  have Hn := Lib.hid hn
  clear h hn
  go_enter Try.func42, Try.ntmps42
  go_wp2_with fail
  go_loop [3, 11] (fun v i => ∃ j : Nat, j ≤ rs.length ∧ i = .int .i64 j ∧ v = .int .i64 (allOf (rs.take j)).length) (fun _ i => rs.length - (intOf i).toNat)
  case atStart => exact ⟨0, Nat.zero_le _, rfl, rfl⟩
  case round =>
    obtain ⟨j, hj, rfl, rfl⟩ := hrel
    have hsm := H.out.small
    by_cases hlt : j < rs.length
    · have hc := H.out.cell j hlt
      have hb := H.out.bs j hlt
      have hlen := hb.len
      have hs := allOf_snoc rs j hlt
      have hle := allOf_le rs (j + 1)
      have hN := Hn.out
      rw [hs, List.length_append, hlen] at hle
      obtain ⟨a, ha⟩ : ∃ a, a = (allOf (rs.take j)).length := ⟨_, rfl⟩
      obtain ⟨x, hx⟩ : ∃ x, x = rs[j].2.1 := ⟨_, rfl⟩
      have hs2 := Lib.hid (show ((allOf (rs.take (j + 1))).length : Int) = (a : Int) + (x : Int) by rw [hs, List.length_append, hlen, ← ha, ← hx]; simp)
      rw [← ha] at hle ⊢
      rw [← hx] at hle hc
      have hax : a + x ≤ 140737488355328 := by omega
      clear hb hlen hs hle hN ha hx
      go_wp2_with fail
      go_round
      case rel => exact ⟨j + 1, by omega, by go_num, by rw [hs2.out]⟩
      case measure => simp [intOf]; omega
    · have hjl : j = rs.length := by omega
      have hN := Hn.out
      have he := Lib.hid (allOf_all rs)
      rw [hjl, he.out]
      clear hjl hlt hj
      go_wp2_with fail
      refine (growN_any w _ hN).mono ?_
      rintro e w1 ⟨A, c1, rfl, hown, hbel⟩
      have Ho := Lib.hid hown
      have Hb := Lib.hid hbel
      clear hown hbel
      go_wp2_with fail
      go_loopw [6, 27] (fun v i wr => ∃ (j : Nat) (A : Option Addr) (c : Nat), j ≤ rs.length ∧ i = .int .i64 j ∧ v = .slice A (allOf (rs.take j)).length c ∧ Own wr w.heap.size 5 1 A (allOf (rs.take j)).length c (ints .u8 (allOf (rs.take j))) ∧ Below w.heap.size w wr) (fun _ i _ => rs.length - (intOf i).toNat)
      case atStart => exact ⟨0, A, c1, Nat.zero_le _, rfl, rfl, Ho.out, Hb.out⟩
      case round =>
        obtain ⟨j, A, c, hj, rfl, rfl, hown, hbel⟩ := hrel
        clear Ho Hb
        by_cases hlt : j < rs.length
        · have hc := (hbel.cell (World.block_lt_of_cell? w _ (H.out.cell j hlt))).trans (H.out.cell j hlt)
          have hb := Lib.hid ((H.out.bs j hlt).below hbel)
          have hlen := (H.out.bs j hlt).len
          have hs := Lib.hid (allOf_snoc rs j hlt)
          have hle := allOf_le rs (j + 1)
          rw [hs.out, List.length_append, hlen] at hle
          have hax : (allOf (rs.take j)).length + rs[j].2.1 ≤ 140737488355328 := by omega
          have Hown := Lib.hid hown
          have Hbel := Lib.hid hbel
          have hsz := hbel.size
          have Hl2 := Lib.hid (show (allOf (rs.take (j + 1))).length = (allOf (rs.take j)).length + rs[j].2.1 by rw [hs.out, List.length_append, hlen])
          clear hlen hle hown hbel
          go_wp2_with (first
            | (at_builtin
               refine wpList_app rfl (.tmp 31) (.tmp 32) 30 rfl Try.underlying30 u8i rfl (by decide) rfl Hown.out rfl hb.out.rd (ints_one _ _) (by omega) (by omega) hsz rfl (show ints .u8 (allOf (rs.take j)) ++ ints .u8 rs[j].2.2.2 = ints .u8 (allOf (rs.take (j + 1))) by rw [hs.out]; simp [ints]) ?_
               intro X xc w2 hx1 hg1 hx2))
          refine ⟨⟨j + 1, X, xc, by omega, by go_num, by rw [Hl2.out], by rw [Hl2.out]; exact hx1, Hbel.out.grown hg1 hsz (fun k hk => (Hown.out.blk k hk).1)⟩, by simp [intOf]; omega⟩
        · have hjl : j = rs.length := by omega
          rw [hjl, he.out] at hown ⊢
          have Hown := Lib.hid hown
          have Hbel := Lib.hid hbel
          clear hown hbel
          go_wp2_with fail
          go_ret
          refine ⟨A, _, c, rfl, rfl, Hown.out, fun hA => ?_, Hbel.out⟩
          subst hA
          rcases Nat.eq_zero_or_pos (allOf rs).length with h0 | h0
          · exact List.eq_nil_of_length_eq_zero h0
          · obtain ⟨g, hg, _⟩ := Hown.out.some h0
            cases hg
end Go.Proofs.Ytkbgedaogfcdnaa
