/- The walks of the laws of layer 1. -/
import Derived.Test.YtdegfbhnilbcfaaSum
namespace Go.Proofs.Ytdegfbhnilbcfaa
set_option linter.unusedSimpArgs false
set_option linter.unusedVariables false
open Go.RowKit
open Crc (Bytes)

theorem bytes_abc : Bytes [49, 50, 51, 52, 53, 54, 55, 56, 57] := by intro x hx; simp at hx; omega
theorem bytes_a : Bytes [97] := by intro x hx; simp at hx; omega

set_option maxHeartbeats 400000 in
theorem awake1_any (w : World) : Calls Try.prog 10 #[] w fun e w' => e = .returned (.bool true) ∧ Below w.heap.size w w' := by
  have kc := @conv_const Try.prog _ _ Try.underlying26 Try.underlying5
  have s1 := Lib.hid Crc.sum_abc
  have s2 := Lib.hid Crc.sum_nil
  have s3 := Lib.hid Crc.sum_a
  go_enter Try.func10, Try.ntmps10
  go_wp2_with fail
  refine (sum_any _ _ _ [49, 50, 51, 52, 53, 54, 55, 56, 57] _ (Bs.lit _ _ _ _ bytes_abc (by simp))).mono ?_
  rintro e w' ⟨rfl, rfl⟩
  rw [s1.out]
  go_wp2_with fail
  refine (sum_any _ _ _ [] _ (Bs.nil _ _)).mono ?_
  rintro e w' ⟨rfl, rfl⟩
  rw [s2.out]
  go_wp2_with fail
  refine (sum_any _ _ _ [97] _ (bs_lit bytes_a (by simp) (by simp))).mono ?_
  rintro e w' ⟨rfl, rfl⟩
  rw [s3.out]
  go_wp2_with fail
  go_ret
  exact ⟨rfl, ((Below.refl _ _).alloc (Nat.le_refl _) _).alloc (by simp) _⟩

theorem and255 (n : Int) : ∃ m : Nat, m < 256 ∧ Go.bits .and .i64 n 255 = (m : Int) := by
  have h : (BitVec.ofInt IntKind.i64.bits n &&& BitVec.ofInt IntKind.i64.bits 255).toNat ≤ 255 := by
    have h255 : (BitVec.ofInt IntKind.i64.bits 255).toNat = 255 := by decide
    rw [BitVec.toNat_and, h255]; exact Nat.and_le_right
  have e : Go.bits .and .i64 n 255 = IntKind.i64.wrap ((BitVec.ofInt IntKind.i64.bits n &&& BitVec.ofInt IntKind.i64.bits 255).toNat : Int) := rfl
  generalize (BitVec.ofInt IntKind.i64.bits n &&& BitVec.ofInt IntKind.i64.bits 255).toNat = m at h e
  refine ⟨m, by omega, ?_⟩
  rw [e, IntKind.wrap_i64]
  omega


theorem keep2 {W w' : World} {g : Nat} {u v : Value} (h0 : W.cell? ⟨g, 0, none⟩ = some u) (h1 : W.cell? ⟨g, 1, none⟩ = some v) (hz : g < W.heap.size) (hb : Below W.heap.size W w') :
    w'.cell? ⟨g, 0, none⟩ = some u ∧ w'.cell? ⟨g, 1, none⟩ = some v ∧ Below W.heap.size W w' := ⟨(hb.cell (p := ⟨g, 0, none⟩) hz).trans h0, (hb.cell (p := ⟨g, 1, none⟩) hz).trans h1, hb⟩
end Go.Proofs.Ytdegfbhnilbcfaa
