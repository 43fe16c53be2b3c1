/- The names of fettlelaw9. -/
import Derived.Test.YtkbgedaogfcdnaaFsH
import Derived.Test.YtkbgedaogfcdnaaInts
namespace Go.Proofs.Ytkbgedaogfcdnaa
set_option linter.unusedSimpArgs false
set_option linter.unusedVariables false
open Go.RowKit
open Crc (Bytes)
/-- The names of fettlelaw9. -/
def nm12 : List ByteArray := [⟨#[97]⟩, ⟨#[98]⟩, ⟨#[99]⟩, ⟨#[116, 114, 97, 99, 101]⟩, ⟨#[116, 109, 112, 47, 49, 46, 49, 46, 49]⟩, ⟨#[116, 109, 112, 47, 50, 46, 49, 46, 49]⟩, ⟨#[108, 111, 99, 107, 47, 108, 111, 103]⟩, ⟨#[99, 108, 97, 105, 109, 47, 97]⟩, ⟨#[99, 108, 97, 105, 109, 47, 98]⟩, ⟨#[65]⟩, ⟨#[]⟩, ⟨#[97, 47, 98, 47, 99]⟩]
def nmOf (k : Nat) : ByteArray := nm12.getD k ⟨#[]⟩
def nmIx (x : Int) : Nat := (Go.bits .and .i64 x 255 % 12).toNat
set_option maxRecDepth 100000 in
set_option maxHeartbeats 1000000 in
theorem name_any (x : Int) (w : World) : Calls Try.prog 6 #[.int .i64 x] w fun e w' => e = .returned (.string (nmOf (nmIx x))) ∧ Below w.heap.size w w' := by
  obtain ⟨p, hp, hp1⟩ := maskN 8 (by decide) x 255 (by decide)
  obtain ⟨k, hk1, hk2⟩ : ∃ k : Nat, (p : Int) % 12 = (k : Int) ∧ k < 12 := ⟨p % 12, by omega, by omega⟩
  have hix : nmIx x = k := by unfold nmIx; rw [hp, hk1]; simp
  have hk3 : (k : Int) < 12 := by omega
  have Hix := Lib.hid hix
  clear hix
  have hb := Blk.new w 9 (nm12.map Value.string)
  have hc : (w.alloc (.cells (nm12.map Value.string).toArray 9)).cell? ⟨w.heap.size, k, none⟩ = some (.string (nmOf k)) := by
    rw [hb.cell k, List.getElem?_map]
    have hl : k < nm12.length := hk2
    rw [List.getElem?_eq_getElem hl]
    simp only [Option.map_some]
    have : nm12[k] = nmOf k := by simp [nmOf, List.getD, hl]
    rw [this]
  simp only [nm12, List.map_cons, List.map_nil] at hc
  obtain ⟨s, hs⟩ : ∃ s, nmOf k = s := ⟨_, rfl⟩
  rw [hs] at hc
  clear hb
  go_enter Try.func6, Try.ntmps6
  go_wp2_with fail
  go_ret
  exact ⟨by rw [Hix.out, hs]; rfl, by (repeat (first | assumption | exact Below.refl _ _ | (with_reducible apply Below.drew) | (with_reducible apply bl_drewN) | (with_reducible apply bl_alloc) | (with_reducible refine bl_then ?_ (by assumption))))⟩
theorem nmOf_size (k : Nat) : (nmOf k).size ≤ 1000 := by
  unfold nmOf
  by_cases h : k < 12
  · rcases (show k = 0 ∨ k = 1 ∨ k = 2 ∨ k = 3 ∨ k = 4 ∨ k = 5 ∨ k = 6 ∨ k = 7 ∨ k = 8 ∨ k = 9 ∨ k = 10 ∨ k = 11 by omega) with rfl | rfl | rfl | rfl | rfl | rfl | rfl | rfl | rfl | rfl | rfl | rfl <;> decide
  · have : nm12[k]? = none := List.getElem?_eq_none (by simp [nm12]; omega)
    rw [List.getD_eq_getElem?_getD, this]; decide
theorem nmOf_in (k : Nat) : nmOf k ∈ nm12 := by
  unfold nmOf
  rw [List.getD_eq_getElem?_getD]
  cases h : nm12[k]? with
  | none => simp [nm12]
  | some x => exact List.mem_of_getElem? h
end Go.Proofs.Ytkbgedaogfcdnaa
