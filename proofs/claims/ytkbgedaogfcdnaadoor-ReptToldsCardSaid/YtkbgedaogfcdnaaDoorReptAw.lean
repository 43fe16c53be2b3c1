/- awake: what the document fixes. -/
import Derived.Test.YtkbgedaogfcdnaaDoorReptPa
namespace Go.Proofs.YtkbgedaogfcdnaaDoor
set_option linter.unusedSimpArgs false
set_option linter.unusedVariables false
open Go.RowKit
open Crc (Bytes)
theorem aw1 : Rep.parseP [101, 100, 105, 116, 32, 115, 32, 54, 49, 54, 50] = some ⟨6, 0, 0, [115], [97, 98], Rep.op0⟩ := by decide +kernel
theorem aw2 : Rep.parseP [101, 100, 105, 116, 32, 115, 32, 54, 49, 54] = none := by decide +kernel
theorem aw3 : Rep.parseP [115, 116, 97, 114, 116, 32, 51, 32, 100, 114, 121, 32, 116, 111, 32, 97] = some ⟨1, 3, 0, [], [], ⟨true, false, false, [[97]]⟩⟩ := by decide +kernel
theorem aw4 : Rep.evT ⟨1, 3, 0, [], [], ⟨true, false, false, [[97]]⟩⟩ = [115, 116, 97, 114, 116, 32, 51, 32, 100, 114, 121, 32, 116, 111, 32, 97] := by decide +kernel
def to0 : To := ⟨0, 0, 0, 0, 0, 0, by unfold In; decide, by unfold In; decide, by unfold In; decide, by unfold In; decide, by unfold In; decide, by unfold In; decide⟩
theorem aw5 : toldT to0 [[97], [98]] [] = [112, 104, 97, 115, 101, 32, 48, 32, 101, 114, 114, 111, 114, 32, 48, 32, 112, 97, 115, 115, 101, 115, 32, 48, 32, 109, 97, 100, 101, 32, 97, 44, 98, 32, 102, 97, 105, 108, 101, 100, 32, 45, 32, 102, 97, 117, 108, 116, 32, 48, 32, 48, 32, 48] := by decide +kernel
set_option maxRecDepth 100000 in
set_option maxHeartbeats 4000000 in
theorem awake_any (w : World) (hE : Env w) : Calls Tryd.prog 9 #[] w fun r w' => r = .returned (.bool true) ∧ Below w.heap.size w w' := by
  have HE := Lib.hid hE
  clear hE
  go_enter Tryd.func9, Tryd.ntmps9
  go_wp2_with fail
  refine (rparse_any [101, 100, 105, 116, 32, 115, 32, 54, 49, 54, 50] _ (by decide) HE.out).mono ?_
  rintro r w1 ⟨⟨B1, bn1, bc1, A1, n1, c1, rfl, he1, hc1⟩, hb1⟩
  rw [aw1] at he1 ⊢
  have G1 := Lib.hid he1
  have GB1 := Lib.hid hb1
  clear he1 hb1
  dsimp only [Option.getD, Option.isSome, evC, Rep.op0]
  go_upto_region 2 with fail
  obtain ⟨g1, hg1⟩ : ∃ g, g = w1.heap.size := ⟨_, rfl⟩
  rw [← hg1]
  refine at_world (fun W => Blk W g1 37 [.int .i64 6, .int .i64 0, .int .i64 0, .string (T [115]), .slice B1 bn1 bc1, .bool false, .bool false, .bool false, .slice A1 n1 c1] ∧ EvIn W ⟨6, 0, 0, [115], [97, 98], Rep.op0⟩ B1 A1 bn1 bc1 n1 c1 ∧ Below w.heap.size w W) ⟨blk_new hg1, G1.out.below (by (repeat (first | assumption | exact Below.refl _ _ | (with_reducible apply Below.drew) | (with_reducible apply bl_drewN) | (with_reducible apply bl_alloc) | (with_reducible refine bl_then ?_ (by assumption))))), GB1.out.alloc GB1.out.size _⟩ ?_
  rintro W1 ⟨hb1, he1, hbel⟩
  have H1 := Lib.hid hb1
  have E1 := Lib.hid he1
  have B1_ := Lib.hid hbel
  clear hb1 he1 hbel hg1 G1 GB1
  go_wp2_with fail
  refine (rparse_any [101, 100, 105, 116, 32, 115, 32, 54, 49, 54] _ (by decide) (HE.out.below B1_.out)).mono ?_
  rintro r w2 ⟨⟨B2, bn2, bc2, A2, n2, c2, rfl, he2, hc2⟩, hb2⟩
  rw [aw2]
  have H2 := Lib.hid (H1.out.below hb2)
  have E2 := Lib.hid (E1.out.below hb2)
  have B2_ := Lib.hid (B1_.out.trans (hb2.mono B1_.out.size))
  clear he2 hb2 H1 E1 B1_
  dsimp only [Option.getD, Option.isSome, evC, Rep.op0, Rep.ev0]
  go_upto_region 3 with fail
  refine at_world (fun W => Blk W g1 37 [.int .i64 6, .int .i64 0, .int .i64 0, .string (T [115]), .slice B1 bn1 bc1, .bool false, .bool false, .bool false, .slice A1 n1 c1] ∧ EvIn W ⟨6, 0, 0, [115], [97, 98], Rep.op0⟩ B1 A1 bn1 bc1 n1 c1 ∧ Below w.heap.size w W) ⟨H2.out.alloc _, E2.out.below (by (repeat (first | assumption | exact Below.refl _ _ | (with_reducible apply Below.drew) | (with_reducible apply bl_drewN) | (with_reducible apply bl_alloc) | (with_reducible refine bl_then ?_ (by assumption))))), B2_.out.alloc B2_.out.size _⟩ ?_
  rintro W2 ⟨hb1, he1, hbel⟩
  have H1 := Lib.hid hb1
  have E1 := Lib.hid he1
  have B1_ := Lib.hid hbel
  clear hb1 he1 hbel H2 E2 B2_
  go_wp2_with fail
  refine (rparse_any [115, 116, 97, 114, 116, 32, 51, 32, 100, 114, 121, 32, 116, 111, 32, 97] _ (by decide) (HE.out.below B1_.out)).mono ?_
  rintro r w3 ⟨⟨B3, bn3, bc3, A3, n3, c3, rfl, he3, hc3⟩, hb3⟩
  rw [aw3] at he3 ⊢
  have H2 := Lib.hid (H1.out.below hb3)
  have E2 := Lib.hid (E1.out.below hb3)
  have B2_ := Lib.hid (B1_.out.trans (hb3.mono B1_.out.size))
  have E3 := Lib.hid he3
  clear he3 hb3 H1 E1 B1_
  dsimp only [Option.getD, Option.isSome, evC, Rep.op0]
  have hn3 : n3 = 1 := by have := E3.out.ss.len; simpa using this.symm
  have hn1 : bn1 = 2 := by have := E2.out.by_.len; simpa using this.symm
  subst hn3
  subst hn1
  go_upto_region 4 with fail
  obtain ⟨g3, hg3⟩ : ∃ g, g = w3.heap.size := ⟨_, rfl⟩
  rw [← hg3]
  refine at_world (fun W => Blk W g1 37 [.int .i64 6, .int .i64 0, .int .i64 0, .string (T [115]), .slice B1 2 bc1, .bool false, .bool false, .bool false, .slice A1 n1 c1] ∧ Blk W g3 37 [.int .i64 1, .int .i64 3, .int .i64 0, .string (T []), .slice B3 bn3 bc3, .bool true, .bool false, .bool false, .slice A3 1 c3] ∧ EvIn W ⟨6, 0, 0, [115], [97, 98], Rep.op0⟩ B1 A1 2 bc1 n1 c1 ∧ EvIn W ⟨1, 3, 0, [], [], ⟨true, false, false, [[97]]⟩⟩ B3 A3 bn3 bc3 1 c3 ∧ Below w.heap.size w W) ⟨H2.out.alloc _, blk_new hg3, E2.out.below (by (repeat (first | assumption | exact Below.refl _ _ | (with_reducible apply Below.drew) | (with_reducible apply bl_drewN) | (with_reducible apply bl_alloc) | (with_reducible refine bl_then ?_ (by assumption))))), E3.out.below (by (repeat (first | assumption | exact Below.refl _ _ | (with_reducible apply Below.drew) | (with_reducible apply bl_drewN) | (with_reducible apply bl_alloc) | (with_reducible refine bl_then ?_ (by assumption))))), B2_.out.alloc B2_.out.size _⟩ ?_
  rintro W3 ⟨hb1, hb3, he1, he3, hbel⟩
  have H1 := Lib.hid hb1
  have H3 := Lib.hid hb3
  have E1 := Lib.hid he1
  have F3 := Lib.hid he3
  have B1_ := Lib.hid hbel
  have hcv := conv_str (P := Tryd.prog) (c := bc1) Tryd.underlying33 Tryd.underlying5 Tryd.underlying9 he1.by_
  rw [show str [97, 98] = T [97, 98] from rfl] at hcv
  have u1 := T_cmp [115] [115] true (by decide)
  have u2 := T_cmp [97, 98] [97, 98] true (by decide)
  have a0 : W3.cell? ⟨g1, 0, none⟩ = some (.int .i64 6) := hb1.cell 0
  have a1 : W3.cell? ⟨g1, 1, none⟩ = some (.int .i64 0) := hb1.cell 1
  have a2 : W3.cell? ⟨g1, 2, none⟩ = some (.int .i64 0) := hb1.cell 2
  have a3 : W3.cell? ⟨g1, 3, none⟩ = some (.string (T [115])) := hb1.cell 3
  have a4 : W3.cell? ⟨g1, 4, none⟩ = some (.slice B1 2 bc1) := hb1.cell 4
  have a5 : W3.cell? ⟨g1, 5, none⟩ = some (.bool false) := hb1.cell 5
  have a6 : W3.cell? ⟨g1, 6, none⟩ = some (.bool false) := hb1.cell 6
  have a7 : W3.cell? ⟨g1, 7, none⟩ = some (.bool false) := hb1.cell 7
  have a8 : W3.cell? ⟨g1, 8, none⟩ = some (.slice A1 n1 c1) := hb1.cell 8
  have b0 : W3.cell? ⟨g3, 0, none⟩ = some (.int .i64 1) := hb3.cell 0
  have b1 : W3.cell? ⟨g3, 1, none⟩ = some (.int .i64 3) := hb3.cell 1
  have b2 : W3.cell? ⟨g3, 2, none⟩ = some (.int .i64 0) := hb3.cell 2
  have b3 : W3.cell? ⟨g3, 3, none⟩ = some (.string (T [])) := hb3.cell 3
  have b4 : W3.cell? ⟨g3, 4, none⟩ = some (.slice B3 bn3 bc3) := hb3.cell 4
  have b5 : W3.cell? ⟨g3, 5, none⟩ = some (.bool true) := hb3.cell 5
  have b6 : W3.cell? ⟨g3, 6, none⟩ = some (.bool false) := hb3.cell 6
  have b7 : W3.cell? ⟨g3, 7, none⟩ = some (.bool false) := hb3.cell 7
  have b8 : W3.cell? ⟨g3, 8, none⟩ = some (.slice A3 1 c3) := hb3.cell 8
  clear hb1 hb3 he1 he3 hbel hg3 H2 E2 E3 B2_
  go_wp2_with fail
  refine (event_any ⟨1, 3, 0, [], [], ⟨true, false, false, [[97]]⟩⟩ B3 A3 bn3 bc3 1 c3 F3.out (HE.out.below B1_.out)).mono ?_
  rintro r w4 ⟨rfl, hb4⟩
  rw [aw4]
  have B4_ := Lib.hid (B1_.out.trans (hb4.mono B1_.out.size))
  have u3 := T_cmp [115, 116, 97, 114, 116, 32, 51, 32, 100, 114, 121, 32, 116, 111, 32, 97] [115, 116, 97, 114, 116, 32, 51, 32, 100, 114, 121, 32, 116, 111, 32, 97] true (by decide)
  clear hb4 a0 a1 a2 a3 a4 a5 a6 a7 a8 b0 b1 b2 b3 b4 b5 b6 b7 b8 hcv
  go_wp2_with fail
  refine (rtold_any to0 (some ⟨w4.heap.size, 0, none⟩) none 2 2 0 0 [[97], [98]] [] ((HE.out.below B4_.out).below (by (repeat (first | assumption | exact Below.refl _ _ | (with_reducible apply Below.drew) | (with_reducible apply bl_drewN) | (with_reducible apply bl_alloc) | (with_reducible refine bl_then ?_ (by assumption)))))) ⟨Rd.lit w4 #[.string (T [97]), .string (T [98])] 9 (0, 0) 1 2 rfl, by omega⟩ (SS.nil _ _) (Nat.le_refl _) (Nat.le_refl _) (by decide) (by decide) (by decide) (by decide)).mono ?_
  rintro r w5 ⟨rfl, hb5⟩
  rw [aw5]
  have B5_ := Lib.hid ((B4_.out.alloc B4_.out.size _).trans (hb5.mono (by have := B4_.out.size; simp; omega)))
  have u4 := T_cmp [112, 104, 97, 115, 101, 32, 48, 32, 101, 114, 114, 111, 114, 32, 48, 32, 112, 97, 115, 115, 101, 115, 32, 48, 32, 109, 97, 100, 101, 32, 97, 44, 98, 32, 102, 97, 105, 108, 101, 100, 32, 45, 32, 102, 97, 117, 108, 116, 32, 48, 32, 48, 32, 48] [112, 104, 97, 115, 101, 32, 48, 32, 101, 114, 114, 111, 114, 32, 48, 32, 112, 97, 115, 115, 101, 115, 32, 48, 32, 109, 97, 100, 101, 32, 97, 44, 98, 32, 102, 97, 105, 108, 101, 100, 32, 45, 32, 102, 97, 117, 108, 116, 32, 48, 32, 48, 32, 48] true (by decide)
  clear hb5
  go_wp2_with fail
  go_ret
  exact ⟨rfl, B5_.out⟩
end Go.Proofs.YtkbgedaogfcdnaaDoor
