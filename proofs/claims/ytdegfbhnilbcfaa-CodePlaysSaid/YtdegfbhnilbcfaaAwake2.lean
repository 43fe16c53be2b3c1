/- The walk of fettlelaw2's awake. -/
import Derived.Test.YtdegfbhnilbcfaaRead
import Derived.Test.YtdegfbhnilbcfaaStr
namespace Go.Proofs.Ytdegfbhnilbcfaa
set_option linter.unusedSimpArgs false
set_option linter.unusedVariables false
open Go.RowKit
open Crc (Bytes)
open Cod (six)

def aw : List Int := [0, 0, 0, 0, 1, 2, 0, 0, 0, 0, 0, 2, 97, 98]
theorem aw_is : [] ++ six 258 ++ six (([97, 98] : List Int).length : Int) ++ [97, 98] = aw := by decide
theorem aw_num : rnum (aw, false) 258 = (258, ([0, 0, 0, 0, 0, 2, 97, 98], false)) := by decide
theorem aw_bytes : rbytes ([0, 0, 0, 0, 0, 2, 97, 98], false) 2 = ([97, 98], ([], false)) := by decide
theorem aw_five : rnum ([] ++ six 5, false) 4 = (0, ([], true)) := by decide
theorem bytes_ab : Bytes [97, 98] := by intro x hx; simp at hx; omega
theorem bytes_nil : Bytes [] := by intro x hx; cases hx

set_option maxHeartbeats 1000000 in
theorem awake2_any (w : World) : Calls Try.prog 17 #[] w fun e w' => e = .returned (.bool true) ∧ Below w.heap.size w w' := by
  have kc := @conv_const Try.prog _ _ Try.underlying26 Try.underlying5
  go_enter Try.func17, Try.ntmps17
  go_wp2_with fail
  refine (num_any none 0 0 [] 258 _ (Bs.nil _ _) (by omega)).mono ?_
  rintro e w1 ⟨A1, n1, c1, rfl, hn1, ho1, _, hb1⟩
  have hn1' : 6 = n1 := hn1
  subst hn1'
  have hB1 := own_bs ho1 (bytes_app bytes_nil (Cod.six_bytes 258)) (by omega)
  go_wp2_with fail
  refine (bytes_any A1 _ 6 2 c1 2 _ [97, 98] _ (by repeat (first | with_reducible assumption | exact hB1 | (with_reducible apply Bs.alloc) | (with_reducible apply Bs.drew) | (with_reducible apply Bs.drewN))) (bs_lit bytes_ab (by simp) (by simp)) (by omega)).mono ?_
  rintro e w2 ⟨A2, n2, c2, rfl, hn2, ho2, _, hb2⟩
  rw [aw_is] at ho2
  have hn2' : 14 = n2 := hn2
  subst hn2'
  have hw2 : Below w.heap.size w w2 := (hb1.alloc hb1.size _).trans (hb2.mono (by have := hb1.size; simp; omega))
  have hz2 := hw2.size
  have hB2 := own_bs ho2 (show Bytes aw by intro x hx; simp [aw] at hx; omega) (by omega)
  have HB2 := Lib.hid hB2
  have Hw2 := Lib.hid hw2
  clear hn1 ho1 hB1 hn2 ho2 hb2 hb1 hB2 hw2
  go_wp2_with fail
  refine (read_any A2 14 c2 aw _ HB2.out).mono ?_
  rintro e w3 ⟨g, rfl, hr3, hg3, hb3⟩
  have hw3 : Below w.heap.size w w3 := Hw2.out.trans (hb3.mono hz2)
  have HB3 := Lib.hid (HB2.out.below hb3)
  have hlt := HB2.out.lt
  have hg : w.heap.size ≤ g := by omega
  have Hne := Lib.hid (show ∀ ad, A2 = some ad → 0 < 14 → ad.block ∉ [g] by
    intro ad hA h0; simp; have := hlt ad hA h0; omega)
  have Hw3 := Lib.hid hw3
  have hz3 := hw3.size
  clear hb3 hlt hw3
  go_wp2_with fail
  refine (rnum_eq g aw false 258 _ _ aw_num hr3).mono ?_
  rintro e w4 ⟨rfl, hr4, ho4⟩
  have HB4 := Lib.hid (HB3.out.only ho4 Hne.out)
  have hw4 := below_only Hw3.out ho4 (by simpa using hg) hz3
  have Hw4 := Lib.hid hw4
  have hz4 := hw4.size
  clear hr3 ho4 hw4
  go_wp2_with fail
  refine (rbytes_eq g _ false 2 _ _ aw_bytes hr4).mono ?_
  rintro e w5 ⟨⟨A5, n5, c5, rfl, hn5, ho5, _⟩, hr5, hby5, hon5⟩
  have hn5' : 2 = n5 := hn5
  subst hn5'
  have HB5 := Lib.hid (HB4.out.only hon5 Hne.out)
  have hw5 := below_only Hw4.out hon5 (by simpa using hg) hz4
  have Hw5 := Lib.hid hw5
  have hz5 := hw5.size
  have HC5 := Lib.hid (own_bs ho5 hby5 (by omega))
  clear hr4 ho5 hby5 hon5 hn5 hw5
  go_wp2_with fail
  refine (rend_any g _ _ _ hr5).mono ?_
  rintro e w6 ⟨rfl, rfl⟩
  go_wp2_with fail
  refine (num_any none 0 0 [] 5 _ (Bs.nil _ _) (by omega)).mono ?_
  rintro e w7 ⟨A7, n7, c7, rfl, hn7, ho7, _, hb7⟩
  have hn7' : 6 = n7 := hn7
  subst hn7'
  have HB7 := Lib.hid (HB5.out.below hb7)
  have HC7 := Lib.hid (HC5.out.below hb7)
  have Hw7 := Lib.hid (Hw5.out.trans (hb7.mono hz5))
  have hz7 := Hw7.out.size
  have HD7 := Lib.hid (own_bs ho7 (bytes_app bytes_nil (Cod.six_bytes 5)) (by omega))
  clear hr5 hb7 ho7 hn7
  go_wp2_with fail
  refine (read_any A7 6 c7 _ _ HD7.out).mono ?_
  rintro e w8 ⟨g8, rfl, hr8, hg8, hb8⟩
  have hw8 : Below w.heap.size w w8 := Hw7.out.trans (hb8.mono hz7)
  have HB8 := Lib.hid (HB7.out.below hb8)
  have HC8 := Lib.hid (HC7.out.below hb8)
  have hg0 : w.heap.size ≤ g8 := by omega
  have Hw8 := Lib.hid hw8
  have hz8 := hw8.size
  have k1 := conv_str (P := Try.prog) (c := c2) Try.underlying26 Try.underlying5 Try.underlying9 HB8.out
  have k2 := conv_str (P := Try.prog) (c := c5) Try.underlying26 Try.underlying5 Try.underlying9 HC8.out
  have e1 : (str aw).toList = [0, 0, 0, 0, 1, 2, 0, 0, 0, 0, 0, 2, 97, 98] := str_list aw
  have e2 : (str [97, 98]).toList = [97, 98] := str_list [97, 98]
  clear hb8 hw8
  go_wp2_with fail
  refine (rnum_eq g8 _ false 4 _ _ aw_five hr8).mono ?_
  rintro e w9 ⟨rfl, hr9, ho9⟩
  have Hw9 := Lib.hid (below_only Hw8.out ho9 (by simpa using hg0) hz8)
  clear hr8 ho9
  go_wp2_with fail
  refine (rok_any g8 _ _ _ hr9).mono ?_
  rintro e w10 ⟨rfl, rfl⟩
  go_wp2_with fail
  refine (rend_any g8 _ _ _ hr9).mono ?_
  rintro e w11 ⟨rfl, rfl⟩
  go_wp2_with fail
  go_ret
  exact ⟨rfl, Hw9.out⟩
end Go.Proofs.Ytdegfbhnilbcfaa
