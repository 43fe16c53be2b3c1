/- fettlelaw9.awake. -/
import Derived.Test.YtkbgedaogfcdnaaTexts
namespace Go.Proofs.Ytkbgedaogfcdnaa
set_option linter.unusedSimpArgs false
set_option linter.unusedVariables false
open Go.RowKit
open Crc (Bytes)

def nA : ByteArray := ⟨#[97]⟩
def nT : ByteArray := ⟨#[116, 109, 112, 47, 98]⟩
def aw0 : Fs := fs0 10
def aw1 : Fs := (aw0.makeF nA [120, 121]).2
def aw2 : Fs := (aw1.makeF nA []).2
def aw3 : Fs := (aw2.putF nT [49, 50, 51, 52, 53, 54, 55, 56, 57]).2
def aw4 : Fs := (aw3.putF nT [113]).2
def aw5 : Fs := (aw4.moveF nT nA [(nA, 6)]).2
def aw6 : Fs := (aw5.moveF nT nA [(nA, 1)]).2
def aw7 : Fs := { aw6 with cuts := true, cut := max 1 0 }
def aw8 : Fs := (aw7.appF nA [122, 122] []).2
theorem aw1_eq : (aw0.makeF nA [120, 121]).1 = (1, 0) := by kernel_rfl
theorem aw2_eq : (aw1.makeF nA []).1 = (0, 3) := by kernel_rfl
theorem aw3_eq : (aw2.putF nT [49, 50, 51, 52, 53, 54, 55, 56, 57]).1 = (0, 2) := by kernel_rfl
theorem aw4_eq : (aw3.putF nT [113]).1 = (2, 0) := by kernel_rfl
theorem aw5_eq : (aw4.moveF nT nA [(nA, 6)]).1 = (0, 5) := by kernel_rfl
theorem aw6_eq : (aw5.moveF nT nA [(nA, 1)]).1 = (3, 0) := by kernel_rfl
theorem aw8_eq : (aw7.appF nA [122, 122] []).1 = (0, 7) := by kernel_rfl
theorem aw8_read : aw8.readF nA = (0, [113, 122], 4) := by kernel_rfl
theorem aw8_used : aw8.used = 2 := by kernel_rfl
theorem aw8_drop : (aw8.dropF nA []).1 = 0 := by kernel_rfl
theorem ks_eq {S : Fs} {ks l : List (List UInt8)} (h : Ks S ks) (hl : l.Pairwise (fun a b => a < b)) (hm : ∀ key, key ∈ l ↔ (S.m key).isSome = true) : ks = l := by
  have hnd : ∀ m : List (List UInt8), m.Pairwise (fun a b => a < b) → m.Nodup := fun m hm => hm.imp fun {a b} hab e => by subst e; exact absurd hab (List.lt_irrefl a)
  refine List.Perm.eq_of_pairwise (le := fun a b => a < b) (fun a b _ _ h1 h2 => ?_) h.up hl ((List.perm_ext_iff_of_nodup (hnd _ h.up) (hnd _ hl)).2 fun key => by rw [h.mem, hm])
  exact absurd (List.lt_trans h1 h2) (List.lt_irrefl a)
theorem aw8_is : aw8.m = (((((aw0.put nA [120, 121] 1).put nT [113] 2).rm nT).put nA [113] 3).put nA [113, 122] 4).m := by kernel_rfl
theorem aw8_m (key : List UInt8) : (aw8.m key).isSome = true ↔ key ∈ [([97] : List UInt8)] := by
  rw [aw8_is]
  simp only [Fs.put, Fs.rm, aw0, fs0, nA, nT, List.mem_singleton]
  by_cases h : key = [97]
  · simp [h]
  · by_cases h2 : key = [116, 109, 112, 47, 98] <;> simp [h, h2]
theorem aw8_ks {ks : List (List UInt8)} (h : Ks aw8 ks) : ks = [[97]] := ks_eq h (by simp) fun key => (aw8_m key).symm
set_option maxRecDepth 100000 in
set_option maxHeartbeats 4000000 in
theorem awake9_any (w : World) : Calls Try.prog 7 #[] w fun e w' => e = .returned (.bool true) ∧ Below w.heap.size w w' := by
  have kc := @conv_const Try.prog _ _ Try.underlying30 Try.underlying5
  go_enter Try.func7, Try.ntmps7
  go_wp2_with fail
  refine (new_h w 10).mono ?_
  rintro e w1 ⟨fb, mb, rfl, h0⟩
  have H0 := Lib.hid h0
  clear h0
  go_wp2_with fail
  refine (make_h (H0.out.alloc) (by omega) nA [120, 121] (some ⟨w1.heap.size, 0, none⟩) 2 2 (by decide) (by omega) (bs_lit (l := [120, 121]) (by intro x hx; simp at hx; omega) (by decide) rfl)).mono ?_
  rintro e w2 ⟨rfl, h1, o1⟩
  rw [show (fs0 10).makeF nA [120, 121] = ((1, 0), aw1) from Prod.ext aw1_eq rfl] at h1 ⊢
  have H1 := Lib.hid h1
  clear h1 o1
  go_wp2_with fail
  refine (make_h H1.out (by omega) nA [] none 0 0 (by decide) (by omega) (Bs.nil _ _)).mono ?_
  rintro e w3 ⟨rfl, h1, o1⟩
  rw [show aw1.makeF nA [] = ((0, 3), aw2) from Prod.ext aw2_eq rfl] at h1 ⊢
  have H2 := Lib.hid h1
  clear h1 o1 H1
  go_wp2_with fail
  refine (put_h H2.out.alloc (by omega) nT [49, 50, 51, 52, 53, 54, 55, 56, 57] (some ⟨w3.heap.size, 0, none⟩) 9 9 (by decide) (by omega) (bs_lit (l := [49, 50, 51, 52, 53, 54, 55, 56, 57]) (by intro x hx; simp at hx; omega) (by decide) rfl)).mono ?_
  rintro e w4 ⟨rfl, h1, o1⟩
  rw [show aw2.putF nT [49, 50, 51, 52, 53, 54, 55, 56, 57] = ((0, 2), aw3) from Prod.ext aw3_eq rfl] at h1 ⊢
  have H3 := Lib.hid h1
  clear h1 o1 H2
  go_wp2_with fail
  refine (put_h H3.out.alloc (by omega) nT [113] (some ⟨w4.heap.size, 0, none⟩) 1 1 (by decide) (by omega) (bs_lit (l := [113]) (by intro x hx; simp at hx; omega) (by decide) rfl)).mono ?_
  rintro e w5 ⟨rfl, h1, o1⟩
  rw [show aw3.putF nT [113] = ((2, 0), aw4) from Prod.ext aw4_eq rfl] at h1 ⊢
  have H4 := Lib.hid h1
  clear h1 o1 H3
  go_wp2_with fail
  refine (move_h H4.out.alloc (by omega) nT nA [(nA, 6)] (some ⟨w5.heap.size, 0, none⟩) 1 1 (by decide) (by decide) (Grd.one rfl nA (by decide) 6)).mono ?_
  rintro e w6 ⟨rfl, h1, o1⟩
  rw [show aw4.moveF nT nA [(nA, 6)] = ((0, 5), aw5) from Prod.ext aw5_eq rfl] at h1 ⊢
  have H5 := Lib.hid h1
  clear h1 o1 H4
  go_wp2_with fail
  refine (move_h H5.out.alloc (by omega) nT nA [(nA, 1)] (some ⟨w6.heap.size, 0, none⟩) 1 1 (by decide) (by decide) (Grd.one rfl nA (by decide) 1)).mono ?_
  rintro e w7 ⟨rfl, h1, o1⟩
  rw [show aw5.moveF nT nA [(nA, 1)] = ((3, 0), aw6) from Prod.ext aw6_eq rfl] at h1 ⊢
  have H6 := Lib.hid h1
  clear h1 o1 H5
  go_wp2_with fail
  refine (cut_h H6.out (by omega) 1).mono ?_
  rintro e w8 ⟨rfl, h1, o1⟩
  have H7 := Lib.hid (show FsH w w8 fb mb aw7 7 from h1)
  clear h1 o1 H6
  go_wp2_with fail
  refine (append_h H7.out.alloc (by omega) nA [122, 122] [] (some ⟨w8.heap.size, 0, none⟩) 2 2 none 0 0 (by decide) (by omega) (by omega) (bs_lit (l := [122, 122]) (by intro x hx; simp at hx; omega) (by decide) rfl) (fun ad hA h0 => by cases hA; exact ⟨_, _, heap_alloc_new _ _⟩) (Grd.nil _)).mono ?_
  rintro e w9 ⟨rfl, h1, o1⟩
  rw [show aw7.appF nA [122, 122] [] = ((0, 7), aw8) from Prod.ext aw8_eq rfl] at h1 ⊢
  have H8 := Lib.hid h1
  clear h1 o1 H7
  go_wp2_with fail
  refine (read_h H8.out nA (by decide)).mono ?_
  rintro e w10 ⟨A, n, c, rfl, hn, hown, hb⟩
  rw [aw8_read] at hn hown ⊢
  have hbs := own_bs hown (by (intro x hx; simp at hx; omega)) (by simp at hn; omega)
  have k1 := conv_str (P := Try.prog) (c := c) Try.underlying30 Try.underlying5 Try.underlying9 hbs
  have H9 := Lib.hid (H8.out.below hb)
  clear hown hbs hb H8
  obtain rfl : n = 2 := by simp at hn; omega
  rw [show str [113, 122] = ⟨#[113, 122]⟩ by kernel_rfl] at k1
  go_wp2_with fail
  refine (used_h H9.out).mono ?_
  rintro e w' ⟨rfl, rfl⟩
  rw [aw8_used]
  clear k1
  go_wp2_with fail
  refine (list_h H9.out ⟨#[]⟩ (by decide)).mono ?_
  rintro e w11 ⟨ks, A2, n2, c2, hks, rfl, hn2, hown2, hb2⟩
  rw [aw8_ks hks] at hn2 hown2
  have hf1 : ([[97]] : List (List UInt8)).filter (inB ⟨#[]⟩) = [[97]] := by kernel_rfl
  rw [hf1] at hn2 hown2
  obtain rfl : n2 = 1 := hn2
  have Hs1 := Lib.hid (show Strs w11 A2 1 [[97]] from ⟨hown2.rd, by omega⟩)
  have H10 := Lib.hid (H9.out.below hb2)
  clear hown2 hb2 H9 hks hf1
  go_wp2_with fail
  refine (sametexts_any A2 (some ⟨w11.heap.size, 0, none⟩) 1 1 c2 1 [[97]] [[97]] (Hs1.out.below ((Below.refl _ _).alloc (Nat.le_refl _) _)) ⟨Rd.lit w11 #[.string ⟨#[97]⟩] 9 (0, 0) 1 1 rfl, by omega⟩).mono ?_
  rintro e w12 ⟨rfl, hb3⟩
  rw [show decide (([[97]] : List (List UInt8)) = [[97]]) = true by decide]
  have H11 := Lib.hid (H10.out.alloc.below hb3)
  clear hb3 H10 Hs1
  go_wp2_with fail
  refine (list_h H11.out ⟨#[116, 109, 112]⟩ (by decide)).mono ?_
  rintro e w13 ⟨ks, A3, n3, c3, hks, rfl, hn3, hown3, hb4⟩
  rw [aw8_ks hks] at hn3
  have hf2 : ([[97]] : List (List UInt8)).filter (inB ⟨#[116, 109, 112]⟩) = [] := by kernel_rfl
  rw [hf2] at hn3
  obtain rfl : n3 = 0 := hn3
  have H12 := Lib.hid (H11.out.below hb4)
  clear hown3 hb4 H11 hks hf2
  go_wp2_with fail
  refine (drop_h H12.out (by omega) nA [] none 0 0 (by decide) (Grd.nil _)).mono ?_
  rintro e w14 ⟨rfl, h1, o1⟩
  rw [aw8_drop]
  have Hb := Lib.hid h1.bel
  clear h1 o1 H12
  go_wp2_with fail
  go_ret
  exact ⟨rfl, Hb.out⟩
end Go.Proofs.Ytkbgedaogfcdnaa
