/- SimfCut: plain law and walk. -/
import Derived.Test.YtebplbnkjpffpaaAwake9
import Derived.Test.YtebplbnkjpffpaaInts
namespace Go.Proofs.Ytebplbnkjpffpaa
set_option linter.unusedSimpArgs false
set_option linter.unusedVariables false
open Go.RowKit
open Crc (Bytes)

def zs (n : Nat) : List Int := List.replicate n 0
theorem zs_bytes (n : Nat) : Bytes (zs n) := fun x hx => by rw [List.eq_of_mem_replicate hx]; omega
theorem zs_len (n : Nat) : (zs n).length = n := by simp [zs]
def nt : ByteArray := ⟨#[116]⟩
def cs1 : Fs := ((fs0 1048576).putF nt [97, 98]).2
theorem cs1_eq : ((fs0 1048576).putF nt [97, 98]).1 = (1, 0) := by kernel_rfl
def cs2 (x : Int) : Fs := { cs1 with cuts := true, cut := max x 0 }
theorem cs2_a (x : Int) : (cs2 x).appF nt [120, 121, 122] [(nt, 2)] = ((0, 5), cs2 x) := rfl
def gotOf (x : Int) (n : Nat) : Int := min (max x 0) n
def cs3 (x : Int) (n : Nat) : Fs := if gotOf x n = 0 then { cs2 x with cuts := false } else ({ cs2 x with cuts := false } : Fs).write nt ([97, 98] ++ (zs n).take (gotOf x n).toNat)
theorem cs2_b (x : Int) (n : Nat) : (cs2 x).appF nt (zs n) [(nt, 1)] = ((0, 7), cs3 x n) := by
  have hf : fileB nt = true := by kernel_rfl
  have hb : (cs2 x).bad [(nt, 1)] = false := rfl
  have hm : (cs2 x).mid n = ((gotOf x n, 7), { cs2 x with cuts := false }) := rfl
  unfold Fs.appF
  rw [zs_len, hm, hf, hb]
  unfold cs3
  by_cases h : gotOf x n = 0
  · simp [h]
  · simp [h]; rfl
theorem cs3_used (x : Int) (n : Nat) : (cs3 x n).used = 2 + gotOf x n := by
  have h0 : 0 ≤ gotOf x n ∧ gotOf x n ≤ n := by unfold gotOf; omega
  unfold cs3
  split
  · rename_i h; rw [h]; rfl
  · show (2 : Int) + ((([97, 98] ++ (zs n).take (gotOf x n).toNat : List Int).length : Int) - 2) = _
    have : (([97, 98] ++ (zs n).take (gotOf x n).toNat : List Int).length : Int) = 2 + gotOf x n := by simp [zs]; omega
    rw [this]; omega
theorem cs3_st (x : Int) (n : Nat) : (cs3 x n).st nt = if gotOf x n = 0 then 1 else 2 := by
  unfold cs3
  split <;> rfl
theorem cs3_by (x : Int) (n : Nat) : (((cs3 x n).by nt).length : Int) = 2 + gotOf x n := by
  have h0 : 0 ≤ gotOf x n ∧ gotOf x n ≤ n := by unfold gotOf; omega
  unfold cs3
  split
  · rename_i h; rw [h]; rfl
  · show (([97, 98] ++ (zs n).take (gotOf x n).toNat : List Int).length : Int) = _
    simp [zs]; omega
theorem cs3_room (x : Int) (n : Nat) : (cs3 x n).room = 1048576 ∧ (cs3 x n).cuts = false := by
  unfold cs3
  split <;> exact ⟨rfl, rfl⟩
def cs4 (x : Int) (n : Nat) : Fs := (cs3 x n).write nt ((cs3 x n).by nt ++ zs n)
theorem cs3_c (x : Int) (n : Nat) (hn : n < 32) : (cs3 x n).appF nt (zs n) [] = (((cs3 x n).last + 1, 0), cs4 x n) := by
  have h0 : 0 ≤ gotOf x n ∧ gotOf x n ≤ n := by unfold gotOf; omega
  have hf : fileB nt = true := by kernel_rfl
  have hb : (cs3 x n).bad [] = false := rfl
  have hm : (cs3 x n).mid n = (((n : Int), 0), cs3 x n) := by
    unfold Fs.mid
    rw [(cs3_room x n).2, (cs3_room x n).1, cs3_used]
    rw [if_neg (by simp), if_neg (by omega)]
  unfold Fs.appF
  rw [zs_len, hm, hf, hb]
  simp only [Bool.false_eq_true, Bool.true_eq_false, if_false, ne_eq, not_true_eq_false, false_and]
  rw [if_pos trivial]
  unfold cs4
  rw [show ((n : Int)).toNat = n by simp, List.take_of_length_le (by rw [zs_len]; omega)]
theorem cs4_used (x : Int) (n : Nat) : (cs4 x n).used = 2 + gotOf x n + n := by
  show (cs3 x n).used + ((((cs3 x n).by nt ++ zs n).length : Int) - (((cs3 x n).by nt).length : Int)) = _
  rw [List.length_append, zs_len, cs3_used]
  omega
theorem cs4_st (x : Int) (n : Nat) : (cs4 x n).st nt = (cs3 x n).last + 1 := rfl
theorem U8.lit {w : World} {g n : Nat} {cs : Array Value} {fr : Nat × Nat} (hg : g = w.heap.size) : U8 (w.alloc (.cells cs 5 fr)) (some ⟨g, 0, none⟩) n := by
  subst hg
  intro ad hA h0
  cases hA
  exact ⟨_, _, heap_alloc_new _ _⟩
theorem bs_zs {w : World} {g n : Nat} {fr : Nat × Nat} (hg : g = w.heap.size) (hn : n ≤ 100000) : Bs (w.alloc (.cells (ints .u8 (List.replicate n 0)).toArray 5 fr)) (some ⟨g, 0, none⟩) n (zs n) := by
  have := bs_lit (w := w) (l := zs n) (e := 5) (fr := fr) (g := g) (zs_bytes n) (by rw [zs_len]; omega) hg
  rw [zs_len] at this
  exact this
set_option maxRecDepth 100000 in
set_option maxHeartbeats 4000000 in
theorem simfcut_any (cut n0 refused : Int) (w : World) : Calls Try.prog 9 #[.int .i64 cut, .int .i64 n0, .int .i64 refused] w fun e w' => e = .returned (.bool true) ∧ Below w.heap.size w w' := by
  obtain ⟨c, hc, hc1⟩ := maskN 5 (by decide) cut 31 (by decide)
  obtain ⟨n, hn, hn1⟩ := maskN 5 (by decide) n0 31 (by decide)
  obtain ⟨r, hr, hr1⟩ := maskN 2 (by decide) refused 3 (by decide)
  have kc := @conv_const Try.prog _ _ Try.underlying28 Try.underlying5
  go_enter Try.func9, Try.ntmps9
  go_wp2_with fail
  refine (new_h w 1048576).mono ?_
  rintro e w1 ⟨fb, mb, rfl, h0⟩
  have H0 := Lib.hid h0
  clear h0
  go_wp2_with fail
  refine (put_h H0.out.alloc (by omega) nt [97, 98] (some ⟨w1.heap.size, 0, none⟩) 2 2 (by decide) (by omega) (bs_lit (l := [97, 98]) (by intro x hx; simp at hx; omega) (by decide) rfl)).mono ?_
  rintro e w2 ⟨rfl, h1, o1⟩
  rw [show (fs0 1048576).putF nt [97, 98] = ((1, 0), cs1) from Prod.ext cs1_eq rfl] at h1 ⊢
  have H1 := Lib.hid h1
  clear h1 o1 H0
  obtain ⟨x, hx⟩ : ∃ x, (c : Int) - 4 = x := ⟨_, rfl⟩
  have hxw : IntKind.i64.wrap x = x := by rw [IntKind.wrap_i64]; omega
  go_wp2_with fail
  refine (cut_h H1.out (by omega) x).mono ?_
  rintro e w3 ⟨rfl, h1, o1⟩
  have H2 := Lib.hid (show FsH w w3 fb mb (cs2 x) 2 from h1)
  clear h1 o1 H1
  go_wp2_with fail
  go_loopw [10] (fun i wr => ∃ k : Nat, k ≤ r ∧ i = .int .i64 k ∧ FsH w wr fb mb (cs2 x) (2 + k)) (fun i _ => r - (intOf i).toNat)
  case atStart => exact ⟨0, Nat.zero_le _, rfl, H2.out⟩
  case round =>
    clear H2
    obtain ⟨k, hk, rfl, h2⟩ := hrel
    have H2 := Lib.hid h2
    clear h2
    by_cases hlt : k < r
    · go_wp2_with fail
      refine (append_h (H2.out.alloc.alloc) (by omega) nt [120, 121, 122] [(nt, 2)] (some ⟨wr.heap.size, 0, none⟩) 3 3 (some ⟨wr.heap.size + 1, 0, none⟩) 1 1 (by decide) (by omega) (by omega) ((bs_lit (l := [120, 121, 122]) (by intro x hx; simp at hx; omega) (by decide) rfl).alloc _) ((U8.lit rfl).below (bl_alloc (Below.refl _ _))) (Grd.one (by simp) nt (by decide) 2)).mono ?_
      rintro e w4 ⟨rfl, h1, o1⟩
      rw [cs2_a x] at h1 ⊢
      have H3 := Lib.hid h1
      clear h1 o1 H2
      go_wp2_with fail
      exact ⟨⟨k + 1, by omega, by go_num, H3.out⟩, by simp [intOf]; omega⟩
    · have hkr : k = r := by omega
      subst hkr
      have hmk := make_ints (P := Try.prog) (kn := .i64) Try.underlying28 u8i n (by omega) (by omega)
      go_wp2_with fail
      refine (append_h (H2.out.alloc.alloc) (by omega) nt (zs n) [(nt, 1)] (some ⟨wr.heap.size, 0, none⟩) n n (some ⟨wr.heap.size + 1, 0, none⟩) 1 1 (by decide) (by omega) (by omega) ((bs_zs rfl (by omega)).alloc _) ((U8.lit rfl).below (bl_alloc (Below.refl _ _))) (Grd.one (by simp) nt (by decide) 1)).mono ?_
      rintro e w4 ⟨rfl, h1, o1⟩
      rw [cs2_b x] at h1 ⊢
      have H3 := Lib.hid h1
      clear h1 o1 H2
      obtain ⟨g, hg, hg0, hg1⟩ : ∃ g, gotOf x n = g ∧ 0 ≤ g ∧ g ≤ n := ⟨_, rfl, by unfold gotOf; omega, by unfold gotOf; omega⟩
      have hmm : min (max x 0) (n : Int) = g := hg
      have hu := cs3_used x n
      have hst := cs3_st x n
      rw [hg] at hu hst
      have Hu := Lib.hid hu
      have Hst := Lib.hid hst
      have Hg := Lib.hid hg
      clear hu hst hg
      go_wp2_with fail
      refine (used_h H3.out).mono ?_
      rintro e w' ⟨rfl, rfl⟩
      rw [Hu.out]
      clear hmm
      obtain ⟨L, hL⟩ : ∃ L, (cs3 x n).last + 1 = L := ⟨_, rfl⟩
      have hc := cs3_c x n hn1
      have hu4 := cs4_used x n
      have hs4 := cs4_st x n
      rw [hL] at hc hs4
      rw [Hg.out] at hu4
      have Hc := Lib.hid hc
      have Hu4 := Lib.hid hu4
      have Hs4 := Lib.hid hs4
      clear hc hu4 hs4 hL
      have hgn : IntKind.i64.wrap (2 + g + (n : Int)) = 2 + g + (n : Int) := by rw [IntKind.wrap_i64]; omega
      by_cases h00 : g = 0
      · subst h00
        rw [if_pos rfl] at Hst
        (go_wp2_with fail; refine (stamp_h H3.out nt (by decide)).mono ?_; rintro e w' ⟨rfl, rfl⟩; rw [Hst.out]; go_wp2_with fail; refine (append_h H3.out.alloc (by omega) nt (zs n) [] (some ⟨w4.heap.size, 0, none⟩) n n none 0 0 (by decide) (by omega) (by omega) (bs_zs rfl (by omega)) (U8.lit rfl) (Grd.nil _)).mono ?_; rintro e w5 ⟨rfl, h1, o1⟩; rw [Hc.out] at h1 ⊢; have H4 := Lib.hid h1; clear h1 o1 H3; go_wp2_with fail; refine (used_h H4.out).mono ?_; rintro e w' ⟨rfl, rfl⟩; rw [Hu4.out]; go_wp2_with fail; refine (stamp_h H4.out nt (by decide)).mono ?_; rintro e w' ⟨rfl, rfl⟩; rw [Hs4.out]; go_wp2_with fail; refine (awake9_any _).mono ?_; rintro e w6 ⟨rfl, hb6⟩; have Hb := Lib.hid (H4.out.bel.trans (hb6.mono H4.out.bel.size)); clear hb6 H4; go_wp2_with fail; go_ret; exact ⟨rfl, Hb.out⟩)
      · rw [if_neg h00] at Hst
        have hgb : (g == 0) = false := by rw [beq_eq_false_iff_ne]; exact h00
        (go_wp2_with fail; refine (stamp_h H3.out nt (by decide)).mono ?_; rintro e w' ⟨rfl, rfl⟩; rw [Hst.out]; go_wp2_with fail; refine (append_h H3.out.alloc (by omega) nt (zs n) [] (some ⟨w4.heap.size, 0, none⟩) n n none 0 0 (by decide) (by omega) (by omega) (bs_zs rfl (by omega)) (U8.lit rfl) (Grd.nil _)).mono ?_; rintro e w5 ⟨rfl, h1, o1⟩; rw [Hc.out] at h1 ⊢; have H4 := Lib.hid h1; clear h1 o1 H3; go_wp2_with fail; refine (used_h H4.out).mono ?_; rintro e w' ⟨rfl, rfl⟩; rw [Hu4.out]; go_wp2_with fail; refine (stamp_h H4.out nt (by decide)).mono ?_; rintro e w' ⟨rfl, rfl⟩; rw [Hs4.out]; go_wp2_with fail; refine (awake9_any _).mono ?_; rintro e w6 ⟨rfl, hb6⟩; have Hb := Lib.hid (H4.out.bel.trans (hb6.mono H4.out.bel.size)); clear hb6 H4; go_wp2_with fail; go_ret; exact ⟨rfl, Hb.out⟩)
theorem simfcut_row {a b c : Int} (_ : (Lit.int .i64 a).wf = true) (_ : (Lit.int .i64 b).wf = true) (_ : (Lit.int .i64 c).wf = true) (w : World) : Calls Try.prog 9 #[.int .i64 a, .int .i64 b, .int .i64 c] w fun e w' => e = .returned (.bool true) ∧ Below w.heap.size w w' := simfcut_any a b c w
end Go.Proofs.Ytebplbnkjpffpaa
