/- SimfRoom: plain law and walk. -/
import Derived.Test.YtgegflgmdcdkbaaSCut
namespace Go.Proofs.Ytgegflgmdcdkbaa
set_option linter.unusedSimpArgs false
set_option linter.unusedVariables false
open Go.RowKit
open Crc (Bytes)

theorem Fs.write_by (S : Fs) (s t : ByteArray) (l : List Int) : (S.write s l).by t = if t.data.toList = s.data.toList then l else S.by t := by
  unfold Fs.by Fs.write Fs.put
  simp only
  by_cases h : t.data.toList = s.data.toList
  · rw [if_pos h, if_pos h]
  · rw [if_neg h, if_neg h]
theorem Fs.write_has (S : Fs) (s t : ByteArray) (l : List Int) : (S.write s l).has t = if t.data.toList = s.data.toList then true else S.has t := by
  unfold Fs.has Fs.write Fs.put
  simp only
  by_cases h : t.data.toList = s.data.toList
  · rw [if_pos h, if_pos h]; rfl
  · rw [if_neg h, if_neg h]
theorem Fs.gone_by (S : Fs) (s t : ByteArray) : (S.gone s).by t = if t.data.toList = s.data.toList then [] else S.by t := by
  unfold Fs.by Fs.gone Fs.rm
  simp only
  by_cases h : t.data.toList = s.data.toList
  · rw [if_pos h, if_pos h]
  · rw [if_neg h, if_neg h]
theorem Fs.gone_has (S : Fs) (s t : ByteArray) : (S.gone s).has t = if t.data.toList = s.data.toList then false else S.has t := by
  unfold Fs.has Fs.gone Fs.rm
  simp only
  by_cases h : t.data.toList = s.data.toList
  · rw [if_pos h, if_pos h]; rfl
  · rw [if_neg h, if_neg h]
theorem Fs.write_used (S : Fs) (s : ByteArray) (l : List Int) : (S.write s l).used = S.used + ((l.length : Int) - ((S.by s).length : Int)) := rfl
theorem Fs.gone_used (S : Fs) (s : ByteArray) : (S.gone s).used = S.used - ((S.by s).length : Int) := rfl
theorem Fs.by_no (S : Fs) (s : ByteArray) (h : S.has s = false) : S.by s = [] := by
  unfold Fs.has at h
  unfold Fs.by
  cases hm : S.m s.data.toList with
  | none => rfl
  | some x => rw [hm] at h; cases h
theorem Fs.fits_of (S : Fs) (s : ByteArray) (n : Nat) (b : Bool) (h : ((n : Int) - ((S.by s).length : Int) ≤ 0 ∨ S.used + ((n : Int) - ((S.by s).length : Int)) ≤ S.room) ↔ b = true) : S.fits s n = b := by
  unfold Fs.fits
  cases b
  · simp only [Bool.false_eq_true, iff_false, not_or] at h
    simp [h.1, h.2]
  · simp only [iff_true] at h
    rcases h with h | h <;> simp [h]

def nB : ByteArray := ⟨#[98]⟩
def nC : ByteArray := ⟨#[99]⟩
def nD : ByteArray := ⟨#[100]⟩
/-- What is known of the files on the way. -/
structure RF (S : Fs) (room used : Int) (a : Nat) (h : Bool) : Prop where
  room : S.room = room
  used : S.used = used
  cuts : S.cuts = false
  bya : S.by nA = zs a
  hasa : S.has nA = h
  hasc : S.has nC = false
  hasd : S.has nD = false
theorem rf_put1 (r n : Nat) (hr : r < 512) : ∃ S', (fs0 r).putF nA (zs n) = ((if n ≤ r then 1 else 0, if n ≤ r then 0 else 2), S') ∧ RF S' r (if n ≤ r then n else 0 : Nat) (if n ≤ r then n else 0) (decide (n ≤ r)) ∧ (¬ n ≤ r → S'.st nA = 0) ∧ (fs0 r).by nB = [] ∧ S'.by nB = [] := by
  have hro : roomOf r = r := by unfold roomOf; omega
  have hf : fileB nA = true := by kernel_rfl
  unfold Fs.putF
  rw [zs_len, hf]
  by_cases h : n ≤ r
  · have hfit : (fs0 r).fits nA n = true := Fs.fits_of _ _ _ _ (by
      show ((n : Int) - 0 ≤ 0 ∨ 0 + ((n : Int) - 0) ≤ roomOf r) ↔ _
      rw [hro]; simp; omega)
    rw [hfit]
    simp only [h, if_true, if_false, Bool.true_eq_false, decide_true]
    refine ⟨_, rfl, ⟨hro, ?_, rfl, rfl, rfl, rfl, rfl⟩, fun e => absurd trivial e, rfl, rfl⟩
    show (0 : Int) + (((zs n).length : Int) - 0) = n
    rw [zs_len]; omega
  · have hfit : (fs0 r).fits nA n = false := Fs.fits_of _ _ _ _ (by
      show ((n : Int) - 0 ≤ 0 ∨ 0 + ((n : Int) - 0) ≤ roomOf r) ↔ _
      rw [hro]; simp; omega)
    rw [hfit]
    simp only [h, if_true, if_false, Bool.true_eq_false, decide_false]
    exact ⟨_, rfl, ⟨hro, rfl, rfl, rfl, rfl, rfl, rfl⟩, fun _ => rfl, rfl, rfl⟩
theorem rf_app (S : Fs) (r a m : Nat) (h : Bool) (H : RF S r a a h) (hb : S.by nB = []) (ha : a ≤ r) :
    ∃ x S', S.appF nB (zs m) [] = ((x, if a + m ≤ r then 0 else 2), S') ∧ RF S' r (a + min m (r - a) : Nat) a h := by
  have hf : fileB nB = true := by kernel_rfl
  have hbad : S.bad [] = false := rfl
  have hw : ∀ l : List Int, (l.length : Int) = (min m (r - a) : Nat) → RF (S.write nB l) r (a + min m (r - a) : Nat) a h := fun l hl =>
    ⟨H.room, by rw [Fs.write_used, hb, H.used, hl]; simp, H.cuts, by rw [Fs.write_by, if_neg (by decide)]; exact H.bya, by rw [Fs.write_has, if_neg (by decide)]; exact H.hasa, by rw [Fs.write_has, if_neg (by decide)]; exact H.hasc, by rw [Fs.write_has, if_neg (by decide)]; exact H.hasd⟩
  by_cases hm : a + m ≤ r
  · have hmid : S.mid m = (((m : Int), 0), S) := by
      unfold Fs.mid
      rw [H.cuts, H.room, H.used, if_neg (by simp), if_neg (by omega)]
    unfold Fs.appF
    rw [zs_len, hf, hbad, hb, hmid, if_neg (by simp), if_neg (by simp), if_neg (by simp), if_pos hm]
    refine ⟨_, _, rfl, hw _ ?_⟩
    simp [zs]
    omega
  · have hmx : max ((r : Int) - (a : Int)) 0 = ((r - a : Nat) : Int) := by omega
    have hmid : S.mid m = ((((r - a : Nat) : Int), 2), S) := by
      unfold Fs.mid
      rw [H.cuts, H.room, H.used, if_neg (by simp), if_pos (by omega), hmx]
    unfold Fs.appF
    rw [zs_len, hf, hbad, hb, hmid, if_neg (by simp), if_neg (by simp), if_neg hm]
    by_cases h0 : r - a = 0
    · rw [if_pos ⟨by simp, by rw [h0]; rfl⟩]
      refine ⟨_, _, rfl, H.room, ?_, H.cuts, H.bya, H.hasa, H.hasc, H.hasd⟩
      rw [H.used, h0]; simp
    · rw [if_neg (fun h => h0 (by have := h.2; simp at this; omega))]
      refine ⟨_, _, rfl, hw _ ?_⟩
      simp [zs]
      omega
/-- Put of one byte as "c", and its end. -/
theorem rf_c (S : Fs) (q u : Nat) (a : Nat) (h : Bool) (H : RF S q u a h) :
    ∃ x S' S'', S.putF nC [1] = ((x, if u + 1 ≤ q then 0 else 2), S') ∧ (S'.dropF nC []).2 = S'' ∧ RF S'' q u a h := by
  have hf : fileB nC = true := by kernel_rfl
  have hby : S.by nC = [] := S.by_no nC H.hasc
  have hfit : S.fits nC 1 = decide (u + 1 ≤ q) := S.fits_of _ _ _ (by
    rw [hby, H.used, H.room]; simp; omega)
  unfold Fs.putF
  rw [hf, show ([1] : List Int).length = 1 from rfl, hfit]
  by_cases hu : u + 1 ≤ q
  · simp only [hu, decide_true, Bool.true_eq_false, if_false, if_true]
    refine ⟨_, _, _, rfl, rfl, ?_⟩
    have hh : (S.write nC [1]).has nC = true := by rw [Fs.write_has, if_pos rfl]
    unfold Fs.dropF
    rw [hf, hh, show (S.write nC [1]).bad [] = false from rfl, if_neg (by simp), if_neg (by simp), if_neg (by simp)]
    refine ⟨H.room, ?_, H.cuts, ?_, ?_, ?_, ?_⟩
    · show ((S.write nC [1]).gone nC).used = _
      rw [Fs.gone_used, Fs.write_used, Fs.write_by, if_pos rfl, hby, H.used]; simp
    · show ((S.write nC [1]).gone nC).by nA = _
      rw [Fs.gone_by, if_neg (by decide), Fs.write_by, if_neg (by decide)]; exact H.bya
    · show ((S.write nC [1]).gone nC).has nA = _
      rw [Fs.gone_has, if_neg (by decide), Fs.write_has, if_neg (by decide)]; exact H.hasa
    · show ((S.write nC [1]).gone nC).has nC = _
      rw [Fs.gone_has, if_pos rfl]
    · show ((S.write nC [1]).gone nC).has nD = _
      rw [Fs.gone_has, if_neg (by decide), Fs.write_has, if_neg (by decide)]; exact H.hasd
  · simp only [hu, decide_false, Bool.true_eq_false, if_false, if_true]
    refine ⟨_, _, _, rfl, rfl, ?_⟩
    unfold Fs.dropF
    rw [hf, H.hasc, show S.bad [] = false from rfl, if_neg (by simp), if_neg (by simp), if_pos rfl]
    exact H
/-- Put shorter, and moved. -/
theorem rf_move (S : Fs) (q u a : Nat) (H : RF S q u a true) (ha : 0 < a) (hau : a ≤ u) :
    ∃ x y S' S'', S.putF nA (zs (a - 1)) = ((x, 0), S') ∧ S'.used = (u : Int) - 1 ∧ S'.moveF nA nD [] = ((y, 0), S'') ∧ S''.used = (u : Int) - 1 := by
  have hf : fileB nA = true := by kernel_rfl
  have hfd : fileB nD = true := by kernel_rfl
  have hfit : S.fits nA (a - 1) = true := S.fits_of _ _ _ (by rw [H.bya, zs_len]; simp; left; omega)
  have hus : (S.write nA (zs (a - 1))).used = (u : Int) - 1 := by rw [Fs.write_used, zs_len, H.bya, zs_len, H.used]; omega
  have hh : (S.write nA (zs (a - 1))).has nA = true := by rw [Fs.write_has, if_pos rfl]
  have hnd : nA ≠ nD := by decide
  refine ⟨S.last + 1, (S.write nA (zs (a - 1))).last + 1, S.write nA (zs (a - 1)), ((S.write nA (zs (a - 1))).gone nA).write nD ((S.write nA (zs (a - 1))).by nA), ?_, hus, ?_, ?_⟩
  · unfold Fs.putF
    rw [hf, zs_len, hfit, if_neg (by simp), if_neg (by simp)]
  · unfold Fs.moveF
    rw [hf, hfd, hh, show (S.write nA (zs (a - 1))).bad [] = false from rfl, if_neg (by simp [hnd]), if_neg (by simp), if_neg (by simp)]
  · rw [Fs.write_used, Fs.gone_used, Fs.gone_by, if_neg (by decide), Fs.write_by, if_pos rfl, Fs.write_by, if_neg (by decide), S.by_no nD H.hasd, hus]
    simp
set_option maxRecDepth 100000 in
set_option maxHeartbeats 4000000 in
theorem simfroom_any (room0 n0 m0 less0 : Int) (w : World) : Calls Try.prog 4 #[.int .i64 room0, .int .i64 n0, .int .i64 m0, .int .i64 less0] w fun e w' => e = .returned (.bool true) ∧ Below w.heap.size w w' := by
  obtain ⟨r, hr, hr1⟩ := maskN 9 (by decide) room0 511 (by decide)
  obtain ⟨n, hn, hn1⟩ := maskN 9 (by decide) n0 511 (by decide)
  obtain ⟨m, hm, hm1⟩ := maskN 9 (by decide) m0 511 (by decide)
  obtain ⟨q, hq, hq1⟩ := maskN 6 (by decide) less0 63 (by decide)
  obtain ⟨S1, hp1, F1, hs1, -, hb1⟩ := rf_put1 r n hr1
  have Hp1 := Lib.hid hp1
  have HF1 := Lib.hid F1
  have hmk := make_ints (P := Try.prog) (kn := .i64) Try.underlying22 u8i n (by omega) (by omega)
  have hmk2 := make_ints (P := Try.prog) (kn := .i64) Try.underlying22 u8i m (by omega) (by omega)
  clear hp1 F1
  go_enter Try.func4, Try.ntmps4
  go_wp2_with fail
  refine (new_h w r).mono ?_
  rintro e w1 ⟨fb, mb, rfl, h0⟩
  have H0 := Lib.hid h0
  clear h0
  go_wp2_with fail
  refine (put_h H0.out.alloc (by omega) nA (zs n) (some ⟨w1.heap.size, 0, none⟩) n n (by decide) (by omega) (bs_zs rfl (by omega))).mono ?_
  rintro e w2 ⟨rfl, h1, o1⟩
  rw [Hp1.out] at h1 ⊢
  have H1 := Lib.hid h1
  clear h1 o1 H0
  by_cases hnr : n ≤ r
  · rw [if_pos hnr, if_pos hnr]
    rw [if_pos hnr, decide_eq_true hnr] at HF1
    obtain ⟨y, S2, ha2, F2⟩ := rf_app S1 r n m true HF1.out hb1 hnr
    obtain ⟨g, hg⟩ : ∃ g : Nat, min m (r - n) = g := ⟨_, rfl⟩
    have hgi : min (m : Int) ((r : Int) - (n : Int)) = (g : Int) := by omega
    have hgm : g ≤ m := by omega
    rw [hg] at F2
    have HF2 := Lib.hid F2
    have Ha2 := Lib.hid ha2
    clear F2 ha2 hs1 hb1 hg HF1
    go_wp2_with fail
    refine (append_h H1.out.alloc (by omega) nB (zs m) [] (some ⟨w2.heap.size, 0, none⟩) m m none 0 0 (by decide) (by omega) (by omega) (bs_zs rfl (by omega)) (U8.lit rfl) (Grd.nil _)).mono ?_
    rintro e w3 ⟨rfl, h1, o1⟩
    rw [Ha2.out] at h1 ⊢
    have H2 := Lib.hid h1
    clear h1 o1 H1 Ha2
    have hu1 : IntKind.i64.wrap ((n : Int) + (g : Int)) = (n : Int) + (g : Int) := by rw [IntKind.wrap_i64]; omega
    by_cases hnm : n + m ≤ r
    · rw [if_pos hnm]
      have hnm2 : (n : Int) + (m : Int) ≤ (r : Int) := by omega
      (go_wp2_with fail; refine (used_h H2.out).mono ?_; rintro e w' ⟨rfl, rfl⟩; rw [HF2.out.used, show (((n + g : Nat) : Int)) = (n : Int) + (g : Int) by omega]; go_wp2_with fail; refine (room_h H2.out (by omega) q).mono ?_; rintro e w4 ⟨rfl, h1, o1⟩; have HF3 := Lib.hid (show RF { S2 with room := roomOf q } q (n + g : Nat) n true from ⟨(by show roomOf q = q; unfold roomOf; omega), HF2.out.used, HF2.out.cuts, HF2.out.bya, HF2.out.hasa, HF2.out.hasc, HF2.out.hasd⟩); have H3 := Lib.hid h1; clear h1 o1 H2 hgi; obtain ⟨x3, S4, S5, hc4, hc5, F5⟩ := rf_c _ q (n + g) n true HF3.out; have Hc4 := Lib.hid hc4; have Hc5 := Lib.hid hc5; have HF5 := Lib.hid F5; clear hc4 hc5 F5; go_wp2_with fail; refine (used_h H3.out).mono ?_; rintro e w' ⟨rfl, rfl⟩; rw [HF3.out.used, show (((n + g : Nat) : Int)) = (n : Int) + (g : Int) by omega]; go_wp2_with fail; refine (put_h H3.out.alloc (by omega) nC [1] (some ⟨w4.heap.size, 0, none⟩) 1 1 (by decide) (by omega) (bs_lit (l := [1]) (by intro x hx; simp at hx; omega) (by decide) rfl)).mono ?_; rintro e w5 ⟨rfl, h1, o1⟩; rw [Hc4.out] at h1 ⊢; have H4 := Lib.hid h1; clear h1 o1 H3 Hc4; have hu2 : IntKind.i64.wrap ((n : Int) + (g : Int) + 1) = (n : Int) + (g : Int) + 1 := (by rw [IntKind.wrap_i64]; omega); by_cases hq5 : n + g + 1 ≤ q; (focus (rw [if_pos hq5]; have hq6 : (n : Int) + (g : Int) + 1 ≤ (q : Int) := (by omega); (go_wp2_with fail; refine (drop_h H4.out (by omega) nC [] none 0 0 (by decide) (Grd.nil _)).mono ?_; rintro e w6 ⟨rfl, h1, o1⟩; rw [Hc5.out] at h1; have H5 := Lib.hid h1; clear h1 o1 H4 Hc5 HF3 HF2; by_cases hn00 : 0 < n; (focus (have hmk3 := make_ints (P := Try.prog) (kn := .i64) Try.underlying22 u8i (n - 1) (by omega) (by omega); rw [show (((n - 1 : Nat) : Int)) = (n : Int) - 1 by omega] at hmk3; obtain ⟨x5, x6, S6, S7, hd1, hd2, hd3, hd4⟩ := rf_move S5 q (n + g) n HF5.out hn00 (by omega); rw [show (((n + g : Nat) : Int)) - 1 = (n : Int) - 1 + (g : Int) by omega] at hd2 hd4; have Hd1 := Lib.hid hd1; have Hd2 := Lib.hid hd2; have Hd3 := Lib.hid hd3; have Hd4 := Lib.hid hd4; clear hd1 hd2 hd3 hd4; have hnn : (0 : Int) < (n : Int) := (by omega); go_wp2_with fail; refine (put_h H5.out.alloc (by omega) nA (zs (n - 1)) (some ⟨w6.heap.size, 0, none⟩) (n - 1) (n - 1) (by decide) (by omega) (bs_zs rfl (by omega))).mono ?_; rintro e w7 ⟨rfl, h1, o1⟩; rw [Hd1.out] at h1 ⊢; have H6 := Lib.hid h1; clear h1 o1 H5; go_wp2_with fail; refine (used_h H6.out).mono ?_; rintro e w' ⟨rfl, rfl⟩; rw [Hd2.out]; go_wp2_with fail; refine (move_h H6.out (by omega) nA nD [] none 0 0 (by decide) (by decide) (Grd.nil _)).mono ?_; rintro e w8 ⟨rfl, h1, o1⟩; rw [Hd3.out] at h1 ⊢; have H7 := Lib.hid h1; clear h1 o1 H6; go_wp2_with fail; refine (used_h H7.out).mono ?_; rintro e w' ⟨rfl, rfl⟩; rw [Hd4.out]; go_wp2_with fail; refine (awake9_any _).mono ?_; rintro e w9 ⟨rfl, hb9⟩; have Hb := Lib.hid (H7.out.bel.trans (hb9.mono H7.out.bel.size)); clear hb9 H7; go_wp2_with fail; go_ret; exact ⟨rfl, Hb.out⟩)); (focus (go_wp2_with fail; refine (awake9_any _).mono ?_; rintro e w9 ⟨rfl, hb9⟩; have Hb := Lib.hid (H5.out.bel.trans (hb9.mono H5.out.bel.size)); clear hb9 H5; go_wp2_with fail; go_ret; exact ⟨rfl, Hb.out⟩))))); (focus (rw [if_neg hq5]; have hq6 : ¬ (n : Int) + (g : Int) + 1 ≤ (q : Int) := (by omega); (go_wp2_with fail; refine (drop_h H4.out (by omega) nC [] none 0 0 (by decide) (Grd.nil _)).mono ?_; rintro e w6 ⟨rfl, h1, o1⟩; rw [Hc5.out] at h1; have H5 := Lib.hid h1; clear h1 o1 H4 Hc5 HF3 HF2; by_cases hn00 : 0 < n; (focus (have hmk3 := make_ints (P := Try.prog) (kn := .i64) Try.underlying22 u8i (n - 1) (by omega) (by omega); rw [show (((n - 1 : Nat) : Int)) = (n : Int) - 1 by omega] at hmk3; obtain ⟨x5, x6, S6, S7, hd1, hd2, hd3, hd4⟩ := rf_move S5 q (n + g) n HF5.out hn00 (by omega); rw [show (((n + g : Nat) : Int)) - 1 = (n : Int) - 1 + (g : Int) by omega] at hd2 hd4; have Hd1 := Lib.hid hd1; have Hd2 := Lib.hid hd2; have Hd3 := Lib.hid hd3; have Hd4 := Lib.hid hd4; clear hd1 hd2 hd3 hd4; have hnn : (0 : Int) < (n : Int) := (by omega); go_wp2_with fail; refine (put_h H5.out.alloc (by omega) nA (zs (n - 1)) (some ⟨w6.heap.size, 0, none⟩) (n - 1) (n - 1) (by decide) (by omega) (bs_zs rfl (by omega))).mono ?_; rintro e w7 ⟨rfl, h1, o1⟩; rw [Hd1.out] at h1 ⊢; have H6 := Lib.hid h1; clear h1 o1 H5; go_wp2_with fail; refine (used_h H6.out).mono ?_; rintro e w' ⟨rfl, rfl⟩; rw [Hd2.out]; go_wp2_with fail; refine (move_h H6.out (by omega) nA nD [] none 0 0 (by decide) (by decide) (Grd.nil _)).mono ?_; rintro e w8 ⟨rfl, h1, o1⟩; rw [Hd3.out] at h1 ⊢; have H7 := Lib.hid h1; clear h1 o1 H6; go_wp2_with fail; refine (used_h H7.out).mono ?_; rintro e w' ⟨rfl, rfl⟩; rw [Hd4.out]; go_wp2_with fail; refine (awake9_any _).mono ?_; rintro e w9 ⟨rfl, hb9⟩; have Hb := Lib.hid (H7.out.bel.trans (hb9.mono H7.out.bel.size)); clear hb9 H7; go_wp2_with fail; go_ret; exact ⟨rfl, Hb.out⟩)); (focus (go_wp2_with fail; refine (awake9_any _).mono ?_; rintro e w9 ⟨rfl, hb9⟩; have Hb := Lib.hid (H5.out.bel.trans (hb9.mono H5.out.bel.size)); clear hb9 H5; go_wp2_with fail; go_ret; exact ⟨rfl, Hb.out⟩))))))
    · rw [if_neg hnm]
      have hnm2 : ¬ (n : Int) + (m : Int) ≤ (r : Int) := by omega
      (go_wp2_with fail; refine (used_h H2.out).mono ?_; rintro e w' ⟨rfl, rfl⟩; rw [HF2.out.used, show (((n + g : Nat) : Int)) = (n : Int) + (g : Int) by omega]; go_wp2_with fail; refine (room_h H2.out (by omega) q).mono ?_; rintro e w4 ⟨rfl, h1, o1⟩; have HF3 := Lib.hid (show RF { S2 with room := roomOf q } q (n + g : Nat) n true from ⟨(by show roomOf q = q; unfold roomOf; omega), HF2.out.used, HF2.out.cuts, HF2.out.bya, HF2.out.hasa, HF2.out.hasc, HF2.out.hasd⟩); have H3 := Lib.hid h1; clear h1 o1 H2 hgi; obtain ⟨x3, S4, S5, hc4, hc5, F5⟩ := rf_c _ q (n + g) n true HF3.out; have Hc4 := Lib.hid hc4; have Hc5 := Lib.hid hc5; have HF5 := Lib.hid F5; clear hc4 hc5 F5; go_wp2_with fail; refine (used_h H3.out).mono ?_; rintro e w' ⟨rfl, rfl⟩; rw [HF3.out.used, show (((n + g : Nat) : Int)) = (n : Int) + (g : Int) by omega]; go_wp2_with fail; refine (put_h H3.out.alloc (by omega) nC [1] (some ⟨w4.heap.size, 0, none⟩) 1 1 (by decide) (by omega) (bs_lit (l := [1]) (by intro x hx; simp at hx; omega) (by decide) rfl)).mono ?_; rintro e w5 ⟨rfl, h1, o1⟩; rw [Hc4.out] at h1 ⊢; have H4 := Lib.hid h1; clear h1 o1 H3 Hc4; have hu2 : IntKind.i64.wrap ((n : Int) + (g : Int) + 1) = (n : Int) + (g : Int) + 1 := (by rw [IntKind.wrap_i64]; omega); by_cases hq5 : n + g + 1 ≤ q; (focus (rw [if_pos hq5]; have hq6 : (n : Int) + (g : Int) + 1 ≤ (q : Int) := (by omega); (go_wp2_with fail; refine (drop_h H4.out (by omega) nC [] none 0 0 (by decide) (Grd.nil _)).mono ?_; rintro e w6 ⟨rfl, h1, o1⟩; rw [Hc5.out] at h1; have H5 := Lib.hid h1; clear h1 o1 H4 Hc5 HF3 HF2; by_cases hn00 : 0 < n; (focus (have hmk3 := make_ints (P := Try.prog) (kn := .i64) Try.underlying22 u8i (n - 1) (by omega) (by omega); rw [show (((n - 1 : Nat) : Int)) = (n : Int) - 1 by omega] at hmk3; obtain ⟨x5, x6, S6, S7, hd1, hd2, hd3, hd4⟩ := rf_move S5 q (n + g) n HF5.out hn00 (by omega); rw [show (((n + g : Nat) : Int)) - 1 = (n : Int) - 1 + (g : Int) by omega] at hd2 hd4; have Hd1 := Lib.hid hd1; have Hd2 := Lib.hid hd2; have Hd3 := Lib.hid hd3; have Hd4 := Lib.hid hd4; clear hd1 hd2 hd3 hd4; have hnn : (0 : Int) < (n : Int) := (by omega); go_wp2_with fail; refine (put_h H5.out.alloc (by omega) nA (zs (n - 1)) (some ⟨w6.heap.size, 0, none⟩) (n - 1) (n - 1) (by decide) (by omega) (bs_zs rfl (by omega))).mono ?_; rintro e w7 ⟨rfl, h1, o1⟩; rw [Hd1.out] at h1 ⊢; have H6 := Lib.hid h1; clear h1 o1 H5; go_wp2_with fail; refine (used_h H6.out).mono ?_; rintro e w' ⟨rfl, rfl⟩; rw [Hd2.out]; go_wp2_with fail; refine (move_h H6.out (by omega) nA nD [] none 0 0 (by decide) (by decide) (Grd.nil _)).mono ?_; rintro e w8 ⟨rfl, h1, o1⟩; rw [Hd3.out] at h1 ⊢; have H7 := Lib.hid h1; clear h1 o1 H6; go_wp2_with fail; refine (used_h H7.out).mono ?_; rintro e w' ⟨rfl, rfl⟩; rw [Hd4.out]; go_wp2_with fail; refine (awake9_any _).mono ?_; rintro e w9 ⟨rfl, hb9⟩; have Hb := Lib.hid (H7.out.bel.trans (hb9.mono H7.out.bel.size)); clear hb9 H7; go_wp2_with fail; go_ret; exact ⟨rfl, Hb.out⟩)); (focus (go_wp2_with fail; refine (awake9_any _).mono ?_; rintro e w9 ⟨rfl, hb9⟩; have Hb := Lib.hid (H5.out.bel.trans (hb9.mono H5.out.bel.size)); clear hb9 H5; go_wp2_with fail; go_ret; exact ⟨rfl, Hb.out⟩))))); (focus (rw [if_neg hq5]; have hq6 : ¬ (n : Int) + (g : Int) + 1 ≤ (q : Int) := (by omega); (go_wp2_with fail; refine (drop_h H4.out (by omega) nC [] none 0 0 (by decide) (Grd.nil _)).mono ?_; rintro e w6 ⟨rfl, h1, o1⟩; rw [Hc5.out] at h1; have H5 := Lib.hid h1; clear h1 o1 H4 Hc5 HF3 HF2; by_cases hn00 : 0 < n; (focus (have hmk3 := make_ints (P := Try.prog) (kn := .i64) Try.underlying22 u8i (n - 1) (by omega) (by omega); rw [show (((n - 1 : Nat) : Int)) = (n : Int) - 1 by omega] at hmk3; obtain ⟨x5, x6, S6, S7, hd1, hd2, hd3, hd4⟩ := rf_move S5 q (n + g) n HF5.out hn00 (by omega); rw [show (((n + g : Nat) : Int)) - 1 = (n : Int) - 1 + (g : Int) by omega] at hd2 hd4; have Hd1 := Lib.hid hd1; have Hd2 := Lib.hid hd2; have Hd3 := Lib.hid hd3; have Hd4 := Lib.hid hd4; clear hd1 hd2 hd3 hd4; have hnn : (0 : Int) < (n : Int) := (by omega); go_wp2_with fail; refine (put_h H5.out.alloc (by omega) nA (zs (n - 1)) (some ⟨w6.heap.size, 0, none⟩) (n - 1) (n - 1) (by decide) (by omega) (bs_zs rfl (by omega))).mono ?_; rintro e w7 ⟨rfl, h1, o1⟩; rw [Hd1.out] at h1 ⊢; have H6 := Lib.hid h1; clear h1 o1 H5; go_wp2_with fail; refine (used_h H6.out).mono ?_; rintro e w' ⟨rfl, rfl⟩; rw [Hd2.out]; go_wp2_with fail; refine (move_h H6.out (by omega) nA nD [] none 0 0 (by decide) (by decide) (Grd.nil _)).mono ?_; rintro e w8 ⟨rfl, h1, o1⟩; rw [Hd3.out] at h1 ⊢; have H7 := Lib.hid h1; clear h1 o1 H6; go_wp2_with fail; refine (used_h H7.out).mono ?_; rintro e w' ⟨rfl, rfl⟩; rw [Hd4.out]; go_wp2_with fail; refine (awake9_any _).mono ?_; rintro e w9 ⟨rfl, hb9⟩; have Hb := Lib.hid (H7.out.bel.trans (hb9.mono H7.out.bel.size)); clear hb9 H7; go_wp2_with fail; go_ret; exact ⟨rfl, Hb.out⟩)); (focus (go_wp2_with fail; refine (awake9_any _).mono ?_; rintro e w9 ⟨rfl, hb9⟩; have Hb := Lib.hid (H5.out.bel.trans (hb9.mono H5.out.bel.size)); clear hb9 H5; go_wp2_with fail; go_ret; exact ⟨rfl, Hb.out⟩))))))
  · rw [if_neg hnr, if_neg hnr]
    rw [if_neg hnr, decide_eq_false hnr] at HF1
    have hst := Lib.hid (hs1 hnr)
    obtain ⟨y, S2, ha2, F2⟩ := rf_app S1 r 0 m false HF1.out hb1 (Nat.zero_le _)
    go_wp2_with fail
    refine (stamp_h H1.out nA (by decide)).mono ?_
    rintro e w' ⟨rfl, rfl⟩
    rw [hst.out]
    obtain ⟨g, hg⟩ : ∃ g : Nat, min m (r - 0) = g := ⟨_, rfl⟩
    have hgi : min (m : Int) (r : Int) = (g : Int) := by omega
    have hgm : g ≤ m := by omega
    rw [hg] at F2
    have HF2 := Lib.hid F2
    have Ha2 := Lib.hid ha2
    clear F2 ha2 hs1 hb1 hg HF1
    go_wp2_with fail
    refine (append_h H1.out.alloc (by omega) nB (zs m) [] (some ⟨w2.heap.size, 0, none⟩) m m none 0 0 (by decide) (by omega) (by omega) (bs_zs rfl (by omega)) (U8.lit rfl) (Grd.nil _)).mono ?_
    rintro e w3 ⟨rfl, h1, o1⟩
    rw [Ha2.out] at h1 ⊢
    have H2 := Lib.hid h1
    clear h1 o1 H1 Ha2
    by_cases hnm : 0 + m ≤ r
    · rw [if_pos hnm]
      have hnm2 : (m : Int) ≤ (r : Int) := by omega
      (go_wp2_with fail; refine (used_h H2.out).mono ?_; rintro e w' ⟨rfl, rfl⟩; rw [HF2.out.used, show (((0 + g : Nat) : Int)) = (g : Int) by omega]; go_wp2_with fail; refine (room_h H2.out (by omega) q).mono ?_; rintro e w4 ⟨rfl, h1, o1⟩; have HF3 := Lib.hid (show RF { S2 with room := roomOf q } q (0 + g : Nat) 0 false from ⟨(by show roomOf q = q; unfold roomOf; omega), HF2.out.used, HF2.out.cuts, HF2.out.bya, HF2.out.hasa, HF2.out.hasc, HF2.out.hasd⟩); have H3 := Lib.hid h1; clear h1 o1 H2 hgi; obtain ⟨x3, S4, S5, hc4, hc5, F5⟩ := rf_c _ q (0 + g) 0 false HF3.out; have Hc4 := Lib.hid hc4; have Hc5 := Lib.hid hc5; clear hc4 hc5 F5; go_wp2_with fail; refine (used_h H3.out).mono ?_; rintro e w' ⟨rfl, rfl⟩; rw [HF3.out.used, show (((0 + g : Nat) : Int)) = (g : Int) by omega]; go_wp2_with fail; refine (put_h H3.out.alloc (by omega) nC [1] (some ⟨w4.heap.size, 0, none⟩) 1 1 (by decide) (by omega) (bs_lit (l := [1]) (by intro x hx; simp at hx; omega) (by decide) rfl)).mono ?_; rintro e w5 ⟨rfl, h1, o1⟩; rw [Hc4.out] at h1 ⊢; have H4 := Lib.hid h1; clear h1 o1 H3 Hc4; by_cases hq5 : 0 + g + 1 ≤ q; (focus (rw [if_pos hq5]; have hq6 : (g : Int) + 1 ≤ (q : Int) := (by omega); (go_wp2_with fail; refine (drop_h H4.out (by omega) nC [] none 0 0 (by decide) (Grd.nil _)).mono ?_; rintro e w6 ⟨rfl, h1, o1⟩; rw [Hc5.out] at h1; have H5 := Lib.hid h1; clear h1 o1 H4 Hc5 HF3 HF2; go_wp2_with fail; refine (awake9_any _).mono ?_; rintro e w9 ⟨rfl, hb9⟩; have Hb := Lib.hid (H5.out.bel.trans (hb9.mono H5.out.bel.size)); clear hb9 H5; go_wp2_with fail; go_ret; exact ⟨rfl, Hb.out⟩))); (focus (rw [if_neg hq5]; have hq6 : ¬ (g : Int) + 1 ≤ (q : Int) := (by omega); (go_wp2_with fail; refine (drop_h H4.out (by omega) nC [] none 0 0 (by decide) (Grd.nil _)).mono ?_; rintro e w6 ⟨rfl, h1, o1⟩; rw [Hc5.out] at h1; have H5 := Lib.hid h1; clear h1 o1 H4 Hc5 HF3 HF2; go_wp2_with fail; refine (awake9_any _).mono ?_; rintro e w9 ⟨rfl, hb9⟩; have Hb := Lib.hid (H5.out.bel.trans (hb9.mono H5.out.bel.size)); clear hb9 H5; go_wp2_with fail; go_ret; exact ⟨rfl, Hb.out⟩))))
    · rw [if_neg hnm]
      have hnm2 : ¬ (m : Int) ≤ (r : Int) := by omega
      (go_wp2_with fail; refine (used_h H2.out).mono ?_; rintro e w' ⟨rfl, rfl⟩; rw [HF2.out.used, show (((0 + g : Nat) : Int)) = (g : Int) by omega]; go_wp2_with fail; refine (room_h H2.out (by omega) q).mono ?_; rintro e w4 ⟨rfl, h1, o1⟩; have HF3 := Lib.hid (show RF { S2 with room := roomOf q } q (0 + g : Nat) 0 false from ⟨(by show roomOf q = q; unfold roomOf; omega), HF2.out.used, HF2.out.cuts, HF2.out.bya, HF2.out.hasa, HF2.out.hasc, HF2.out.hasd⟩); have H3 := Lib.hid h1; clear h1 o1 H2 hgi; obtain ⟨x3, S4, S5, hc4, hc5, F5⟩ := rf_c _ q (0 + g) 0 false HF3.out; have Hc4 := Lib.hid hc4; have Hc5 := Lib.hid hc5; clear hc4 hc5 F5; go_wp2_with fail; refine (used_h H3.out).mono ?_; rintro e w' ⟨rfl, rfl⟩; rw [HF3.out.used, show (((0 + g : Nat) : Int)) = (g : Int) by omega]; go_wp2_with fail; refine (put_h H3.out.alloc (by omega) nC [1] (some ⟨w4.heap.size, 0, none⟩) 1 1 (by decide) (by omega) (bs_lit (l := [1]) (by intro x hx; simp at hx; omega) (by decide) rfl)).mono ?_; rintro e w5 ⟨rfl, h1, o1⟩; rw [Hc4.out] at h1 ⊢; have H4 := Lib.hid h1; clear h1 o1 H3 Hc4; by_cases hq5 : 0 + g + 1 ≤ q; (focus (rw [if_pos hq5]; have hq6 : (g : Int) + 1 ≤ (q : Int) := (by omega); (go_wp2_with fail; refine (drop_h H4.out (by omega) nC [] none 0 0 (by decide) (Grd.nil _)).mono ?_; rintro e w6 ⟨rfl, h1, o1⟩; rw [Hc5.out] at h1; have H5 := Lib.hid h1; clear h1 o1 H4 Hc5 HF3 HF2; go_wp2_with fail; refine (awake9_any _).mono ?_; rintro e w9 ⟨rfl, hb9⟩; have Hb := Lib.hid (H5.out.bel.trans (hb9.mono H5.out.bel.size)); clear hb9 H5; go_wp2_with fail; go_ret; exact ⟨rfl, Hb.out⟩))); (focus (rw [if_neg hq5]; have hq6 : ¬ (g : Int) + 1 ≤ (q : Int) := (by omega); (go_wp2_with fail; refine (drop_h H4.out (by omega) nC [] none 0 0 (by decide) (Grd.nil _)).mono ?_; rintro e w6 ⟨rfl, h1, o1⟩; rw [Hc5.out] at h1; have H5 := Lib.hid h1; clear h1 o1 H4 Hc5 HF3 HF2; go_wp2_with fail; refine (awake9_any _).mono ?_; rintro e w9 ⟨rfl, hb9⟩; have Hb := Lib.hid (H5.out.bel.trans (hb9.mono H5.out.bel.size)); clear hb9 H5; go_wp2_with fail; go_ret; exact ⟨rfl, Hb.out⟩))))
theorem simfroom_row {a b c d : Int} (_ : (Lit.int .i64 a).wf = true) (_ : (Lit.int .i64 b).wf = true) (_ : (Lit.int .i64 c).wf = true) (_ : (Lit.int .i64 d).wf = true) (w : World) : Calls Try.prog 4 #[.int .i64 a, .int .i64 b, .int .i64 c, .int .i64 d] w fun e w' => e = .returned (.bool true) ∧ Below w.heap.size w w' := simfroom_any a b c d w
end Go.Proofs.Ytgegflgmdcdkbaa
