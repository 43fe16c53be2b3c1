/- The document's files (fettleref9): Put, Drop, Move. -/
import Derived.Test.YtkbgedaogfcdnaaQninF
namespace Go.Proofs.Ytkbgedaogfcdnaa
set_option linter.unusedSimpArgs false
set_option linter.unusedVariables false
open Go.RowKit
open Crc (Bytes)
theorem gone_at {w W : World} {base qb k n c m d : Nat} {S : Fs} {A B : Option Addr} {xs : List Qe} {s : ByteArray} (h : QO w base qb S k A n c xs) (hB : QB W base qb B m d (wo s xs) S.room S.last (cutV S)) (hm : m ≤ n) : QAt W base qb (S.gone s) (k + 1) := by
  have hnk := h.nk
  exact ⟨⟨B, m, d, wo s xs, hB.blk, hB.row, h.qs.gone' s, by omega, fun x hx => h.nm x (by unfold wo at hx; exact (List.mem_filter.1 hx).1)⟩, h.hb⟩
section
variable {w : World} {base qb k : Nat} {S : Fs}
set_option maxRecDepth 100000 in
set_option maxHeartbeats 2000000 in
theorem qput_any (h : QAt w base qb S k) (hf : QFin S) (hbs : base ≤ w.heap.size) (hk : k ≤ 40000) (s : ByteArray) (hs : fileB s = true → s ∈ okN) (hsz : s.size ≤ 1000) (l : List Int) (B : Option Addr) (m d : Nat) (hb : Bs w B m l) (hu : ∀ ad, B = some ad → 0 < m → ad.block ≠ qb) (hm : m ≤ 100000) :
    Calls Try.prog 12 #[.pointer (some ⟨qb, 0, none⟩), .string s, .slice B m d] w fun e w' => e = .returned (.tuple #[.int .i64 (S.putF s l).1.1, .int .i64 (S.putF s l).1.2]) ∧ QDone w base qb (S.putF s l).2 (k + 1) w' := by
  obtain ⟨A, n, c, xs, ho⟩ := h.op (by omega)
  have hl := hb.len
  have hbl := ho.by_le s
  have hnk := ho.nk
  have HB := Lib.hid hb
  have HU := Lib.hid hu
  have HO := Lib.hid ho
  have HA := Lib.hid h
  have HF := Lib.hid hf
  have Hsz := Lib.hid (show s.size ≤ 140737488355328 by omega)
  clear hb hu ho h hf hsz
  cases hfb : fileB s
  · have E := Lib.hid (show S.putF s l = ((0, 1), S) by unfold Fs.putF; rw [if_pos hfb])
    have Hfb := Lib.hid hfb
    clear hfb
    go_enter Try.func12, Try.ntmps12
    go_wp2_with fail
    refine (rfile4_any s _ Hsz.out).mono ?_
    rintro e w' ⟨rfl, rfl⟩
    rw [Hfb.out]
    go_wp2_with fail
    go_ret2
    exact ⟨by rw [E.out]; rfl, by rw [E.out]; exact QDone.stay HA.out (Below.refl _ _)⟩
  · have Hs := Lib.hid (hs hfb)
    have E0 := Lib.hid (show S.putF s l = if S.fits s l.length = false then ((0, 2), S) else ((S.last + 1, 0), S.write s l) by unfold Fs.putF; rw [if_neg (by rw [hfb]; simp)])
    have Hfb := Lib.hid hfb
    clear hfb hs
    go_enter Try.func12, Try.ntmps12
    go_wp2_with fail
    refine (rfile4_any s _ Hsz.out).mono ?_
    rintro e w' ⟨rfl, rfl⟩
    rw [Hfb.out]
    go_wp2_with fail
    refine (qfits_any s m HO.out.qs HO.out.qb_ HF.out.u1 (by omega) hbl).mono ?_
    rintro e w2 ⟨rfl, hb2⟩
    have HB2 := Lib.hid hb2
    cases hfi : S.fits s m
    · have E2 := Lib.hid (E0.out.trans (if_pos (by rw [hl]; exact hfi)))
      clear hfi hb2
      go_wp2_with fail
      go_ret2
      exact ⟨by rw [E2.out]; rfl, by rw [E2.out]; exact QDone.stay HA.out HB2.out⟩
    · have E2 := Lib.hid (E0.out.trans (if_neg (by rw [hl, hfi]; simp)))
      have hw2 := hb2.size
      clear hfi hb2
      go_wp2_with fail
      refine (qset_any s l B m d (by omega) (HO.out.qb_.below HB2.out) (HB.out.below HB2.out) HU.out (by omega) HF.out.l0 HF.out.l1 (by omega)).mono ?_
      rintro e w3 ⟨rfl, hq⟩
      have HQ := Lib.hid hq
      clear hq
      go_wp2_with fail
      go_ret2
      refine ⟨by rw [E2.out]; rfl, ?_⟩
      rw [E2.out]
      exact ⟨HQ.out.at_ HO.out.qs HO.out.nm Hs.out HO.out.nk HO.out.hb, (Only.of_below HB2.out [qb]).trans HQ.out.only⟩
set_option maxRecDepth 100000 in
set_option maxHeartbeats 2000000 in
theorem qdrop_any (h : QAt w base qb S k) (hbs : base ≤ w.heap.size) (hk : k ≤ 40000) (s : ByteArray) (hsz : s.size ≤ 1000) (gs : List (ByteArray × Int)) (Ag : Option Addr) (kg cg : Nat) (hg : Grd w Ag kg gs) :
    Calls Try.prog 18 #[.pointer (some ⟨qb, 0, none⟩), .string s, .slice Ag kg cg] w fun e w' => e = .returned (.int .i64 (S.dropF s gs).1) ∧ QDone w base qb (S.dropF s gs).2 (k + 1) w' := by
  obtain ⟨A, n, c, xs, ho⟩ := h.op (by omega)
  have HO := Lib.hid ho
  have HA := Lib.hid h
  have HG := Lib.hid hg
  have Hsz := Lib.hid (show s.size ≤ 140737488355328 by omega)
  clear ho h hsz hg
  cases hfb : fileB s
  · have E := Lib.hid (show S.dropF s gs = (1, S) by unfold Fs.dropF; rw [if_pos hfb])
    have Hfb := Lib.hid hfb
    clear hfb
    go_enter Try.func18, Try.ntmps18
    go_wp2_with fail
    refine (rfile4_any s _ Hsz.out).mono ?_
    rintro e w' ⟨rfl, rfl⟩
    rw [Hfb.out]
    go_wp2_with fail
    go_ret
    exact ⟨by rw [E.out]; rfl, by rw [E.out]; exact QDone.stay HA.out (Below.refl _ _)⟩
  · have E0 := Lib.hid (show S.dropF s gs = if S.bad gs = true then (5, S) else if S.has s = false then (4, S) else (0, S.gone s) by unfold Fs.dropF; rw [if_neg (by rw [hfb]; simp)])
    have Hfb := Lib.hid hfb
    clear hfb
    go_enter Try.func18, Try.ntmps18
    go_wp2_with fail
    refine (rfile4_any s _ Hsz.out).mono ?_
    rintro e w' ⟨rfl, rfl⟩
    rw [Hfb.out]
    go_wp2_with fail
    refine (qguarded_any HO.out.qs gs Ag kg cg HO.out.qb_ HG.out).mono ?_
    rintro e w2 ⟨rfl, hb2⟩
    have HB2 := Lib.hid hb2
    have hw2 := hb2.size
    clear hb2
    cases hbd : S.bad gs
    · have E1 := Lib.hid (E0.out.trans (if_neg (by rw [hbd]; simp)))
      clear hbd
      go_wp2_with fail
      refine (qat_any s (HO.out.qb_.below HB2.out)).mono ?_
      rintro e w' ⟨r, rfl, hr, rfl⟩
      rcases hr.has HO.out.qs with ⟨rfl, hh⟩ | ⟨i, rfl, hi, hh⟩
      · have E2 := Lib.hid (E1.out.trans (if_pos hh))
        clear hh hr
        go_wp2_with fail
        go_ret
        exact ⟨by rw [E2.out]; rfl, by rw [E2.out]; exact QDone.stay HA.out HB2.out⟩
      · have E2 := Lib.hid (E1.out.trans (if_neg (by rw [hh]; simp)))
        have hi0 : ¬ (i : Int) < 0 := by omega
        clear hh hr
        go_wp2_with fail
        refine (qgone_any s (by omega) (HO.out.qb_.below HB2.out)).mono ?_
        rintro e w3 ⟨rfl, ⟨B, m, d, hB, hm⟩, ho3⟩
        have HBB := Lib.hid hB
        have HO3 := Lib.hid ho3
        clear hB ho3
        go_wp2_with fail
        go_ret
        refine ⟨by rw [E2.out]; rfl, ?_⟩
        rw [E2.out]
        exact ⟨gone_at HO.out HBB.out hm, (Only.of_below HB2.out [qb]).trans HO3.out⟩
    · have E1 := Lib.hid (E0.out.trans (if_pos hbd))
      clear hbd
      go_wp2_with fail
      go_ret
      exact ⟨by rw [E1.out]; rfl, by rw [E1.out]; exact QDone.stay HA.out HB2.out⟩
set_option maxRecDepth 100000 in
set_option maxHeartbeats 4000000 in
theorem qmove_any (h : QAt w base qb S k) (hf : QFin S) (hbs : base ≤ w.heap.size) (hk : k ≤ 40000) (a b : ByteArray) (hb : fileB b = true → b ∈ okN) (hsa : a.size ≤ 1000) (hsb : b.size ≤ 1000) (gs : List (ByteArray × Int)) (Ag : Option Addr) (kg cg : Nat) (hg : Grd w Ag kg gs) :
    Calls Try.prog 16 #[.pointer (some ⟨qb, 0, none⟩), .string a, .string b, .slice Ag kg cg] w fun e w' => e = .returned (.tuple #[.int .i64 (S.moveF a b gs).1.1, .int .i64 (S.moveF a b gs).1.2]) ∧ QDone w base qb (S.moveF a b gs).2 (k + 2) w' := by
  obtain ⟨A, n, c, xs, ho⟩ := h.op (by omega)
  have hnk := ho.nk
  have HO := Lib.hid ho
  have HA := Lib.hid h
  have HG := Lib.hid hg
  have HF := Lib.hid hf
  have Hsa := Lib.hid (show a.size ≤ 140737488355328 by omega)
  have Hsb := Lib.hid (show b.size ≤ 140737488355328 by omega)
  have HSt := Lib.hid (show ∀ w', Below w.heap.size w w' → QDone w base qb S (k + 2) w' from fun w' hb => ⟨(h.below hb).more (by omega), Only.of_below hb [qb]⟩)
  have HBy := Lib.hid (hf.by1 a)
  clear ho h hsa hsb hg hf
  by_cases hnm : fileB a = false ∨ fileB b = false ∨ a = b
  · have E := Lib.hid (show S.moveF a b gs = ((0, 1), S) by unfold Fs.moveF; rw [if_pos hnm])
    cases ha : fileB a
    · have Ha := Lib.hid ha
      clear hnm ha
      go_enter Try.func16, Try.ntmps16
      go_wp2_with fail
      refine (rfile4_any a _ Hsa.out).mono ?_
      rintro e w' ⟨rfl, rfl⟩
      rw [Ha.out]
      go_wp2_with fail
      go_ret2
      exact ⟨by rw [E.out]; rfl, by rw [E.out]; exact HSt.out _ (Below.refl _ _)⟩
    · cases hb2 : fileB b
      · have Ha := Lib.hid ha
        have Hb2 := Lib.hid hb2
        clear hnm ha hb2
        go_enter Try.func16, Try.ntmps16
        go_wp2_with fail
        refine (rfile4_any a _ Hsa.out).mono ?_
        rintro e w' ⟨rfl, rfl⟩
        rw [Ha.out]
        go_wp2_with fail
        refine (rfile4_any b _ Hsb.out).mono ?_
        rintro e w' ⟨rfl, rfl⟩
        rw [Hb2.out]
        go_wp2_with fail
        go_ret2
        exact ⟨by rw [E.out]; rfl, by rw [E.out]; exact HSt.out _ (Below.refl _ _)⟩
      · have hab : a = b := by rcases hnm with h1 | h1 | h1; rw [ha] at h1; cases h1; rw [hb2] at h1; cases h1; exact h1
        have he : (a.toList == b.toList) = true := by rw [nm_eq]; simp [hab]
        have Ha := Lib.hid ha
        have Hb2 := Lib.hid hb2
        clear hnm ha hb2 hab
        go_enter Try.func16, Try.ntmps16
        go_wp2_with fail
        refine (rfile4_any a _ Hsa.out).mono ?_
        rintro e w' ⟨rfl, rfl⟩
        rw [Ha.out]
        go_wp2_with fail
        refine (rfile4_any b _ Hsb.out).mono ?_
        rintro e w' ⟨rfl, rfl⟩
        rw [Hb2.out]
        go_wp2_with fail
        go_ret2
        exact ⟨by rw [E.out]; rfl, by rw [E.out]; exact HSt.out _ (Below.refl _ _)⟩
  · have E0 := Lib.hid (show S.moveF a b gs = if S.bad gs = true then ((0, 5), S) else if S.has a = false then ((0, 4), S) else ((S.last + 1, 0), (S.gone a).write b (S.by a)) by unfold Fs.moveF; rw [if_neg hnm])
    have hfa : fileB a = true := by cases h : fileB a; exact absurd (.inl h) hnm; rfl
    have hfb : fileB b = true := by cases h : fileB b; exact absurd (.inr (.inl h)) hnm; rfl
    have hne : ¬ a = b := fun e => hnm (.inr (.inr e))
    have he : (a.toList == b.toList) = false := by rw [nm_eq]; simp [hne]
    have Hin := Lib.hid (hb hfb)
    have Ha := Lib.hid hfa
    have Hb2 := Lib.hid hfb
    clear hnm hfa hfb hne hb
    go_enter Try.func16, Try.ntmps16
    go_wp2_with fail
    refine (rfile4_any a _ Hsa.out).mono ?_
    rintro e w' ⟨rfl, rfl⟩
    rw [Ha.out]
    go_wp2_with fail
    refine (rfile4_any b _ Hsb.out).mono ?_
    rintro e w' ⟨rfl, rfl⟩
    rw [Hb2.out]
    go_wp2_with fail
    refine (qguarded_any HO.out.qs gs Ag kg cg HO.out.qb_ HG.out).mono ?_
    rintro e w2 ⟨rfl, hb2⟩
    have HB2 := Lib.hid hb2
    have hw2 := hb2.size
    clear hb2
    cases hbd : S.bad gs
    · have E1 := Lib.hid (E0.out.trans (if_neg (by rw [hbd]; simp)))
      clear hbd
      go_wp2_with fail
      refine (qat_any a (HO.out.qb_.below HB2.out)).mono ?_
      rintro e w' ⟨r, rfl, hr, rfl⟩
      rcases hr.has HO.out.qs with ⟨rfl, hh⟩ | ⟨i, rfl, hi, hh⟩
      · have E2 := Lib.hid (E1.out.trans (if_pos hh))
        clear hh hr
        go_wp2_with fail
        go_ret2
        exact ⟨by rw [E2.out]; rfl, by rw [E2.out]; exact HSt.out _ HB2.out⟩
      · have E2 := Lib.hid (E1.out.trans (if_neg (by rw [hh]; simp)))
        have hi0 : ¬ (i : Int) < 0 := by omega
        clear hh hr
        go_wp2_with fail
        refine (qhas_any a HO.out.qs (HO.out.qb_.below HB2.out)).mono ?_
        rintro e w' ⟨⟨B, d, rfl, hbb, hbu, hbc⟩, rfl⟩
        have HBb := Lib.hid hbb
        have HBu := Lib.hid hbu
        clear hbb hbu
        go_wp2_with fail
        refine (qgone_any a (by omega) (HO.out.qb_.below HB2.out)).mono ?_
        rintro e w3 ⟨rfl, ⟨B3, m3, d3, hB, hm⟩, ho3⟩
        have hqk := (HO.out.qb_.below HB2.out).blk
        have hnu : ∀ ad, B = some ad → 0 < (S.by a).length → ad.block ∉ [qb] := fun ad hA h0 hmm => by simp at hmm; exact HBu.out.ne hqk (by decide) ad hA h0 hmm
        have HBb3 := Lib.hid (HBb.out.only ho3 hnu)
        have HBu3 := Lib.hid (HBu.out.keep fun ad hA h0 => ho3.block ad.block (HBu.out.lt ad hA h0) (hnu ad hA h0))
        have HG3 := Lib.hid (gone_at HO.out hB hm)
        have HBB := Lib.hid hB
        have HO3 := Lib.hid ho3
        have hw3 := ho3.size
        clear hB ho3 hqk hnu HBb HBu
        have hlast : (S.gone a).last = S.last := rfl
        go_wp2_with fail
        refine (qset_any b (S.by a) B (S.by a).length d (by omega) HBB.out HBb3.out (fun ad hA h0 => HBu3.out.ne HBB.out.blk (by decide) ad hA h0) (by have := HBy.out; omega) HF.out.l0 HF.out.l1 (by omega)).mono ?_
        rintro e w4 ⟨rfl, hq⟩
        have HQ := Lib.hid hq
        clear hq
        go_wp2_with fail
        go_ret2
        refine ⟨by rw [E2.out]; rfl, ?_⟩
        rw [E2.out]
        have hQ2 : QSet w3 w4 base qb m3 (wo a xs) (S.gone a).room (S.gone a).last (cutV (S.gone a)) b (S.by a) := HQ.out
        refine ⟨(hQ2.at_ (HO.out.qs.gone' a) (fun x hx => HO.out.nm x (by unfold wo at hx; exact (List.mem_filter.1 hx).1)) Hin.out (show m3 ≤ k by omega) HO.out.hb).more (by omega), ((Only.of_below HB2.out [qb]).trans HO3.out).trans HQ.out.only⟩
    · have E1 := Lib.hid (E0.out.trans (if_pos hbd))
      clear hbd
      go_wp2_with fail
      go_ret2
      exact ⟨by rw [E1.out]; rfl, by rw [E1.out]; exact HSt.out _ HB2.out⟩
end
end Go.Proofs.Ytkbgedaogfcdnaa
