/- SimfPlays: the arms of the switch: Make, Put, Append, Move. -/
import Derived.Test.YtkbgedaogfcdnaaPlayC
namespace Go.Proofs.Ytkbgedaogfcdnaa
set_option linter.unusedSimpArgs false
set_option linter.unusedVariables false
open Go.RowKit
open Crc (Bytes)
section
variable {w : World} {fb mb qb : Nat} {A : Option Addr} {n cp : Nat} {RA : Option Addr} {rn rc i k : Nat} {x : Int} {pa pb : ByteArray} {X : Option Addr} {m cx : Nat} {l2 : List Int} {Ag : Option Addr} {kg cg base : Nat} {gs : List (ByteArray × Int)} {t : Array Value} {W : World} {S : Fs} {Q : Exit → Act → World → Prop}
set_option maxRecDepth 100000 in
set_option maxHeartbeats 16000000 in
theorem play_make (H : PlayI ⟨w, fb, mb, qb, A, n, cp, RA, rn, rc⟩ i x pa pb X m cx l2 Ag kg cg base gs t k S W) (hr : Go.bits .and .i64 x 15 = 0 ∨ Go.bits .and .i64 x 15 = 1)
    (hQ : ∀ a' W', PlayM ⟨w, fb, mb, qb, A, n, cp, RA, rn, rc⟩ i pa pb a' W' → Q .normal a' W') : Code.wp Try.prog playSw Q ⟨t, []⟩ W := by
  obtain ⟨sl, s9, s10, s11, s12, s13, s14, ha, hb, za, zb, hi, hk, hbo, hbs, m3, mc, old, gr⟩ := H
  have HB := Lib.hid hbo
  have HQ := Lib.hid hQ
  have HPa := Lib.hid ha
  have HPb := Lib.hid hb
  have HBs := Lib.hid hbs
  have HOld := Lib.hid old
  have HG := Lib.hid gr
  have HF := Lib.hid (show QFin S from hbo.fs.qfin (by omega))
  obtain ⟨v, rfl⟩ := frameG t sl.sz _ _ _ _ _ _ _ _ _ _ sl.s1 sl.s2 sl.s7 sl.s8 s9 s10 s11 s12 s13 s14
  clear sl s9 s10 s11 s12 s13 s14 hbo hQ ha hb hbs old gr
  conv => arg 2; whnf
  rcases hr with hr | hr
  all_goals
    go_wp2_with fail
    refine (make_h HB.out.fs (by omega) pa l2 X m cx za (by omega) HBs.out).mono ?_
    rintro e w1 ⟨rfl, h1, o1⟩
    obtain ⟨r0, hr0⟩ : ∃ r0, S.makeF pa l2 = r0 := ⟨_, rfl⟩
    have HR0 := Lib.hid hr0
    rw [hr0] at h1 ⊢
    have H1 := Lib.hid h1
    have O1 := Lib.hid o1
    have hq1 := Lib.hid (HB.out.q.onlyf HB.out.fs o1)
    have hb1 := Lib.hid (old_bs HB.out.fs HBs.out o1 HOld.out)
    have hg1 := Lib.hid (HG.out.onlyf HB.out.fs o1)
    have hsz1 : w.heap.size ≤ w1.heap.size := h1.bel.size
    have hne : ∀ ad, X = some ad → 0 < m → ad.block ≠ qb := fun ad hA h0 => by have h1 := HOld.out ad hA h0; have h2 := HB.out.q.hb; omega
    clear hr0 h1 o1
    go_wp2_with fail
    refine (qmake_any hq1.out HF.out hsz1 (by omega) pa (ok_in HPa.out) za l2 X m cx hb1.out hne (by omega)).mono ?_
    rintro e w2 ⟨rfl, hd⟩
    rw [HR0.out] at hd ⊢
    have HB2 := Lib.hid (HB.out.step H1.out O1.out (fun _ => ⟨hd.at_.more (by omega), hd.only⟩))
    clear hd H1 O1 hq1 hb1 hg1 HB
    go_wp2_with fail
    exact HQ.out _ _ ⟨rfl, ⟨rfl, rfl, rfl, rfl, rfl⟩, rfl, rfl, rfl, k + 1, r0.2, by omega, HB2.out⟩
set_option maxRecDepth 100000 in
set_option maxHeartbeats 16000000 in
theorem play_put (H : PlayI ⟨w, fb, mb, qb, A, n, cp, RA, rn, rc⟩ i x pa pb X m cx l2 Ag kg cg base gs t k S W) (hr : Go.bits .and .i64 x 15 = 2 ∨ Go.bits .and .i64 x 15 = 3 ∨ Go.bits .and .i64 x 15 = 4)
    (hQ : ∀ a' W', PlayM ⟨w, fb, mb, qb, A, n, cp, RA, rn, rc⟩ i pa pb a' W' → Q .normal a' W') : Code.wp Try.prog playSw Q ⟨t, []⟩ W := by
  obtain ⟨sl, s9, s10, s11, s12, s13, s14, ha, hb, za, zb, hi, hk, hbo, hbs, m3, mc, old, gr⟩ := H
  have HB := Lib.hid hbo
  have HQ := Lib.hid hQ
  have HPa := Lib.hid ha
  have HPb := Lib.hid hb
  have HBs := Lib.hid hbs
  have HOld := Lib.hid old
  have HG := Lib.hid gr
  have HF := Lib.hid (show QFin S from hbo.fs.qfin (by omega))
  obtain ⟨v, rfl⟩ := frameG t sl.sz _ _ _ _ _ _ _ _ _ _ sl.s1 sl.s2 sl.s7 sl.s8 s9 s10 s11 s12 s13 s14
  clear sl s9 s10 s11 s12 s13 s14 hbo hQ ha hb hbs old gr
  conv => arg 2; whnf
  rcases hr with hr | hr | hr
  all_goals
    go_wp2_with fail
    refine (put_h HB.out.fs (by omega) pa l2 X m cx za (by omega) HBs.out).mono ?_
    rintro e w1 ⟨rfl, h1, o1⟩
    obtain ⟨r0, hr0⟩ : ∃ r0, S.putF pa l2 = r0 := ⟨_, rfl⟩
    have HR0 := Lib.hid hr0
    rw [hr0] at h1 ⊢
    have H1 := Lib.hid h1
    have O1 := Lib.hid o1
    have hq1 := Lib.hid (HB.out.q.onlyf HB.out.fs o1)
    have hb1 := Lib.hid (old_bs HB.out.fs HBs.out o1 HOld.out)
    have hg1 := Lib.hid (HG.out.onlyf HB.out.fs o1)
    have hsz1 : w.heap.size ≤ w1.heap.size := h1.bel.size
    have hne : ∀ ad, X = some ad → 0 < m → ad.block ≠ qb := fun ad hA h0 => by have h1 := HOld.out ad hA h0; have h2 := HB.out.q.hb; omega
    clear hr0 h1 o1
    go_wp2_with fail
    refine (qput_any hq1.out HF.out hsz1 (by omega) pa (ok_in HPa.out) za l2 X m cx hb1.out hne (by omega)).mono ?_
    rintro e w2 ⟨rfl, hd⟩
    rw [HR0.out] at hd ⊢
    have HB2 := Lib.hid (HB.out.step H1.out O1.out (fun _ => ⟨hd.at_.more (by omega), hd.only⟩))
    clear hd H1 O1 hq1 hb1 hg1 HB
    go_wp2_with fail
    exact HQ.out _ _ ⟨rfl, ⟨rfl, rfl, rfl, rfl, rfl⟩, rfl, rfl, rfl, k + 1, r0.2, by omega, HB2.out⟩
set_option maxRecDepth 100000 in
set_option maxHeartbeats 16000000 in
theorem play_append (H : PlayI ⟨w, fb, mb, qb, A, n, cp, RA, rn, rc⟩ i x pa pb X m cx l2 Ag kg cg base gs t k S W) (hr : Go.bits .and .i64 x 15 = 5 ∨ Go.bits .and .i64 x 15 = 6 ∨ Go.bits .and .i64 x 15 = 7)
    (hQ : ∀ a' W', PlayM ⟨w, fb, mb, qb, A, n, cp, RA, rn, rc⟩ i pa pb a' W' → Q .normal a' W') : Code.wp Try.prog playSw Q ⟨t, []⟩ W := by
  obtain ⟨sl, s9, s10, s11, s12, s13, s14, ha, hb, za, zb, hi, hk, hbo, hbs, m3, mc, old, gr⟩ := H
  have HB := Lib.hid hbo
  have HQ := Lib.hid hQ
  have HPa := Lib.hid ha
  have HPb := Lib.hid hb
  have HBs := Lib.hid hbs
  have HOld := Lib.hid old
  have HG := Lib.hid gr
  have HF := Lib.hid (show QFin S from hbo.fs.qfin (by omega))
  obtain ⟨v, rfl⟩ := frameG t sl.sz _ _ _ _ _ _ _ _ _ _ sl.s1 sl.s2 sl.s7 sl.s8 s9 s10 s11 s12 s13 s14
  clear sl s9 s10 s11 s12 s13 s14 hbo hQ ha hb hbs old gr
  conv => arg 2; whnf
  rcases hr with hr | hr | hr
  all_goals
    go_wp2_with fail
    refine (append_hN HB.out.fs (by omega) pa l2 gs X m cx Ag kg cg za (by omega) mc HBs.out (fun ad hA h0 => by have h1 := HOld.out ad hA h0; have h2 := HB.out.fs.hf; omega) HG.out.grd).mono ?_
    rintro e w1 ⟨rfl, h1, o1⟩
    obtain ⟨r0, hr0⟩ : ∃ r0, S.appF pa l2 gs = r0 := ⟨_, rfl⟩
    have HR0 := Lib.hid hr0
    rw [hr0] at h1 ⊢
    have H1 := Lib.hid h1
    have O1 := Lib.hid o1
    have hq1 := Lib.hid (HB.out.q.onlyf HB.out.fs o1)
    have hb1 := Lib.hid (old_bs HB.out.fs HBs.out o1 HOld.out)
    have hg1 := Lib.hid (HG.out.onlyf HB.out.fs o1)
    have hsz1 : w.heap.size ≤ w1.heap.size := h1.bel.size
    have hne : ∀ ad, X = some ad → 0 < m → ad.block ≠ qb := fun ad hA h0 => by have h1 := HOld.out ad hA h0; have h2 := HB.out.q.hb; omega
    clear hr0 h1 o1
    go_wp2_with fail
    refine (qappend_any hq1.out HF.out hsz1 (by omega) pa (ok_in HPa.out) za l2 gs X m cx Ag kg cg hb1.out hne (by omega) mc hg1.out.grd).mono ?_
    rintro e w2 ⟨rfl, hd⟩
    rw [HR0.out] at hd ⊢
    have HB2 := Lib.hid (HB.out.step H1.out O1.out (fun _ => ⟨hd.at_.more (by omega), hd.only⟩))
    clear hd H1 O1 hq1 hb1 hg1 HB
    go_wp2_with fail
    exact HQ.out _ _ ⟨rfl, ⟨rfl, rfl, rfl, rfl, rfl⟩, rfl, rfl, rfl, k + 1, r0.2, by omega, HB2.out⟩
set_option maxRecDepth 100000 in
set_option maxHeartbeats 16000000 in
theorem play_move (H : PlayI ⟨w, fb, mb, qb, A, n, cp, RA, rn, rc⟩ i x pa pb X m cx l2 Ag kg cg base gs t k S W) (hr : Go.bits .and .i64 x 15 = 8 ∨ Go.bits .and .i64 x 15 = 9 ∨ Go.bits .and .i64 x 15 = 10)
    (hQ : ∀ a' W', PlayM ⟨w, fb, mb, qb, A, n, cp, RA, rn, rc⟩ i pa pb a' W' → Q .normal a' W') : Code.wp Try.prog playSw Q ⟨t, []⟩ W := by
  obtain ⟨sl, s9, s10, s11, s12, s13, s14, ha, hb, za, zb, hi, hk, hbo, hbs, m3, mc, old, gr⟩ := H
  have HB := Lib.hid hbo
  have HQ := Lib.hid hQ
  have HPa := Lib.hid ha
  have HPb := Lib.hid hb
  have HBs := Lib.hid hbs
  have HOld := Lib.hid old
  have HG := Lib.hid gr
  have HF := Lib.hid (show QFin S from hbo.fs.qfin (by omega))
  obtain ⟨v, rfl⟩ := frameG t sl.sz _ _ _ _ _ _ _ _ _ _ sl.s1 sl.s2 sl.s7 sl.s8 s9 s10 s11 s12 s13 s14
  clear sl s9 s10 s11 s12 s13 s14 hbo hQ ha hb hbs old gr
  conv => arg 2; whnf
  rcases hr with hr | hr | hr
  all_goals
    go_wp2_with fail
    refine (move_h HB.out.fs (by omega) pa pb gs Ag kg cg za zb HG.out.grd).mono ?_
    rintro e w1 ⟨rfl, h1, o1⟩
    obtain ⟨r0, hr0⟩ : ∃ r0, S.moveF pa pb gs = r0 := ⟨_, rfl⟩
    have HR0 := Lib.hid hr0
    rw [hr0] at h1 ⊢
    have H1 := Lib.hid h1
    have O1 := Lib.hid o1
    have hq1 := Lib.hid (HB.out.q.onlyf HB.out.fs o1)
    have hb1 := Lib.hid (old_bs HB.out.fs HBs.out o1 HOld.out)
    have hg1 := Lib.hid (HG.out.onlyf HB.out.fs o1)
    have hsz1 : w.heap.size ≤ w1.heap.size := h1.bel.size
    have hne : ∀ ad, X = some ad → 0 < m → ad.block ≠ qb := fun ad hA h0 => by have h1 := HOld.out ad hA h0; have h2 := HB.out.q.hb; omega
    clear hr0 h1 o1
    go_wp2_with fail
    refine (qmove_any hq1.out HF.out hsz1 (by omega) pa pb (ok_in HPb.out) za zb gs Ag kg cg hg1.out.grd).mono ?_
    rintro e w2 ⟨rfl, hd⟩
    rw [HR0.out] at hd ⊢
    have HB2 := Lib.hid (HB.out.step H1.out O1.out (fun _ => ⟨hd.at_, hd.only⟩))
    clear hd H1 O1 hq1 hb1 hg1 HB
    go_wp2_with fail
    exact HQ.out _ _ ⟨rfl, ⟨rfl, rfl, rfl, rfl, rfl⟩, rfl, rfl, rfl, k + 1, r0.2, by omega, HB2.out⟩
end
end Go.Proofs.Ytkbgedaogfcdnaa
