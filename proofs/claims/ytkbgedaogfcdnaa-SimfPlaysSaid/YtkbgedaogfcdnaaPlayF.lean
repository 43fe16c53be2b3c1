/- SimfPlays: the arms of the switch: Drop, Room, Cut, and none. -/
import Derived.Test.YtkbgedaogfcdnaaPlayC
namespace Go.Proofs.Ytkbgedaogfcdnaa
set_option linter.unusedSimpArgs false
set_option linter.unusedVariables false
open Go.RowKit
open Crc (Bytes)
section
variable {w : World} {fb mb qb : Nat} {A : Option Addr} {n cp : Nat} {RA : Option Addr} {rn rc i k : Nat} {x : Int} {pa pb : ByteArray} {X : Option Addr} {m cx : Nat} {l2 : List Int} {Ag : Option Addr} {kg cg base : Nat} {gs : List (ByteArray × Int)} {t : Array Value} {W : World} {S : Fs} {Q : Exit → Act → World → Prop}
set_option maxRecDepth 100000 in
set_option maxHeartbeats 16000000 in
theorem play_drop (H : PlayI ⟨w, fb, mb, qb, A, n, cp, RA, rn, rc⟩ i x pa pb X m cx l2 Ag kg cg base gs t k S W) (hr : Go.bits .and .i64 x 15 = 11)
    (hQ : ∀ a' W', PlayM ⟨w, fb, mb, qb, A, n, cp, RA, rn, rc⟩ i pa pb a' W' → Q .normal a' W') : Code.wp Try.prog playSw Q ⟨t, []⟩ W := by
  obtain ⟨sl, s9, s10, s11, s12, s13, s14, ha, hb, za, zb, hi, hk, hbo, hbs, m3, mc, old, gr⟩ := H
  have HB := Lib.hid hbo
  have HQ := Lib.hid hQ
  have HPa := Lib.hid ha
  have HPb := Lib.hid hb
  have HBs := Lib.hid hbs
  have HOld := Lib.hid old
  have HG := Lib.hid gr
  have HF := Lib.hid (show QFin S from hbo.fs.qfin (by omega))
  obtain ⟨v, rfl⟩ := frameG t sl.sz _ _ _ _ _ _ _ _ _ _ sl.s1 sl.s2 sl.s7 sl.s8 s9 s10 s11 s12 s13 s14
  clear sl s9 s10 s11 s12 s13 s14 hbo hQ ha hb hbs old gr
  conv => arg 2; whnf
  rcases hr with hr
  all_goals
    go_wp2_with fail
    refine (drop_h HB.out.fs (by omega) pa gs Ag kg cg za HG.out.grd).mono ?_
    rintro e w1 ⟨rfl, h1, o1⟩
    obtain ⟨r0, hr0⟩ : ∃ r0, S.dropF pa gs = r0 := ⟨_, rfl⟩
    have HR0 := Lib.hid hr0
    rw [hr0] at h1 ⊢
    have H1 := Lib.hid h1
    have O1 := Lib.hid o1
    have hq1 := Lib.hid (HB.out.q.onlyf HB.out.fs o1)
    have hb1 := Lib.hid (old_bs HB.out.fs HBs.out o1 HOld.out)
    have hg1 := Lib.hid (HG.out.onlyf HB.out.fs o1)
    have hsz1 : w.heap.size ≤ w1.heap.size := h1.bel.size
    have hne : ∀ ad, X = some ad → 0 < m → ad.block ≠ qb := fun ad hA h0 => by have h1 := HOld.out ad hA h0; have h2 := HB.out.q.hb; omega
    clear hr0 h1 o1
    go_wp2_with fail
    refine (qdrop_any hq1.out hsz1 (by omega) pa za gs Ag kg cg hg1.out.grd).mono ?_
    rintro e w2 ⟨rfl, hd⟩
    rw [HR0.out] at hd ⊢
    have HB2 := Lib.hid (HB.out.step H1.out O1.out (fun _ => ⟨hd.at_.more (by omega), hd.only⟩))
    clear hd H1 O1 hq1 hb1 hg1 HB
    go_wp2_with fail
    exact HQ.out _ _ ⟨rfl, ⟨rfl, rfl, rfl, rfl, rfl⟩, rfl, rfl, rfl, k + 1, r0.2, by omega, HB2.out⟩
set_option maxRecDepth 100000 in
set_option maxHeartbeats 16000000 in
theorem play_room (H : PlayI ⟨w, fb, mb, qb, A, n, cp, RA, rn, rc⟩ i x pa pb X m cx l2 Ag kg cg base gs t k S W) (hr : Go.bits .and .i64 x 15 = 12)
    (hQ : ∀ a' W', PlayM ⟨w, fb, mb, qb, A, n, cp, RA, rn, rc⟩ i pa pb a' W' → Q .normal a' W') : Code.wp Try.prog playSw Q ⟨t, []⟩ W := by
  obtain ⟨sl, s9, s10, s11, s12, s13, s14, ha, hb, za, zb, hi, hk, hbo, hbs, m3, mc, old, gr⟩ := H
  have HB := Lib.hid hbo
  have HQ := Lib.hid hQ
  have HPa := Lib.hid ha
  have HPb := Lib.hid hb
  have HBs := Lib.hid hbs
  have HOld := Lib.hid old
  have HG := Lib.hid gr
  have HF := Lib.hid (show QFin S from hbo.fs.qfin (by omega))
  obtain ⟨v, rfl⟩ := frameG t sl.sz _ _ _ _ _ _ _ _ _ _ sl.s1 sl.s2 sl.s7 sl.s8 s9 s10 s11 s12 s13 s14
  clear sl s9 s10 s11 s12 s13 s14 hbo hQ ha hb hbs old gr
  conv => arg 2; whnf
  rcases hr with hr
  all_goals
    go_wp2_with fail
    refine (room_h HB.out.fs (by omega) _).mono ?_
    rintro e w1 ⟨rfl, h1, o1⟩
    have H1 := Lib.hid h1
    have O1 := Lib.hid o1
    have hq1 := Lib.hid (HB.out.q.onlyf HB.out.fs o1)
    clear h1 o1
    go_wp2_with fail
    refine (qroom_any hq1.out (by omega) _).mono ?_
    rintro e w2 ⟨rfl, hd⟩
    have HB2 := Lib.hid (HB.out.step H1.out O1.out (fun _ => ⟨hd.at_.more (by omega), hd.only⟩))
    clear hd H1 O1 hq1 HB
    go_wp2_with fail
    exact HQ.out _ _ ⟨rfl, ⟨rfl, rfl, rfl, rfl, rfl⟩, rfl, rfl, rfl, k + 1, _, by omega, HB2.out⟩
set_option maxRecDepth 100000 in
set_option maxHeartbeats 16000000 in
theorem play_cut (H : PlayI ⟨w, fb, mb, qb, A, n, cp, RA, rn, rc⟩ i x pa pb X m cx l2 Ag kg cg base gs t k S W) (hr : Go.bits .and .i64 x 15 = 13)
    (hQ : ∀ a' W', PlayM ⟨w, fb, mb, qb, A, n, cp, RA, rn, rc⟩ i pa pb a' W' → Q .normal a' W') : Code.wp Try.prog playSw Q ⟨t, []⟩ W := by
  obtain ⟨sl, s9, s10, s11, s12, s13, s14, ha, hb, za, zb, hi, hk, hbo, hbs, m3, mc, old, gr⟩ := H
  have HB := Lib.hid hbo
  have HQ := Lib.hid hQ
  have HPa := Lib.hid ha
  have HPb := Lib.hid hb
  have HBs := Lib.hid hbs
  have HOld := Lib.hid old
  have HG := Lib.hid gr
  have HF := Lib.hid (show QFin S from hbo.fs.qfin (by omega))
  obtain ⟨v, rfl⟩ := frameG t sl.sz _ _ _ _ _ _ _ _ _ _ sl.s1 sl.s2 sl.s7 sl.s8 s9 s10 s11 s12 s13 s14
  clear sl s9 s10 s11 s12 s13 s14 hbo hQ ha hb hbs old gr
  conv => arg 2; whnf
  rcases hr with hr
  all_goals
    go_wp2_with fail
    refine (cut_h HB.out.fs (by omega) _).mono ?_
    rintro e w1 ⟨rfl, h1, o1⟩
    have H1 := Lib.hid h1
    have O1 := Lib.hid o1
    have hq1 := Lib.hid (HB.out.q.onlyf HB.out.fs o1)
    clear h1 o1
    go_wp2_with fail
    refine (qcut_any hq1.out (by omega) _).mono ?_
    rintro e w2 ⟨rfl, hd⟩
    have HB2 := Lib.hid (HB.out.step H1.out O1.out (fun _ => ⟨hd.at_.more (by omega), hd.only⟩))
    clear hd H1 O1 hq1 HB
    go_wp2_with fail
    exact HQ.out _ _ ⟨rfl, ⟨rfl, rfl, rfl, rfl, rfl⟩, rfl, rfl, rfl, k + 1, _, by omega, HB2.out⟩
set_option maxRecDepth 100000 in
set_option maxHeartbeats 16000000 in
theorem play_none (H : PlayI ⟨w, fb, mb, qb, A, n, cp, RA, rn, rc⟩ i x pa pb X m cx l2 Ag kg cg base gs t k S W) (hr : Go.bits .and .i64 x 15 = 14 ∨ Go.bits .and .i64 x 15 = 15)
    (hQ : ∀ a' W', PlayM ⟨w, fb, mb, qb, A, n, cp, RA, rn, rc⟩ i pa pb a' W' → Q .normal a' W') : Code.wp Try.prog playSw Q ⟨t, []⟩ W := by
  obtain ⟨sl, s9, s10, s11, s12, s13, s14, ha, hb, za, zb, hi, hk, hbo, hbs, m3, mc, old, gr⟩ := H
  have HB := Lib.hid hbo
  have HQ := Lib.hid hQ
  have HPa := Lib.hid ha
  have HPb := Lib.hid hb
  have HBs := Lib.hid hbs
  have HOld := Lib.hid old
  have HG := Lib.hid gr
  have HF := Lib.hid (show QFin S from hbo.fs.qfin (by omega))
  obtain ⟨v, rfl⟩ := frameG t sl.sz _ _ _ _ _ _ _ _ _ _ sl.s1 sl.s2 sl.s7 sl.s8 s9 s10 s11 s12 s13 s14
  clear sl s9 s10 s11 s12 s13 s14 hbo hQ ha hb hbs old gr
  conv => arg 2; whnf
  rcases hr with hr | hr
  all_goals
    go_wp2_with fail
    exact HQ.out _ _ ⟨rfl, ⟨rfl, rfl, rfl, rfl, rfl⟩, rfl, rfl, rfl, k, S, by omega, HB.out⟩
end
end Go.Proofs.Ytkbgedaogfcdnaa
