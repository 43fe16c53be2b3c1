/- The document's files (fettleref9): New, Room, Cut, Make, Put, Drop, Move. -/
import Derived.Test.YtkbgedaogfcdnaaQninE
import Derived.Test.YtkbgedaogfcdnaaRFile
namespace Go.Proofs.Ytkbgedaogfcdnaa
set_option linter.unusedSimpArgs false
set_option linter.unusedVariables false
open Go.RowKit
open Crc (Bytes)

/-- Bounds of the files. -/
structure QFin (S : Fs) : Prop where
  r0 : 0 ≤ S.room
  r1 : S.room ≤ 1073741824
  u1 : S.used ≤ 70368744177664
  l0 : 0 ≤ S.last
  l1 : S.last ≤ 1000000000
  by1 : ∀ s, (S.by s).length ≤ 100000000
  c0 : 0 ≤ S.cut
theorem FsH.qfin {w0 w : World} {fb mb k : Nat} {S : Fs} (h : FsH w0 w fb mb S k) (hk : k ≤ 1000) : QFin S := by
  have a := h.fin.u1; have b := h.fin.l1; have c := h.fin.by1
  exact ⟨h.fin.r0, h.fin.r1, by omega, h.fin.l0, by omega, fun s => by have := c s; omega, h.fin.c0⟩
def cutV (S : Fs) : Int := if S.cuts = true then S.cut else -1
/-- The document's files, opened. -/
structure QO (W : World) (base qb : Nat) (S : Fs) (k : Nat) (A : Option Addr) (n c : Nat) (xs : List Qe) : Prop where
  qb_ : QB W base qb A n c xs S.room S.last (cutV S)
  qs : QS S xs
  nk : n ≤ k
  nm : ∀ x ∈ xs, x.nm ∈ okN
  hb : base ≤ qb
theorem QAt.op {W : World} {base qb k : Nat} {S : Fs} (h : QAt W base qb S k) (hk : k ≤ 50000) : ∃ A n c xs, QO W base qb S k A n c xs := by
  obtain ⟨A, n, c, xs, h1, h2, h3, h4, h5⟩ := h.ex
  exact ⟨A, n, c, xs, ⟨h1, h2, by omega⟩, h3, h4, h5, h.hb⟩
theorem QO.at_ {W : World} {base qb k n c : Nat} {S : Fs} {A : Option Addr} {xs : List Qe} (h : QO W base qb S k A n c xs) : QAt W base qb S k :=
  ⟨⟨A, n, c, xs, h.qb_.blk, h.qb_.row, h.qs, h.nk, h.nm⟩, h.hb⟩
theorem QAt.more {W : World} {base qb k k2 : Nat} {S : Fs} (h : QAt W base qb S k) (hk : k ≤ k2) : QAt W base qb S k2 := by
  obtain ⟨A, n, c, xs, h1, h2, h3, h4, h5⟩ := h.ex
  exact ⟨⟨A, n, c, xs, h1, h2, h3, by omega, h5⟩, h.hb⟩
theorem QAt.fs {W : World} {base qb k : Nat} {S S' : Fs} (h : QAt W base qb S k) (h1 : S'.room = S.room) (h2 : S'.last = S.last) (h3 : cutV S' = cutV S) (h4 : S'.m = S.m) (h5 : S'.used = S.used) : QAt W base qb S' k := by
  obtain ⟨A, n, c, xs, a1, a2, a3, a4, a5⟩ := h.ex
  refine ⟨⟨A, n, c, xs, ?_, a2, ⟨by rw [h4]; exact a3.mem, by rw [h4]; exact a3.all, a3.up, by rw [h5]; exact a3.used⟩, a4, a5⟩, h.hb⟩
  have h3' : (if S'.cuts = true then S'.cut else -1) = (if S.cuts = true then S.cut else -1) := h3
  rw [h1, h2, h3']; exact a1
theorem QO.by_le {W : World} {base qb k n c : Nat} {S : Fs} {A : Option Addr} {xs : List Qe} (h : QO W base qb S k A n c xs) (s : ByteArray) : ((S.by s).length : Int) ≤ S.used := by
  have h1 := qsum_filter h.qs.up s (S.by s) (h.qs.bys s).1 (h.qs.bys s).2
  have h2 := qsum_nonneg (xs.filter fun x => decide (x.nm ≠ s))
  have h3 := h.qs.used
  omega
/-- A row behind a writing. -/
theorem QSet.at_ {w W : World} {base qb k n : Nat} {S : Fs} {xs : List Qe} {s : ByteArray} {l : List Int} (hq : QSet w W base qb n xs S.room S.last (cutV S) s l) (hS : QS S xs) (hn : ∀ x ∈ xs, x.nm ∈ okN) (hs : s ∈ okN) (hk : n ≤ k) (hb : base ≤ qb) : QAt W base qb (S.write s l) (k + 1) := by
  obtain ⟨A', n', c', i, x, e1, e2, e3, hB, hn', hlo, hhi⟩ := hq.ex
  have hg := hS.gone s
  have hne : ∀ y ∈ wo s xs, y.nm ≠ s := fun y hy => by unfold wo at hy; rw [List.mem_filter] at hy; simpa using hy.2
  obtain ⟨p1, p2⟩ := place hg.up hne hlo hhi
  refine ⟨⟨A', n', c', _, hB.blk, hB.row, hS.put s l x i e1 e2 e3 p1 p2, by omega, fun y hy => ?_⟩, hb⟩
  rw [List.mem_append, List.mem_append, List.mem_singleton] at hy
  have hw : ∀ y ∈ wo s xs, y.nm ∈ okN := fun y hy => by unfold wo at hy; rw [List.mem_filter] at hy; exact hn y hy.1
  rcases hy with (hy | rfl) | hy
  · exact hw y (List.mem_of_mem_take hy)
  · rw [e1]; exact hs
  · exact hw y (List.mem_of_mem_drop hy)
theorem QIdx.has {S : Fs} {xs : List Qe} {s : ByteArray} {r : Int} (h : QIdx xs s r) (hS : QS S xs) : (r = -1 ∧ S.has s = false) ∨ ∃ i : Nat, r = i ∧ i < xs.length ∧ S.has s = true := by
  rcases h with ⟨h1, h2⟩ | ⟨i, x, h1, h2, h3⟩
  · exact .inl ⟨h1, (hS.no h2).1⟩
  · exact .inr ⟨i, h1, (List.getElem?_eq_some_iff.1 h2).1, (hS.is (mem_of_get h2) h3).1⟩
/-- What an op of the document's files leaves. -/
structure QDone (w : World) (base qb : Nat) (S' : Fs) (k : Nat) (w' : World) : Prop where
  at_ : QAt w' base qb S' k
  only : Only [qb] w w'
theorem QDone.stay {w w' : World} {base qb k : Nat} {S : Fs} (h : QAt w base qb S k) (hb : Below w.heap.size w w') : QDone w base qb S (k + 1) w' := ⟨(h.below hb).more (by omega), Only.of_below hb [qb]⟩
set_option maxRecDepth 100000 in
set_option maxHeartbeats 1000000 in
theorem qheld_any (n : Int) (w : World) : Calls Try.prog 31 #[.int .i64 n] w fun e w' => e = .returned (.int .i64 (roomOf n)) ∧ w = w' := by
  go_enter Try.func31, Try.ntmps31
  go_wp2_with fail
  go_ret
  exact ⟨rfl, rfl⟩
set_option maxRecDepth 100000 in
set_option maxHeartbeats 1000000 in
theorem qnew_any (r : Int) (w : World) : Calls Try.prog 5 #[.int .i64 r] w fun e w' => ∃ qb, e = .returned (.pointer (some ⟨qb, 0, none⟩)) ∧ QAt w' w.heap.size qb (fs0 r) 0 ∧ Below w.heap.size w w' := by
  go_enter Try.func5, Try.ntmps5
  go_wp2_with fail
  refine (qheld_any r _).mono ?_
  rintro e w' ⟨rfl, rfl⟩
  go_wp2_with fail
  go_ret
  exact ⟨w.heap.size, rfl, ⟨⟨none, 0, 0, [], blk_new rfl, QRow.nil _ _, ⟨(fun x hx => by cases hx), (fun key hk => by cases hk), List.Pairwise.nil, by simp [qsum, fs0]⟩, Nat.le_refl _, (fun x hx => by cases hx)⟩, Nat.le_refl _⟩, bl_alloc (Below.refl _ _)⟩
section
variable {w : World} {base qb k : Nat} {S : Fs}
set_option maxRecDepth 100000 in
set_option maxHeartbeats 1000000 in
theorem qroom_any (h : QAt w base qb S k) (hk : k ≤ 50000) (r : Int) :
    Calls Try.prog 20 #[.pointer (some ⟨qb, 0, none⟩), .int .i64 r] w fun e w' => e = .returned (.tuple #[]) ∧ QDone w base qb { S with room := roomOf r } (k + 1) w' := by
  obtain ⟨A, n, c, xs, ho⟩ := h.op hk
  have c1 : w.cell? ⟨qb, 1, none⟩ = some (.int .i64 S.room) := ho.qb_.blk.cell 1
  have z1 := ho.qb_.blk.frozen 1
  have HO := Lib.hid ho
  clear h ho
  go_enter Try.func20, Try.ntmps20
  go_wp2_with fail
  refine (qheld_any r _).mono ?_
  rintro e w' ⟨rfl, rfl⟩
  go_wp2_with fail
  go_end0
  have hB := HO.out.qb_.setc 1 (.int .i64 (roomOf r)) (r2 := roomOf r) (l2 := S.last) (c2 := cutV S) rfl
  exact ⟨rfl, ⟨⟨A, n, c, xs, hB.blk, hB.row, ⟨HO.out.qs.mem, HO.out.qs.all, HO.out.qs.up, HO.out.qs.used⟩, by have := HO.out.nk; omega, HO.out.nm⟩, HO.out.hb⟩, (Only.refl [qb] w).setCell (p := ⟨qb, 1, none⟩) (.inl (by simp)) _⟩
set_option maxRecDepth 100000 in
set_option maxHeartbeats 1000000 in
theorem qcut_any (h : QAt w base qb S k) (hk : k ≤ 50000) (x : Int) :
    Calls Try.prog 22 #[.pointer (some ⟨qb, 0, none⟩), .int .i64 x] w fun e w' => e = .returned (.tuple #[]) ∧ QDone w base qb { S with cuts := true, cut := max x 0 } (k + 1) w' := by
  obtain ⟨A, n, c, xs, ho⟩ := h.op hk
  have c3 : w.cell? ⟨qb, 3, none⟩ = some (.int .i64 (cutV S)) := ho.qb_.blk.cell 3
  have z3 := ho.qb_.blk.frozen 3
  have HO := Lib.hid ho
  clear h ho
  have hfin : ∀ v : Int, max x 0 = v → Ending.returned (Value.tuple #[]) = Ending.returned (.tuple #[]) ∧ QDone w base qb { S with cuts := true, cut := max x 0 } (k + 1) (w.setCell ⟨qb, 3, none⟩ (.int .i64 v)) := fun v hv => by
    subst hv
    have hB := HO.out.qb_.setc 3 (.int .i64 (max x 0)) (r2 := S.room) (l2 := S.last) (c2 := max x 0) rfl
    exact ⟨rfl, ⟨⟨A, n, c, xs, hB.blk, hB.row, ⟨HO.out.qs.mem, HO.out.qs.all, HO.out.qs.up, HO.out.qs.used⟩, by have := HO.out.nk; omega, HO.out.nm⟩, HO.out.hb⟩, (Only.refl [qb] w).setCell (p := ⟨qb, 3, none⟩) (.inl (by simp)) _⟩
  have HFin := Lib.hid hfin
  clear hfin
  go_enter Try.func22, Try.ntmps22
  go_wp2_with fail
  all_goals
    go_end0
    exact ⟨rfl, (HFin.out _ (by omega)).2⟩
set_option maxRecDepth 100000 in
set_option maxHeartbeats 2000000 in
theorem qmake_any (h : QAt w base qb S k) (hf : QFin S) (hbs : base ≤ w.heap.size) (hk : k ≤ 40000) (s : ByteArray) (hs : fileB s = true → s ∈ okN) (hsz : s.size ≤ 1000) (l : List Int) (B : Option Addr) (m d : Nat) (hb : Bs w B m l) (hu : ∀ ad, B = some ad → 0 < m → ad.block ≠ qb) (hm : m ≤ 100000) :
    Calls Try.prog 10 #[.pointer (some ⟨qb, 0, none⟩), .string s, .slice B m d] w fun e w' => e = .returned (.tuple #[.int .i64 (S.makeF s l).1.1, .int .i64 (S.makeF s l).1.2]) ∧ QDone w base qb (S.makeF s l).2 (k + 1) w' := by
  obtain ⟨A, n, c, xs, ho⟩ := h.op (by omega)
  have hl := hb.len
  have hbl := ho.by_le s
  have hnk := ho.nk
  have HB := Lib.hid hb
  have HU := Lib.hid hu
  have HO := Lib.hid ho
  have HA := Lib.hid h
  have HF := Lib.hid hf
  have Hsz := Lib.hid (show s.size ≤ 140737488355328 by omega)
  clear hb hu ho h hf hsz
  cases hfb : fileB s
  · have E := Lib.hid (show S.makeF s l = ((0, 1), S) by unfold Fs.makeF; rw [if_pos hfb])
    have Hfb := Lib.hid hfb
    clear hfb
    go_enter Try.func10, Try.ntmps10
    go_wp2_with fail
    refine (rfile4_any s _ Hsz.out).mono ?_
    rintro e w' ⟨rfl, rfl⟩
    rw [Hfb.out]
    go_wp2_with fail
    go_ret2
    exact ⟨by rw [E.out]; rfl, by rw [E.out]; exact QDone.stay HA.out (Below.refl _ _)⟩
  · have Hs := Lib.hid (hs hfb)
    have E0 := Lib.hid (show S.makeF s l = if S.has s = true then ((0, 3), S) else if S.fits s l.length = false then ((0, 2), S) else ((S.last + 1, 0), S.write s l) by unfold Fs.makeF; rw [if_neg (by rw [hfb]; simp)])
    have Hfb := Lib.hid hfb
    clear hfb hs
    go_enter Try.func10, Try.ntmps10
    go_wp2_with fail
    refine (rfile4_any s _ Hsz.out).mono ?_
    rintro e w' ⟨rfl, rfl⟩
    rw [Hfb.out]
    go_wp2_with fail
    refine (qat_any s HO.out.qb_).mono ?_
    rintro e w' ⟨r, rfl, hr, rfl⟩
    rcases hr.has HO.out.qs with ⟨rfl, hh⟩ | ⟨i, rfl, hi, hh⟩
    · have E1 := Lib.hid (E0.out.trans (if_neg (by rw [hh]; simp)))
      clear hh hr
      go_wp2_with fail
      refine (qfits_any s m HO.out.qs HO.out.qb_ HF.out.u1 (by omega) hbl).mono ?_
      rintro e w2 ⟨rfl, hb2⟩
      have HB2 := Lib.hid hb2
      cases hfi : S.fits s m
      · have E2 := Lib.hid (E1.out.trans (if_pos (by rw [hl]; exact hfi)))
        clear hfi hb2
        go_wp2_with fail
        go_ret2
        exact ⟨by rw [E2.out]; rfl, by rw [E2.out]; exact QDone.stay HA.out HB2.out⟩
      · have E2 := Lib.hid (E1.out.trans (if_neg (by rw [hl, hfi]; simp)))
        have hw2 := hb2.size
        clear hfi hb2
        go_wp2_with fail
        refine (qset_any s l B m d (by omega) (HO.out.qb_.below HB2.out) (HB.out.below HB2.out) HU.out (by omega) HF.out.l0 HF.out.l1 (by omega)).mono ?_
        rintro e w3 ⟨rfl, hq⟩
        have HQ := Lib.hid hq
        clear hq
        go_wp2_with fail
        go_ret2
        refine ⟨by rw [E2.out]; rfl, ?_⟩
        rw [E2.out]
        exact ⟨HQ.out.at_ HO.out.qs HO.out.nm Hs.out HO.out.nk HO.out.hb, (Only.of_below HB2.out [qb]).trans HQ.out.only⟩
    · have E1 := Lib.hid (E0.out.trans (if_pos hh))
      have hi0 : (0 : Int) ≤ (i : Int) := by omega
      clear hh hr
      go_wp2_with fail
      go_ret2
      exact ⟨by rw [E1.out]; rfl, by rw [E1.out]; exact QDone.stay HA.out (Below.refl _ _)⟩
end
end Go.Proofs.Ytkbgedaogfcdnaa
