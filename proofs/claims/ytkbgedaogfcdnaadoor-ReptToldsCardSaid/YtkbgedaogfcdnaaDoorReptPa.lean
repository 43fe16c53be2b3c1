/- rept.Parse. -/
import Derived.Test.YtkbgedaogfcdnaaDoorReptRd
namespace Go.Proofs.YtkbgedaogfcdnaaDoor
set_option linter.unusedSimpArgs false
set_option linter.unusedVariables false
open Go.RowKit
open Crc (Bytes)
theorem words_cons (s : List UInt8) : ∃ x0 xs, Rep.words s = x0 :: xs := by
  cases s with
  | nil => exact ⟨[], [], rfl⟩
  | cons c r =>
    rw [Rep.words]
    split
    · exact ⟨_, _, rfl⟩
    · exact ⟨_, _, rfl⟩
theorem join_words : ∀ (s : List UInt8), Lib.join (Rep.words s) [32] = s
  | [] => rfl
  | c :: r => by
    have ih := join_words r
    obtain ⟨x0, xs, hw⟩ := words_cons r
    rw [Rep.words]
    rw [hw] at ih ⊢
    split
    · rename_i h
      subst h
      rw [Lib.join_cons, Lib.joinTail, List.map_cons, List.flatten_cons]
      rw [Lib.join_cons, Lib.joinTail] at ih
      simpa using ih
    · simp only [List.headD_cons, List.tail_cons]
      rw [Lib.join_cons] at ih ⊢
      rw [List.cons_append, ih]
theorem opt_short (s : List UInt8) (h : s.length ≤ 99999) : Short ((Rep.optParse s).getD Rep.op0).names := by
  have hn : Short Rep.op0.names := fun x hx => by simp [Rep.op0] at hx
  have := loop_names (wordsOf s) Rep.op0 (wordsOf_short s (by omega)).1 hn
  unfold Rep.optParse
  show Short ((if (Rep.optLoop (wordsOf s) Rep.op0).text = s then some (Rep.optLoop (wordsOf s) Rep.op0) else none).getD Rep.op0).names
  split
  · exact this
  · exact hn
structure Small (e : Rep.Ev) : Prop where
  name : e.name.length ≤ 99999
  bytes : e.bytes.length ≤ 99999
  short : Short e.o.names
theorem small0 (k a b : Int) : Small ⟨k, a, b, [], [], Rep.op0⟩ := ⟨by simp, by simp, fun x hx => by simp [Rep.op0] at hx⟩
theorem readP_cons (w x : List UInt8) (r : List (List UInt8)) : Rep.readP (w :: x :: r) = (if Rep.kindNo w = 6 then (⟨6, 0, 0, x, Rep.bytesOf r, Rep.op0⟩, true) else if Rep.kindNo w = 7 then (⟨7, 0, 0, x, [], Rep.op0⟩, true) else if Rep.kindNo w = 1 then (⟨1, (Rep.numP x).getD 0, 0, [], [], (Rep.optParse (Lib.join r [32])).getD Rep.op0⟩, (Rep.numP x).isSome && (Rep.optParse (Lib.join r [32])).isSome) else if Rep.kindNo w = 2 then (⟨2, (Rep.numP x).getD 0, 0, [], [], Rep.op0⟩, (Rep.numP x).isSome) else if Rep.kindNo w = 3 then (⟨3, (Rep.numP x).getD 0, 0, [], [], Rep.op0⟩, (Rep.numP x).isSome) else (⟨Rep.kindNo w, 0, (Rep.numP x).getD 0, [], [], Rep.op0⟩, (Rep.numP x).isSome)) := rfl
theorem read_small (x0 : List UInt8) (xs : List (List UInt8)) (hj : (Lib.join (x0 :: xs) [32]).length ≤ 99999) (hw : ∀ y ∈ x0 :: xs, y.length ≤ 99999) : Small (Rep.readP (x0 :: xs)).1 := by
  cases xs with
  | nil => exact small0 _ _ _
  | cons x1 r =>
    have h1 := hw x1 (by simp)
    have hs0 : Short Rep.op0.names := fun x hx => by simp [Rep.op0] at hx
    rw [readP_cons]
    split
    · refine ⟨h1, ?_, hs0⟩
      show (Rep.bytesOf r).length ≤ 99999
      cases r with
      | nil => simp [Rep.bytesOf]
      | cons y r =>
        rw [bytesOf_cons]
        have := hw y (by simp)
        split
        · simp
        · rw [Rep.unhexP_len]; omega
    split
    · exact ⟨h1, by simp, hs0⟩
    split
    · exact ⟨by simp, by simp, opt_short _ (Nat.le_trans (join_drop x0 (x1 :: r) 1) hj)⟩
    split
    · exact small0 _ _ _
    split
    · exact small0 _ _ _
    · exact small0 _ _ _
theorem read_in (ws : List (List UInt8)) : In (Rep.readP ws).1.kind ∧ In (Rep.readP ws).1.who ∧ In (Rep.readP ws).1.n := by
  obtain ⟨h1, h2, h3, _⟩ := Rep.read_only ws
  unfold In
  omega
theorem ev_eta (p : Rep.Ev × Bool) (b n : Value) : evC p.1 b n = [.int .i64 p.1.kind, .int .i64 p.1.who, .int .i64 p.1.n, .string (T p.1.name), b, .bool p.1.o.dry, .bool p.1.o.fast, .bool p.1.o.clean, n] := rfl
theorem evin0 (w : World) : EvIn w Rep.ev0 none none 0 0 0 0 := ⟨Bs.nil _ _, Nat.le_refl _, by omega, SS.nil _ _, fun x hx => by simp [Rep.ev0, Rep.op0] at hx, by simp [Rep.ev0], by unfold In; decide, by unfold In; decide, by unfold In; decide⟩
theorem EvIn.set9 {w : World} {e : Rep.Ev} {B A : Option Addr} {bn bc n c g : Nat} (h : EvIn w e B A bn bc n c) (hb : ∀ ad, B = some ad → 0 < bn → ad.block ≠ g) (ha : ∀ ad, A = some ad → 0 < n → ad.block ≠ g) (v0 v1 v2 v3 v4 v5 v6 v7 v8 : Value) : EvIn (((((((((w.setCell ⟨g, 0, none⟩ v0).setCell ⟨g, 1, none⟩ v1).setCell ⟨g, 2, none⟩ v2).setCell ⟨g, 3, none⟩ v3).setCell ⟨g, 4, none⟩ v4).setCell ⟨g, 5, none⟩ v5).setCell ⟨g, 6, none⟩ v6).setCell ⟨g, 7, none⟩ v7).setCell ⟨g, 8, none⟩ v8) e B A bn bc n c :=
  ⟨h.by_.set9 hb _ _ _ _ _ _ _ _ _, h.cap, h.small, h.ss.set9 ha _ _ _ _ _ _ _ _ _, h.short, h.name, h.kind, h.who, h.num⟩
set_option maxRecDepth 100000 in
set_option maxHeartbeats 4000000 in
theorem rparse_any (s : List UInt8) (w : World) (hs : s.length ≤ 99999) (hE : Env w) :
    Calls Tryd.prog 11 #[.string (T s)] w fun r w' => (∃ B bn bc A n c, r = .returned (.tuple #[.agg (evC ((Rep.parseP s).getD Rep.ev0) (.slice B bn bc) (.slice A n c)).toArray, .bool (Rep.parseP s).isSome]) ∧ EvIn w' ((Rep.parseP s).getD Rep.ev0) B A bn bc n c ∧ n ≤ c) ∧ Below w.heap.size w w' := by
  have HE := Lib.hid hE
  have hz := T_size s
  have hem := T_empty s
  obtain ⟨x0, xs, hw⟩ := words_cons s
  have hj := join_words s
  rw [hw] at hj
  obtain ⟨hsh, hwl⟩ := words_short s
  rw [hw] at hsh hwl
  have hj2 : (Lib.join (x0 :: xs) [32]).length ≤ 99999 := by rw [hj]; omega
  have hw2 : ∀ y ∈ x0 :: xs, y.length ≤ 99999 := fun y hy => Nat.le_trans (hsh y hy) hs
  have HSm := Lib.hid (read_small x0 xs hj2 hw2)
  have HIn := Lib.hid (read_in (x0 :: xs))
  have HP := Lib.hid (show Rep.parseP s = if (Rep.readP (x0 :: xs)).2 = true ∧ s ≠ [] ∧ Rep.evT (Rep.readP (x0 :: xs)).1 = s then some (Rep.readP (x0 :: xs)).1 else none by unfold Rep.parseP; rw [hw])
  have HJ2 := Lib.hid hj2
  have HW2 := Lib.hid hw2
  have HWl := Lib.hid hwl
  have HW := Lib.hid hw
  clear hE hj hsh hwl hj2 hw2 hw
  go_enter Tryd.func11, Tryd.ntmps11
  go_upto_region 1 with fail
  obtain ⟨g1, hg1⟩ : ∃ g, g = w.heap.size := ⟨_, rfl⟩
  rw [← hg1]
  refine at_world (fun W => Blk W g1 37 zero9 ∧ Below w.heap.size w W) ⟨blk_new hg1, by (repeat (first | assumption | exact Below.refl _ _ | (with_reducible apply Below.drew) | (with_reducible apply bl_drewN) | (with_reducible apply bl_alloc) | (with_reducible refine bl_then ?_ (by assumption))))⟩ ?_
  rintro W ⟨hb1, hbel⟩
  have G1 := Lib.hid hb1
  have GB := Lib.hid hbel
  have hgw : w.heap.size ≤ g1 := by omega
  clear hb1 hbel hg1
  go_wp2_with fail
  refine (split_any s _ (by omega)).mono ?_
  rintro r w1 ⟨rfl, hss, hb1⟩
  rw [HW.out] at hss ⊢
  have K1 := Lib.hid (G1.out.below hb1)
  have KB := Lib.hid (GB.out.trans (hb1.mono GB.out.size))
  have KS := Lib.hid hss
  clear hss hb1 G1 GB
  go_wp2_with fail
  refine (read_any _ _ _ x0 xs KS.out (Nat.le_refl _) (HE.out.below KB.out) HJ2.out HW2.out (by have := HWl.out; omega)).mono ?_
  rintro r w2 ⟨⟨B, bn, bc, A, n, c, rfl, hbs, hbc, hss, hc, hfb, hfa⟩, hb2⟩
  obtain ⟨p, hp⟩ : ∃ p, Rep.readP (x0 :: xs) = p := ⟨_, rfl⟩
  rw [hp] at HSm HIn HP hbs hss
  rw [hp]
  obtain ⟨⟨kind, who, m, name, bytes, od, of_, oc, on⟩, okr⟩ := p
  clear hp
  have L1 := Lib.hid (K1.out.below hb2)
  have LB := Lib.hid (KB.out.trans (hb2.mono KB.out.size))
  have hg1 := K1.out.lt
  have hbl := HSm.out.bytes
  have hbn := hbs.len
  have hfb1 : ∀ ad, B = some ad → 0 < bn → ad.block ≠ g1 := fun a h h0 => by have := hfb a h h0; omega
  have hfa1 : ∀ ad, A = some ad → 0 < n → ad.block ≠ g1 := fun a h h0 => by have := hfa a h h0; omega
  have FB := Lib.hid hfb1
  have FA := Lib.hid hfa1
  have LE := Lib.hid (show EvIn w2 ⟨kind, who, m, name, bytes, ⟨od, of_, oc, on⟩⟩ B A bn bc n c from ⟨hbs, hbc, by simp only at hbl hbn; omega, hss, HSm.out.short, by have := HSm.out.name; simp only at this ⊢; omega, HIn.out.1, HIn.out.2.1, HIn.out.2.2⟩)
  clear hfb hfa hfb1 hfa1 hbl hbn hbs hss hb2 HSm HIn K1 KB KS
  dsimp only [evC]
  go_upto_region 2 with fail
  obtain ⟨g4, hg4⟩ : ∃ g, g = w2.heap.size := ⟨_, rfl⟩
  rw [← hg4]
  refine at_world (fun W => Blk W g1 37 zero9 ∧ Blk W g4 37 [.int .i64 kind, .int .i64 who, .int .i64 m, .string (T name), .slice B bn bc, .bool od, .bool of_, .bool oc, .slice A n c] ∧ EvIn W ⟨kind, who, m, name, bytes, ⟨od, of_, oc, on⟩⟩ B A bn bc n c ∧ Below w.heap.size w W) ⟨L1.out.alloc _, blk_new hg4, LE.out.below (by (repeat (first | assumption | exact Below.refl _ _ | (with_reducible apply Below.drew) | (with_reducible apply bl_drewN) | (with_reducible apply bl_alloc) | (with_reducible refine bl_then ?_ (by assumption))))), LB.out.alloc LB.out.size _⟩ ?_
  rintro W4 ⟨hb1, hb4, he, hbel⟩
  have M1 := Lib.hid hb1
  have M4 := Lib.hid hb4
  have ME := Lib.hid he
  have MB := Lib.hid hbel
  clear hb1 hb4 he hbel hg4 L1 LB LE
  have c0 : W4.cell? ⟨g4, 0, none⟩ = some (.int .i64 kind) := M4.out.cell 0
  have c1 : W4.cell? ⟨g4, 1, none⟩ = some (.int .i64 who) := M4.out.cell 1
  have c2 : W4.cell? ⟨g4, 2, none⟩ = some (.int .i64 m) := M4.out.cell 2
  have c3 : W4.cell? ⟨g4, 3, none⟩ = some (.string (T name)) := M4.out.cell 3
  have c4 : W4.cell? ⟨g4, 4, none⟩ = some (.slice B bn bc) := M4.out.cell 4
  have c5 : W4.cell? ⟨g4, 5, none⟩ = some (.bool od) := M4.out.cell 5
  have c6 : W4.cell? ⟨g4, 6, none⟩ = some (.bool of_) := M4.out.cell 6
  have c7 : W4.cell? ⟨g4, 7, none⟩ = some (.bool oc) := M4.out.cell 7
  have c8 : W4.cell? ⟨g4, 8, none⟩ = some (.slice A n c) := M4.out.cell 8
  have a0 : W4.cell? ⟨g1, 0, none⟩ = some (.int .i64 0) := M1.out.cell 0
  have a1 : W4.cell? ⟨g1, 1, none⟩ = some (.int .i64 0) := M1.out.cell 1
  have a2 : W4.cell? ⟨g1, 2, none⟩ = some (.int .i64 0) := M1.out.cell 2
  have a3 : W4.cell? ⟨g1, 3, none⟩ = some (.string ⟨#[]⟩) := M1.out.cell 3
  have a4 : W4.cell? ⟨g1, 4, none⟩ = some (.slice none 0 0) := M1.out.cell 4
  have a5 : W4.cell? ⟨g1, 5, none⟩ = some (.bool false) := M1.out.cell 5
  have a6 : W4.cell? ⟨g1, 6, none⟩ = some (.bool false) := M1.out.cell 6
  have a7 : W4.cell? ⟨g1, 7, none⟩ = some (.bool false) := M1.out.cell 7
  have a8 : W4.cell? ⟨g1, 8, none⟩ = some (.slice none 0 0) := M1.out.cell 8
  have z0 := M1.out.frozen 0
  have z1 := M1.out.frozen 1
  have z2 := M1.out.frozen 2
  have z3 := M1.out.frozen 3
  have z4 := M1.out.frozen 4
  have z5 := M1.out.frozen 5
  have z6 := M1.out.frozen 6
  have z7 := M1.out.frozen 7
  have z8 := M1.out.frozen 8
  obtain ⟨q, hq⟩ : ∃ q, decide (s = []) = q := ⟨_, rfl⟩
  rw [hq] at hem
  have HQ := Lib.hid hq
  clear hq
  cases okr with
  | false =>
    have HR := Lib.hid (HP.out.trans (if_neg (fun h => by cases h.1)))
    go_wp2_with fail
    refine bodyPost_ret (v := .tuple #[.agg #[.int .i64 0, .int .i64 0, .int .i64 0, .string ⟨#[]⟩, .slice none 0 0, .bool false, .bool false, .bool false, .slice none 0 0], .bool false]) ?_ rfl ⟨⟨none, 0, 0, none, 0, 0, by rw [HR.out]; rfl, by rw [HR.out]; exact evin0 _, Nat.le_refl _⟩, bl_set9 MB.out hgw _ _ _ _ _ _ _ _ _⟩
    rw [results_cell_tmp rfl]
    go_simp
  | true =>
  cases q with
  | true =>
    have HR := Lib.hid (HP.out.trans (if_neg (fun h => h.2.1 (of_decide_eq_true HQ.out))))
    go_wp2_with fail
    refine bodyPost_ret (v := .tuple #[.agg #[.int .i64 0, .int .i64 0, .int .i64 0, .string ⟨#[]⟩, .slice none 0 0, .bool false, .bool false, .bool false, .slice none 0 0], .bool false]) ?_ rfl ⟨⟨none, 0, 0, none, 0, 0, by rw [HR.out]; rfl, by rw [HR.out]; exact evin0 _, Nat.le_refl _⟩, bl_set9 MB.out hgw _ _ _ _ _ _ _ _ _⟩
    rw [results_cell_tmp rfl]
    go_simp
  | false =>
  have hsn := Lib.hid (of_decide_eq_false HQ.out)
  go_wp2_with fail
  refine (event_any ⟨kind, who, m, name, bytes, ⟨od, of_, oc, on⟩⟩ B A bn bc n c ME.out (HE.out.below MB.out)).mono ?_
  rintro r w5 ⟨rfl, hb5⟩
  have N1 := Lib.hid (M1.out.below hb5)
  have N4 := Lib.hid (M4.out.below hb5)
  have NE := Lib.hid (ME.out.below hb5)
  have NB := Lib.hid (MB.out.trans (hb5.mono MB.out.size))
  obtain ⟨t, ht⟩ : ∃ t, Rep.evT ⟨kind, who, m, name, bytes, ⟨od, of_, oc, on⟩⟩ = t := ⟨_, rfl⟩
  rw [ht]
  have HT := Lib.hid ht
  have hcmp := T_lbeq t s
  clear hb5 ht c0 c1 c2 c3 c4 c5 c6 c7 c8 a0 a1 a2 a3 a4 a5 a6 a7 a8 z0 z1 z2 z3 z4 z5 z6 z7 z8 M1 M4
  have c0 : w5.cell? ⟨g4, 0, none⟩ = some (.int .i64 kind) := N4.out.cell 0
  have c1 : w5.cell? ⟨g4, 1, none⟩ = some (.int .i64 who) := N4.out.cell 1
  have c2 : w5.cell? ⟨g4, 2, none⟩ = some (.int .i64 m) := N4.out.cell 2
  have c3 : w5.cell? ⟨g4, 3, none⟩ = some (.string (T name)) := N4.out.cell 3
  have c4 : w5.cell? ⟨g4, 4, none⟩ = some (.slice B bn bc) := N4.out.cell 4
  have c5 : w5.cell? ⟨g4, 5, none⟩ = some (.bool od) := N4.out.cell 5
  have c6 : w5.cell? ⟨g4, 6, none⟩ = some (.bool of_) := N4.out.cell 6
  have c7 : w5.cell? ⟨g4, 7, none⟩ = some (.bool oc) := N4.out.cell 7
  have c8 : w5.cell? ⟨g4, 8, none⟩ = some (.slice A n c) := N4.out.cell 8
  have a0 : w5.cell? ⟨g1, 0, none⟩ = some (.int .i64 0) := N1.out.cell 0
  have a1 : w5.cell? ⟨g1, 1, none⟩ = some (.int .i64 0) := N1.out.cell 1
  have a2 : w5.cell? ⟨g1, 2, none⟩ = some (.int .i64 0) := N1.out.cell 2
  have a3 : w5.cell? ⟨g1, 3, none⟩ = some (.string ⟨#[]⟩) := N1.out.cell 3
  have a4 : w5.cell? ⟨g1, 4, none⟩ = some (.slice none 0 0) := N1.out.cell 4
  have a5 : w5.cell? ⟨g1, 5, none⟩ = some (.bool false) := N1.out.cell 5
  have a6 : w5.cell? ⟨g1, 6, none⟩ = some (.bool false) := N1.out.cell 6
  have a7 : w5.cell? ⟨g1, 7, none⟩ = some (.bool false) := N1.out.cell 7
  have a8 : w5.cell? ⟨g1, 8, none⟩ = some (.slice none 0 0) := N1.out.cell 8
  have z0 := N1.out.frozen 0
  have z1 := N1.out.frozen 1
  have z2 := N1.out.frozen 2
  have z3 := N1.out.frozen 3
  have z4 := N1.out.frozen 4
  have z5 := N1.out.frozen 5
  have z6 := N1.out.frozen 6
  have z7 := N1.out.frozen 7
  have z8 := N1.out.frozen 8
  by_cases hts : t = s
  · have HR := Lib.hid (HP.out.trans (if_pos ⟨(by first | trivial | rfl), hsn.out, HT.out.trans hts⟩))
    rw [decide_eq_true hts] at hcmp
    clear hts
    go_wp2_with fail
    refine bodyPost_ret (v := .tuple #[.agg #[.int .i64 kind, .int .i64 who, .int .i64 m, .string (T name), .slice B bn bc, .bool od, .bool of_, .bool oc, .slice A n c], .bool true]) ?_ rfl ⟨⟨B, bn, bc, A, n, c, by rw [HR.out]; rfl, by rw [HR.out]; exact NE.out.set9 FB.out FA.out _ _ _ _ _ _ _ _ _, hc⟩, bl_set9 NB.out hgw _ _ _ _ _ _ _ _ _⟩
    rw [results_cell_tmp rfl]
    go_simp
  · have HR := Lib.hid (HP.out.trans (if_neg (fun h => hts (HT.out.symm.trans h.2.2))))
    rw [decide_eq_false hts] at hcmp
    clear hts
    go_wp2_with fail
    refine bodyPost_ret (v := .tuple #[.agg #[.int .i64 0, .int .i64 0, .int .i64 0, .string ⟨#[]⟩, .slice none 0 0, .bool false, .bool false, .bool false, .slice none 0 0], .bool false]) ?_ rfl ⟨⟨none, 0, 0, none, 0, 0, by rw [HR.out]; rfl, by rw [HR.out]; exact evin0 _, Nat.le_refl _⟩, bl_set9 NB.out hgw _ _ _ _ _ _ _ _ _⟩
    rw [results_cell_tmp rfl]
    go_simp
end Go.Proofs.YtkbgedaogfcdnaaDoor
