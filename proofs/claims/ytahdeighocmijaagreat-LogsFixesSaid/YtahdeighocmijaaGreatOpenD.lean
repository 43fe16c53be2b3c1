/- Records: OpenDone. -/
import Derived.Test.YtahdeighocmijaaGreatReco
import Derived.Laws.ResultCell
namespace Go.Proofs.YtahdeighocmijaaGreat
set_option linter.unusedSimpArgs false
set_option linter.unusedVariables false
open Go.RowKit
open Crc (Bytes)
open Cod (six held dig far numOf)

theorem Own.only {w w' : World} {base : Nat} {e : TypeId} {size n c : Nat} {A : Option Addr} {xs : List Value} {bs : List Nat} (h : Own w base e size A n c xs) (ho : Only bs w w') (hb : ∀ b ∈ bs, b < base) : Own w' base e size A n c xs :=
  h.keep fun g hg => by
    have h1 := h.blk g hg
    exact ho.block g h1.2 fun hin => by have := hb g hin; omega
theorem bl_set4 {B g : Nat} {w W : World} (h : Below B w W) (hg : B ≤ g) (v0 v1 v2 v3 : Value) : Below B w ((((W.setCell ⟨g, 0, none⟩ v0).setCell ⟨g, 1, none⟩ v1).setCell ⟨g, 2, none⟩ v2).setCell ⟨g, 3, none⟩ v3) :=
  (((h.setCell (p := ⟨g, 0, none⟩) hg v0).setCell (p := ⟨g, 1, none⟩) hg v1).setCell (p := ⟨g, 2, none⟩) hg v2).setCell (p := ⟨g, 3, none⟩) hg v3
/-- The commit of bytes. -/
def openD (l : List Int) : Option Dn :=
  if ((rnum (rnum (rbytes (rbytes (l, false) 16).2 4000).2 1099511627776).2 1099511627776).2 = ([], false)) ∧ Dn.right ⟨str (rbytes (l, false) 16).1, (rnum (rbytes (rbytes (l, false) 16).2 4000).2 1099511627776).1, (rnum (rnum (rbytes (rbytes (l, false) 16).2 4000).2 1099511627776).2 1099511627776).1, (rbytes (rbytes (l, false) 16).2 4000).1⟩ = true then some ⟨str (rbytes (l, false) 16).1, (rnum (rbytes (rbytes (l, false) 16).2 4000).2 1099511627776).1, (rnum (rnum (rbytes (rbytes (l, false) 16).2 4000).2 1099511627776).2 1099511627776).1, (rbytes (rbytes (l, false) 16).2 4000).1⟩ else none
theorem openD_eq {l : List Int} {x p : List Int} {s1 s2 s3 s4 : List Int × Bool} {who inc : Int} (h1 : rbytes (l, false) 16 = (x, s1)) (h2 : rbytes s1 4000 = (p, s2)) (h3 : rnum s2 1099511627776 = (who, s3)) (h4 : rnum s3 1099511627776 = (inc, s4)) :
    openD l = if s4 = ([], false) ∧ Dn.right ⟨str x, who, inc, p⟩ = true then some ⟨str x, who, inc, p⟩ else none := by
  unfold openD
  simp only [h1, h2, h3, h4]
def dn0 : Value := .agg #[.string "".toUTF8, .int .i64 0, .int .i64 0, .slice none 0 0]
structure ODone (w : World) (l : List Int) (e : Ending) (w' : World) : Prop where
  out : (openD l = none ∧ e = .returned (.tuple #[.agg #[.string ⟨#[]⟩, .int .i64 0, .int .i64 0, .slice none 0 0], .bool false])) ∨ ∃ d X m xc, openD l = some d ∧ e = .returned (.tuple #[dnV d X m xc, .bool true]) ∧ d.p.length = m ∧ Own w' w.heap.size 5 1 X m xc (ints .u8 d.p) ∧ Bytes d.p
  bel : Below w.heap.size w w'
set_option maxRecDepth 100000 in
set_option maxHeartbeats 2000000 in
theorem openDone_any (A : Option Addr) (n c : Nat) (l : List Int) (w : World) (h : Bs w A n l) :
    Calls Tryz.prog 67 #[.slice A n c] w (ODone w l) := by
  have H := Lib.hid h
  clear h
  obtain ⟨r1, e1⟩ : ∃ r, rbytes (l, false) 16 = r := ⟨_, rfl⟩
  obtain ⟨x, l1, b1⟩ := r1
  obtain ⟨r2, e2⟩ : ∃ r, rbytes (l1, b1) 4000 = r := ⟨_, rfl⟩
  obtain ⟨p, l2, b2⟩ := r2
  obtain ⟨r3, e3⟩ : ∃ r, rnum (l2, b2) 1099511627776 = r := ⟨_, rfl⟩
  obtain ⟨who, l3, b3⟩ := r3
  obtain ⟨r4, e4⟩ : ∃ r, rnum (l3, b3) 1099511627776 = r := ⟨_, rfl⟩
  obtain ⟨inc, l4, b4⟩ := r4
  have HO := Lib.hid (openD_eq e1 e2 e3 e4)
  have E1 := Lib.hid e1
  have E2 := Lib.hid e2
  have E3 := Lib.hid e3
  have E4 := Lib.hid e4
  clear e1 e2 e3 e4
  go_enter Tryz.func67, Tryz.ntmps67
  go_wp2_with fail
  refine (read_any A n c l _ (H.out.alloc _)).mono ?_
  rintro e w1 ⟨g, rfl, hrd, hg, hb1⟩
  have hk := (Blk.new w 30 [.string ⟨#[]⟩, .int .i64 0, .int .i64 0, .slice none 0 0]).below hb1
  have HK := Lib.hid hk
  have HRD := Lib.hid hrd
  have HB1 := Lib.hid ((bl_alloc (o := Obj.cells #[.string ⟨#[]⟩, .int .i64 0, .int .i64 0, .slice none 0 0] 30) (Below.refl w.heap.size w)).trans (hb1.mono (by simp)))
  have hgne : w.heap.size ≠ g := by simp at hg; omega
  have hgw : w.heap.size ≤ g := by simp at hg; omega
  clear hk hrd hb1 hg
  go_wp2_with fail
  refine (rbytes_eq g l false 16 _ _ E1.out HRD.out).mono ?_
  rintro e w2 ⟨⟨X1, m1, xc1, rfl, hm1, hown1, hno1⟩, hrd2, hby1, hon1⟩
  have HO1 := Lib.hid hon1
  have HX1 := Lib.hid (show Bs w2 X1 m1 x from by have hm := hm1.out; exact own_bs hown1 hby1 (by have := rbytes_le HRD.out E1.out; simp only at this hm; omega))
  have HRD2 := Lib.hid (show RdAt w2 g l1 b1 from hrd2)
  have HK2 := Lib.hid (HK.out.only hon1 (by simpa using hgne))
  have hs2 := conv_str (P := Tryz.prog) (src := 23) (dst := 9) (c := xc1) Tryz.underlying23 Tryz.underlying5 Tryz.underlying9 HX1.out
  clear HK HRD hrd2 hown1 hm1 hno1 hby1
  go_wp2_with fail
  have hg2 : g < w2.heap.size := HRD2.out.lt
  have hgd : w2.heap.size ≠ g := by omega
  refine (rbytes_eq g l1 b1 4000 _ _ E2.out HRD2.out.alloc).mono ?_
  rintro e w3 ⟨⟨X2, m2, xc2, rfl, hm2, hown2, hno2⟩, hrd3, hby2, hon2⟩
  have hm2' : p.length = m2 := hm2.out
  have HOW2 := Lib.hid (show Own w3 (w2.heap.size + 1) 5 1 X2 m2 xc2 (ints .u8 p) by simpa using hown2)
  have HBY2 := Lib.hid (show Bytes p from hby2)
  have HD3 := Lib.hid ((Blk.new w2 30 [.string (str x), .int .i64 0, .int .i64 0, .slice none 0 0]).only hon2 (by simpa using hgd))
  have HO2 := Lib.hid hon2
  have HK3 := Lib.hid ((HK2.out.alloc (Obj.cells #[.string (str x), .int .i64 0, .int .i64 0, .slice none 0 0] 30)).only hon2 (by simpa using hgne))
  have HRD3 := Lib.hid (show RdAt w3 g l2 b2 from hrd3)
  have hwd : w.heap.size < w2.heap.size := HK2.out.lt
  have cd3 : w3.cell? ⟨w2.heap.size, 3, none⟩ = some (.slice none 0 0) := HD3.out.cell 3
  have zd3 := HD3.out.frozen 3
  clear HK2 HRD2 hrd3 hown2 hm2 hno2 hby2 hon2 hs2
  go_wp2_with fail
  have hon3 : Only [w2.heap.size] w3 (w3.setCell ⟨w2.heap.size, 3, none⟩ (.slice X2 m2 xc2)) := (Only.refl _ _).setCell (.inl (by simp)) _
  have HO3 := Lib.hid hon3
  have HD4 := Lib.hid (HD3.out.set_ 3 (.slice X2 m2 xc2))
  have HK4 := Lib.hid (HK3.out.only hon3 (by simp; omega))
  have HRD4 := Lib.hid (HRD3.out.only hon3 (by simpa using fun e => hgd e.symm) (by intro b hb; simp at hb; subst hb; exact ⟨_, _, HD3.out, by decide⟩))
  have HOW4 := Lib.hid (HOW2.out.only hon3 (by simp))
  generalize hw4 : w3.setCell ⟨w2.heap.size, 3, none⟩ (.slice X2 m2 xc2) = w4 at *
  clear hw4 HD3 HK3 HRD3 HOW2 cd3 zd3 hon3
  refine (rnum_eq g l2 b2 1099511627776 _ _ E3.out HRD4.out).mono ?_
  rintro e w5 ⟨rfl, hrd5, hon5⟩
  have HD5 := Lib.hid (HD4.out.only hon5 (by simpa using hgd))
  have HK5 := Lib.hid (HK4.out.only hon5 (by simpa using hgne))
  have HRD5 := Lib.hid (show RdAt w5 g l3 b3 from hrd5)
  have HOW5 := Lib.hid (HOW4.out.only hon5 (by simp; omega))
  have HO5 := Lib.hid hon5
  clear HD4 HK4 HRD4 HOW4 hon5 hrd5
  go_wp2_with fail
  refine (rnum_eq g l3 b3 1099511627776 _ _ E4.out HRD5.out).mono ?_
  rintro e w6 ⟨rfl, hrd6, hon6⟩
  have hd6 := HD5.out.only hon6 (by simpa using hgd)
  have HD6 := Lib.hid hd6
  have HK6 := Lib.hid (HK5.out.only hon6 (by simpa using hgne))
  have HRD6 := Lib.hid (show RdAt w6 g l4 b4 from hrd6)
  have HOW6 := Lib.hid (HOW5.out.only hon6 (by simp; omega))
  have HO6 := Lib.hid hon6
  have cd1 : w6.cell? ⟨w2.heap.size, 1, none⟩ = some (.int .i64 0) := hd6.cell 1
  have cd2 : w6.cell? ⟨w2.heap.size, 2, none⟩ = some (.int .i64 0) := hd6.cell 2
  have zd1 := hd6.frozen 1
  have zd2 := hd6.frozen 2
  clear HD5 HK5 HRD5 HOW5 hon6 hrd6 hd6
  go_wp2_with fail
  have hon7 : Only [w2.heap.size] w6 ((w6.setCell ⟨w2.heap.size, 1, none⟩ (.int .i64 who)).setCell ⟨w2.heap.size, 2, none⟩ (.int .i64 inc)) := ((Only.refl _ _).setCell (.inl (by simp)) _).setCell (.inl (by simp)) _
  have HO7 := Lib.hid hon7
  have hd7 : Blk ((w6.setCell ⟨w2.heap.size, 1, none⟩ (.int .i64 who)).setCell ⟨w2.heap.size, 2, none⟩ (.int .i64 inc)) w2.heap.size 30 [.string (str x), .int .i64 who, .int .i64 inc, .slice X2 m2 xc2] := (HD6.out.set_ 1 (.int .i64 who)).set_ 2 (.int .i64 inc)
  have HK7 := Lib.hid (HK6.out.only hon7 (by simp; omega))
  have HRD7 := Lib.hid (HRD6.out.only hon7 (by simpa using fun e => hgd e.symm) (by intro b hb; simp at hb; subst hb; exact ⟨_, _, HD6.out, by decide⟩))
  have HOW7 := Lib.hid (HOW6.out.only hon7 (by simp))
  generalize hw7 : (w6.setCell ⟨w2.heap.size, 1, none⟩ (.int .i64 who)).setCell ⟨w2.heap.size, 2, none⟩ (.int .i64 inc) = w7 at *
  have HD7 := Lib.hid hd7
  have q0 : w7.cell? ⟨w2.heap.size, 0, none⟩ = some (.string (str x)) := hd7.cell 0
  have q1 : w7.cell? ⟨w2.heap.size, 1, none⟩ = some (.int .i64 who) := hd7.cell 1
  have q2 : w7.cell? ⟨w2.heap.size, 2, none⟩ = some (.int .i64 inc) := hd7.cell 2
  have q3 : w7.cell? ⟨w2.heap.size, 3, none⟩ = some (.slice X2 m2 xc2) := hd7.cell 3
  clear hw7 HD6 HK6 HRD6 HOW6 cd1 cd2 zd1 zd2 hon7 hd7
  have hxl : x.length ≤ 140737488355328 := by have := HX1.out.len; have := HX1.out.le; omega
  have Hxs := Lib.hid (show (Dn.mk (str x) who inc p).t.size ≤ 140737488355328 from by show (str x).size ≤ _; rw [str_size]; exact hxl)
  have Hpm := Lib.hid (show (Dn.mk (str x) who inc p).p.length = m2 from hm2')
  have HW7 := Lib.hid (show Below w.heap.size w w7 from by
    have a := below_only HB1.out HO1.out (by simpa using hgw) HB1.out.size
    have a2 := a.alloc a.size (Obj.cells #[.string (str x), .int .i64 0, .int .i64 0, .slice none 0 0] 30)
    have a3 := below_only a2 HO2.out (by simpa using hgw) a2.size
    have a4 := below_only a3 HO3.out (by simp; omega) a3.size
    have a5 := below_only a4 HO5.out (by simpa using hgw) a4.size
    have a6 := below_only a5 HO6.out (by simpa using hgw) a5.size
    exact below_only a6 HO7.out (by simp; omega) a6.size)
  clear HB1 HO1 HO2 HO3 HO5 HO6 HO7 hm2'
  refine (rend_any g l4 b4 _ HRD7.out).mono ?_
  rintro e w' ⟨rfl, rfl⟩
  obtain ⟨q, hq⟩ : ∃ q, (!b4 && l4.isEmpty) = q := ⟨_, rfl⟩
  rw [hq]
  have hq' : ((l4, b4) = ([], false)) ↔ q = true := by
    rw [← hq]; cases b4 <;> cases l4 <;> simp
  have HQ := Lib.hid hq'
  clear hq hq' HRD7 E1 E2 E3 E4 HX1 hxl
  have k0 : w7.cell? ⟨w.heap.size, 0, none⟩ = some (.string ⟨#[]⟩) := HK7.out.cell 0
  have k1 : w7.cell? ⟨w.heap.size, 1, none⟩ = some (.int .i64 0) := HK7.out.cell 1
  have k2 : w7.cell? ⟨w.heap.size, 2, none⟩ = some (.int .i64 0) := HK7.out.cell 2
  have k3 : w7.cell? ⟨w.heap.size, 3, none⟩ = some (.slice none 0 0) := HK7.out.cell 3
  have z0 := HK7.out.frozen 0
  have z1 := HK7.out.frozen 1
  have z2 := HK7.out.frozen 2
  have z3 := HK7.out.frozen 3
  cases q
  · have Hn := Lib.hid (HO.out.trans (if_neg (fun h => by have := HQ.out.1 h.1; cases this)))
    go_wp2_with fail
    refine bodyPost_ret (v := .tuple #[.agg #[.string ⟨#[]⟩, .int .i64 0, .int .i64 0, .slice none 0 0], .bool false]) ?_ rfl ⟨.inl ⟨Hn.out, rfl⟩, by (first | exact bl_set4 HW8.out (Nat.le_refl _) _ _ _ _ | exact bl_set4 HW7.out (Nat.le_refl _) _ _ _ _)⟩
    rw [results_cell_tmp rfl]
    go_simp
  · cases hr : Dn.right ⟨str x, who, inc, p⟩
    · have Hn := Lib.hid (HO.out.trans (if_neg (fun h => by have := h.2; rw [hr] at this; cases this)))
      have Hr := Lib.hid hr
      clear hr
      go_wp2_with fail
      refine (right_any ⟨str x, who, inc, p⟩ X2 m2 xc2 _ Hxs.out Hpm.out).mono ?_
      rintro e w8 ⟨rfl, hb8⟩
      rw [Hr.out]
      have HW8 := Lib.hid (HW7.out.trans (hb8.mono HW7.out.size))
      have HK8 := Lib.hid (HK7.out.below hb8)
      clear k0 k1 k2 k3 z0 z1 z2 z3 q0 q1 q2 q3 hb8
      have k0 : w8.cell? ⟨w.heap.size, 0, none⟩ = some (.string ⟨#[]⟩) := HK8.out.cell 0
      have k1 : w8.cell? ⟨w.heap.size, 1, none⟩ = some (.int .i64 0) := HK8.out.cell 1
      have k2 : w8.cell? ⟨w.heap.size, 2, none⟩ = some (.int .i64 0) := HK8.out.cell 2
      have k3 : w8.cell? ⟨w.heap.size, 3, none⟩ = some (.slice none 0 0) := HK8.out.cell 3
      have z0 := HK8.out.frozen 0
      have z1 := HK8.out.frozen 1
      have z2 := HK8.out.frozen 2
      have z3 := HK8.out.frozen 3
      go_wp2_with fail
      refine bodyPost_ret (v := .tuple #[.agg #[.string ⟨#[]⟩, .int .i64 0, .int .i64 0, .slice none 0 0], .bool false]) ?_ rfl ⟨.inl ⟨Hn.out, rfl⟩, by (first | exact bl_set4 HW8.out (Nat.le_refl _) _ _ _ _ | exact bl_set4 HW7.out (Nat.le_refl _) _ _ _ _)⟩
      rw [results_cell_tmp rfl]
      go_simp
    · have Hn := Lib.hid (HO.out.trans (if_pos ⟨HQ.out.2 rfl, hr⟩))
      have Hr := Lib.hid hr
      clear hr
      go_wp2_with fail
      refine (right_any ⟨str x, who, inc, p⟩ X2 m2 xc2 _ Hxs.out Hpm.out).mono ?_
      rintro e w8 ⟨rfl, hb8⟩
      rw [Hr.out]
      have HW8 := Lib.hid (HW7.out.trans (hb8.mono HW7.out.size))
      have HK8 := Lib.hid (HK7.out.below hb8)
      have HD8 := Lib.hid (HD7.out.below hb8)
      have HOW8 := Lib.hid (HOW7.out.below hb8)
      clear k0 k1 k2 k3 z0 z1 z2 z3 q0 q1 q2 q3 hb8
      have k0 : w8.cell? ⟨w.heap.size, 0, none⟩ = some (.string ⟨#[]⟩) := HK8.out.cell 0
      have k1 : w8.cell? ⟨w.heap.size, 1, none⟩ = some (.int .i64 0) := HK8.out.cell 1
      have k2 : w8.cell? ⟨w.heap.size, 2, none⟩ = some (.int .i64 0) := HK8.out.cell 2
      have k3 : w8.cell? ⟨w.heap.size, 3, none⟩ = some (.slice none 0 0) := HK8.out.cell 3
      have z0 := HK8.out.frozen 0
      have z1 := HK8.out.frozen 1
      have z2 := HK8.out.frozen 2
      have z3 := HK8.out.frozen 3
      have q0 : w8.cell? ⟨w2.heap.size, 0, none⟩ = some (.string (str x)) := HD8.out.cell 0
      have q1 : w8.cell? ⟨w2.heap.size, 1, none⟩ = some (.int .i64 who) := HD8.out.cell 1
      have q2 : w8.cell? ⟨w2.heap.size, 2, none⟩ = some (.int .i64 inc) := HD8.out.cell 2
      have q3 : w8.cell? ⟨w2.heap.size, 3, none⟩ = some (.slice X2 m2 xc2) := HD8.out.cell 3
      go_wp2_with fail
      refine bodyPost_ret (v := .tuple #[.agg #[.string (str x), .int .i64 who, .int .i64 inc, .slice X2 m2 xc2], .bool true]) ?_ rfl ⟨.inr ⟨⟨str x, who, inc, p⟩, X2, m2, xc2, Hn.out, rfl, Hpm.out, ?_, HBY2.out⟩, by (first | exact bl_set4 HW8.out (Nat.le_refl _) _ _ _ _ | exact bl_set4 HW7.out (Nat.le_refl _) _ _ _ _)⟩
      · rw [results_cell_tmp rfl]
        go_simp
      · refine (HOW8.out.only (bs := [w.heap.size]) (((((Only.refl _ _).setCell (.inl (by simp)) _).setCell (.inl (by simp)) _).setCell (.inl (by simp)) _).setCell (.inl (by simp)) _) (by simp; omega)).more (by omega)
end Go.Proofs.YtahdeighocmijaaGreat
