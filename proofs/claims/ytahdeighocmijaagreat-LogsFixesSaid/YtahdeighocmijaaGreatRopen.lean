/- The reference's OpenDone of a commit's bytes; its Trace; SameDone. -/
import Derived.Test.YtahdeighocmijaaGreatRput2
namespace Go.Proofs.YtahdeighocmijaaGreat
set_option linter.unusedSimpArgs false
set_option linter.unusedVariables false
open Go.RowKit
open Crc (Bytes)
open Cod (six held dig far numOf)

theorem sim_refl (s : List Int × Bool) : Sim s s := ⟨rfl, fun _ => rfl⟩
theorem qbytes_of {s : List Int × Bool} {top : Int} {x r : List Int} (h : rbytes s top = (x, (r, false))) : qbytes s top = (x, (r, false)) := by
  have h1 := sim_bytes (sim_refl s) top
  rw [h] at h1
  obtain ⟨h2, h3, h4⟩ := h1
  have h4 := h4 rfl
  simp only at h2 h3 h4
  rw [h2, h3, h4]
theorem qnum_of {s : List Int × Bool} {top : Int} {x : Int} {r : List Int} (h : rnum s top = (x, (r, false))) : qnum s top = (x, (r, false)) := by
  have h1 := sim_num (sim_refl s) top
  rw [h] at h1
  obtain ⟨h2, h3, h4⟩ := h1
  have h4 := h4 rfl
  simp only at h2 h3 h4
  rw [h2, h3, h4]
structure QDone (w : World) (d : Dn) (e : Ending) (w' : World) : Prop where
  out : ∃ X m xc, e = .returned (.tuple #[dnV d X m xc, .bool true]) ∧ d.p.length = m ∧ Own w' w.heap.size 5 1 X m xc (ints .u8 d.p) ∧ Bytes d.p
  bel : Below w.heap.size w w'
theorem QAt.blk {M : Nat} {w : World} {g : Nat} {l : List Int} {bad : Bool} (h : QAt M w g l bad) : ∃ t cs, Blk w g t cs ∧ t ≠ 5 := by
  obtain ⟨A, n, c, h1, _⟩ := h.out
  exact ⟨_, _, h1, by decide⟩
set_option maxRecDepth 100000 in
set_option maxHeartbeats 2000000 in
theorem qopen_raw (d : Dn) (A : Option Addr) (n c : Nat) (w : World) (hr : d.right = true) (h : Bs w A n d.raw) (hc : n ≤ c) :
    Calls Tryz.prog 29 #[.slice A n c] w (QDone w d) := by
  have hbd := Dn.right_bd hr
  have htl : (bl d.t).length = d.t.size := bl_len _
  have a4 := numB_held hbd.2.2.2.1
  have a5 := numB_held hbd.2.2.2.2.1
  have E1 := Lib.hid (qbytes_of (show rbytes (d.raw, false) 16 = (bl d.t, (six d.p.length ++ (d.p ++ (six d.who ++ six d.inc)), false)) by
    have := rbytes_app (bl d.t) (six d.p.length ++ (d.p ++ (six d.who ++ six d.inc))) 16 (by omega) (by omega)
    rw [← this]; unfold Dn.raw; simp only [List.append_assoc]))
  have E2 := Lib.hid (qbytes_of (rbytes_app d.p (six d.who ++ six d.inc) 4000 (by omega) (by omega)))
  have E3 := Lib.hid (show qnum (six d.who ++ six d.inc, false) 1099511627776 = (d.who, (six d.inc, false)) by
    have := qnum_of (rnum_app d.who (six d.inc) 1099511627776 (by omega)); rwa [a4.1] at this)
  have E4 := Lib.hid (show qnum (six d.inc, false) 1099511627776 = (d.inc, ([], false)) by
    have := qnum_of (rnum_app d.inc [] 1099511627776 (by omega)); rw [List.append_nil, a5.1] at this; exact this)
  have Hok := Lib.hid hbd.2.2.2.2.2
  have hts : d.t.size ≤ 140737488355328 := by omega
  have hpl := hbd.2.2.1
  have hxl : (bl d.t).length ≤ 140737488355328 := by omega
  have hpl2 : d.p.length ≤ 140737488355328 := by omega
  have hstr := str_bl d.t
  generalize hl1 : six d.p.length ++ (d.p ++ (six d.who ++ six d.inc)) = l1 at E1 E2
  generalize hl2 : six d.who ++ six d.inc = l2 at E2 E3
  generalize hl3 : six d.inc = l3 at E3 E4
  obtain ⟨x, hx⟩ : ∃ x, bl d.t = x := ⟨_, rfl⟩
  rw [hx] at E1 hxl hstr
  obtain ⟨l, hl⟩ : ∃ l, d.raw = l := ⟨_, rfl⟩
  rw [hl] at h E1
  have H := Lib.hid h
  have hlt := Lib.hid h.lt
  clear h hr hbd a4 a5 htl hl1 hl2 hl3 hx hl
  go_enter Tryz.func29, Tryz.ntmps29
  have hrd : QAt w.heap.size ((w.alloc (Obj.cells #[.string ⟨#[]⟩, .int .i64 0, .int .i64 0, .slice none 0 0] 30)).alloc (Obj.cells #[.slice A n c, .bool false] 95)) (w.heap.size + 1) l false := by
    have hb := Blk.new (w.alloc (Obj.cells #[.string ⟨#[]⟩, .int .i64 0, .int .i64 0, .slice none 0 0] 30)) 95 [.slice A n c, .bool false]
    rw [World.size_alloc] at hb
    exact ⟨A, n, c, hb, (H.out.alloc _).alloc _, hc, hlt.out, by omega⟩
  have hk := (Blk.new w 30 [.string ⟨#[]⟩, .int .i64 0, .int .i64 0, .slice none 0 0]).alloc (Obj.cells #[.slice A n c, .bool false] 95)
  have hb1 := bl_alloc (o := Obj.cells #[.slice A n c, .bool false] 95) (bl_alloc (o := Obj.cells #[.string ⟨#[]⟩, .int .i64 0, .int .i64 0, .slice none 0 0] 30) (Below.refl w.heap.size w))
  have HK := Lib.hid hk
  have HRD := Lib.hid hrd
  have HB1 := Lib.hid hb1
  clear hk hrd hb1
  go_wp2_with fail
  generalize hw1 : (w.alloc (Obj.cells #[.string ⟨#[]⟩, .int .i64 0, .int .i64 0, .slice none 0 0] 30)).alloc (Obj.cells #[.slice A n c, .bool false] 95) = w1 at *
  generalize hg0 : w.heap.size + 1 = g at *
  have hgne : w.heap.size ≠ g := by omega
  have hgw : w.heap.size ≤ g := by omega
  clear hw1
  refine (qbytes_eq w.heap.size g l false 16 _ _ E1.out HRD.out).mono ?_
  rintro e w2 ⟨⟨X1, m1, xc1, rfl, hm1, hown1, hno1⟩, hrd2, hby1, hon1⟩
  have HO1 := Lib.hid hon1
  have HX1 := Lib.hid (show Bs w2 X1 m1 x from by have hm := hm1.out; exact own_bs hown1 hby1 (by simp only at hm; omega))
  have HRD2 := Lib.hid (show QAt w.heap.size w2 g l1 false from hrd2)
  have HK2 := Lib.hid (HK.out.only hon1 (by simpa using hgne))
  have hs2 := conv_str (P := Tryz.prog) (src := 23) (dst := 9) (c := xc1) Tryz.underlying23 Tryz.underlying5 Tryz.underlying9 HX1.out
  rw [hstr] at hs2
  clear HK HRD hrd2 hown1 hm1 hno1 hby1
  go_wp2_with fail
  have hg2 : g < w2.heap.size := HRD2.out.lt
  have hgd : w2.heap.size ≠ g := by omega
  refine (qbytes_eq w.heap.size g l1 false 4000 _ _ E2.out (HRD2.out.below (bl_alloc (Below.refl _ _)))).mono ?_
  rintro e w3 ⟨⟨X2, m2, xc2, rfl, hm2, hown2, hno2⟩, hrd3, hby2, hon2⟩
  have hm2' : d.p.length = m2 := hm2.out
  have HOW2 := Lib.hid (show Own w3 (w2.heap.size + 1) 5 1 X2 m2 xc2 (ints .u8 d.p) by simpa using hown2)
  have HBY2 := Lib.hid (show Bytes d.p from hby2)
  have HD3 := Lib.hid ((Blk.new w2 30 [.string d.t, .int .i64 0, .int .i64 0, .slice none 0 0]).only hon2 (by simpa using hgd))
  have HO2 := Lib.hid hon2
  have HK3 := Lib.hid ((HK2.out.alloc (Obj.cells #[.string d.t, .int .i64 0, .int .i64 0, .slice none 0 0] 30)).only hon2 (by simpa using hgne))
  have HRD3 := Lib.hid (show QAt w.heap.size w3 g l2 false from hrd3)
  have hwd : w.heap.size < w2.heap.size := HK2.out.lt
  have cd3 : w3.cell? ⟨w2.heap.size, 3, none⟩ = some (.slice none 0 0) := HD3.out.cell 3
  have zd3 := HD3.out.frozen 3
  clear HK2 HRD2 hrd3 hown2 hm2 hno2 hby2 hon2 hs2
  go_wp2_with fail
  have hon3 : Only [w2.heap.size] w3 (w3.setCell ⟨w2.heap.size, 3, none⟩ (.slice X2 m2 xc2)) := (Only.refl _ _).setCell (.inl (by simp)) _
  have HO3 := Lib.hid hon3
  have HD4 := Lib.hid (HD3.out.set_ 3 (.slice X2 m2 xc2))
  have HK4 := Lib.hid (HK3.out.only hon3 (by simp; omega))
  have HRD4 := Lib.hid (HRD3.out.only hon3 (by simpa using fun e => hgd e.symm) (by simp; omega))
  have HOW4 := Lib.hid (HOW2.out.only hon3 (by simp))
  generalize hw4 : w3.setCell ⟨w2.heap.size, 3, none⟩ (.slice X2 m2 xc2) = w4 at *
  clear hw4 HD3 HK3 HRD3 HOW2 cd3 zd3 hon3
  refine (qnum_eq w.heap.size g l2 false 1099511627776 _ _ E3.out HRD4.out).mono ?_
  rintro e w5 ⟨rfl, hrd5, hon5⟩
  have HD5 := Lib.hid (HD4.out.only hon5 (by simpa using hgd))
  have HK5 := Lib.hid (HK4.out.only hon5 (by simpa using hgne))
  have HRD5 := Lib.hid (show QAt w.heap.size w5 g l3 false from hrd5)
  have HOW5 := Lib.hid (HOW4.out.only hon5 (by simp; omega))
  have HO5 := Lib.hid hon5
  clear HD4 HK4 HRD4 HOW4 hon5 hrd5
  go_wp2_with fail
  refine (qnum_eq w.heap.size g l3 false 1099511627776 _ _ E4.out HRD5.out).mono ?_
  rintro e w6 ⟨rfl, hrd6, hon6⟩
  have hd6 := HD5.out.only hon6 (by simpa using hgd)
  have HD6 := Lib.hid hd6
  have HK6 := Lib.hid (HK5.out.only hon6 (by simpa using hgne))
  have HRD6 := Lib.hid (show QAt w.heap.size w6 g [] false from hrd6)
  have HOW6 := Lib.hid (HOW5.out.only hon6 (by simp; omega))
  have HO6 := Lib.hid hon6
  have cd1 : w6.cell? ⟨w2.heap.size, 1, none⟩ = some (.int .i64 0) := hd6.cell 1
  have cd2 : w6.cell? ⟨w2.heap.size, 2, none⟩ = some (.int .i64 0) := hd6.cell 2
  have zd1 := hd6.frozen 1
  have zd2 := hd6.frozen 2
  clear HD5 HK5 HRD5 HOW5 hon6 hrd6 hd6
  go_wp2_with fail
  have hon7 : Only [w2.heap.size] w6 ((w6.setCell ⟨w2.heap.size, 1, none⟩ (.int .i64 d.who)).setCell ⟨w2.heap.size, 2, none⟩ (.int .i64 d.inc)) := ((Only.refl _ _).setCell (.inl (by simp)) _).setCell (.inl (by simp)) _
  have HO7 := Lib.hid hon7
  have hd7 : Blk ((w6.setCell ⟨w2.heap.size, 1, none⟩ (.int .i64 d.who)).setCell ⟨w2.heap.size, 2, none⟩ (.int .i64 d.inc)) w2.heap.size 30 [.string d.t, .int .i64 d.who, .int .i64 d.inc, .slice X2 m2 xc2] := (HD6.out.set_ 1 (.int .i64 d.who)).set_ 2 (.int .i64 d.inc)
  have HK7 := Lib.hid (HK6.out.only hon7 (by simp; omega))
  have HRD7 := Lib.hid (HRD6.out.only hon7 (by simpa using fun e => hgd e.symm) (by simp; omega))
  have HOW7 := Lib.hid (HOW6.out.only hon7 (by simp))
  generalize hw7 : (w6.setCell ⟨w2.heap.size, 1, none⟩ (.int .i64 d.who)).setCell ⟨w2.heap.size, 2, none⟩ (.int .i64 d.inc) = w7 at *
  have HD7 := Lib.hid hd7
  have q0 : w7.cell? ⟨w2.heap.size, 0, none⟩ = some (.string d.t) := hd7.cell 0
  have q1 : w7.cell? ⟨w2.heap.size, 1, none⟩ = some (.int .i64 d.who) := hd7.cell 1
  have q2 : w7.cell? ⟨w2.heap.size, 2, none⟩ = some (.int .i64 d.inc) := hd7.cell 2
  have q3 : w7.cell? ⟨w2.heap.size, 3, none⟩ = some (.slice X2 m2 xc2) := hd7.cell 3
  clear hw7 HD6 HK6 HRD6 HOW6 cd1 cd2 zd1 zd2 hon7 hd7
  have Hpm := Lib.hid hm2'
  have HW7 := Lib.hid (show Below w.heap.size w w7 from by
    have a := below_only HB1.out HO1.out (by simpa using hgw) HB1.out.size
    have a2 := a.alloc a.size (Obj.cells #[.string d.t, .int .i64 0, .int .i64 0, .slice none 0 0] 30)
    have a3 := below_only a2 HO2.out (by simpa using hgw) a2.size
    have a4 := below_only a3 HO3.out (by simp; omega) a3.size
    have a5 := below_only a4 HO5.out (by simpa using hgw) a4.size
    have a6 := below_only a5 HO6.out (by simpa using hgw) a5.size
    exact below_only a6 HO7.out (by simp; omega) a6.size)
  clear HB1 HO1 HO2 HO3 HO5 HO6 HO7
  refine (qend_any w.heap.size g [] false _ HRD7.out).mono ?_
  rintro e w' ⟨rfl, rfl⟩
  have k0 : w7.cell? ⟨w.heap.size, 0, none⟩ = some (.string ⟨#[]⟩) := HK7.out.cell 0
  have k1 : w7.cell? ⟨w.heap.size, 1, none⟩ = some (.int .i64 0) := HK7.out.cell 1
  have k2 : w7.cell? ⟨w.heap.size, 2, none⟩ = some (.int .i64 0) := HK7.out.cell 2
  have k3 : w7.cell? ⟨w.heap.size, 3, none⟩ = some (.slice none 0 0) := HK7.out.cell 3
  have z0 := HK7.out.frozen 0
  have z1 := HK7.out.frozen 1
  have z2 := HK7.out.frozen 2
  have z3 := HK7.out.frozen 3
  go_wp2_with fail
  refine (qok_any d.t _ hts).mono ?_
  rintro e w' ⟨rfl, rfl⟩
  rw [Hok.out]
  go_wp2_with fail
  refine bodyPost_ret (v := .tuple #[.agg #[.string d.t, .int .i64 d.who, .int .i64 d.inc, .slice X2 m2 xc2], .bool true]) ?_ rfl ⟨⟨X2, m2, xc2, rfl, Hpm.out, ?_, HBY2.out⟩, bl_set4 HW7.out (Nat.le_refl _) _ _ _ _⟩
  · rw [results_cell_tmp rfl]
    go_simp
  · exact (HOW7.out.only (bs := [w.heap.size]) (((((Only.refl _ _).setCell (.inl (by simp)) _).setCell (.inl (by simp)) _).setCell (.inl (by simp)) _).setCell (.inl (by simp)) _) (by simp; omega)).more (by omega)
end Go.Proofs.YtahdeighocmijaaGreat
