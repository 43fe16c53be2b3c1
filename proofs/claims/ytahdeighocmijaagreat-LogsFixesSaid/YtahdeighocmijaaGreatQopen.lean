/- The reference's OpenDone of bytes that are no commit; its Trace at any bytes. -/
import Derived.Test.YtahdeighocmijaaGreatRtrace
import Derived.Test.YtahdeighocmijaaGreatTrace2
namespace Go.Proofs.YtahdeighocmijaaGreat
set_option linter.unusedSimpArgs false
set_option linter.unusedVariables false
open Go.RowKit
open Crc (Bytes)
open Cod (six held dig far numOf)

theorem qnum_len {l l1 : List Int} {b b1 : Bool} {top n : Int} (h : qnum (l, b) top = (n, (l1, b1))) : l1.length ≤ l.length := by
  by_cases hb : b = true ∨ l.length < 6 ∨ top < numOf l
  · rw [qnum_bad hb] at h
    obtain ⟨rfl, rfl, rfl⟩ := by simpa using h
    exact Nat.le_refl _
  · have hb2 : b = false := by cases b; rfl; exact absurd (.inl rfl) hb
    subst hb2
    rw [qnum_good (by simp at hb; omega) (by simp at hb; omega)] at h
    have := (Prod.mk.inj (Prod.mk.inj h).2).1
    rw [← this, List.length_drop]; omega
theorem qbytes_len {l l1 x : List Int} {b b1 : Bool} {top : Int} (h : qbytes (l, b) top = (x, (l1, b1))) : x.length ≤ l.length := by
  obtain ⟨⟨n, m, c⟩, hn⟩ : ∃ q, qnum (l, b) top = q := ⟨_, rfl⟩
  have := qnum_len hn
  unfold qbytes at h
  rw [hn] at h
  simp only at h
  split at h
  · have := (Prod.mk.inj h).1; rw [← this]; simp
  · have := (Prod.mk.inj h).1; rw [← this, List.length_take]; omega
theorem sim_true {s t : List Int × Bool} (h : Sim s t) (ht : (!t.2 && t.1.isEmpty) = true) : s = ([], false) := by
  obtain ⟨l, b⟩ := s
  obtain ⟨m, c⟩ := t
  obtain ⟨h1, h2⟩ := h
  simp only at h1 h2
  subst h1
  cases b with
  | true => simp at ht
  | false =>
    have := h2 rfl
    subst this
    cases l with
    | nil => rfl
    | cons a r => simp at ht
/-- The reference finds none where the program finds none. -/
theorem openQ {l x p : List Int} {s1 s2 s3 : List Int × Bool} {l4 : List Int} {b4 : Bool} {who inc : Int} (hb : Bytes l) (e1 : qbytes (l, false) 16 = (x, s1)) (e2 : qbytes s1 4000 = (p, s2)) (e3 : qnum s2 1099511627776 = (who, s3)) (e4 : qnum s3 1099511627776 = (inc, (l4, b4))) (h : openD l = none) : (!b4 && l4.isEmpty) = false ∨ okB (str x) = false := by
  cases hq : (!b4 && l4.isEmpty) with
  | false => exact .inl rfl
  | true =>
    right
    cases hk : okB (str x) with
    | false => rfl
    | true =>
      exfalso
      obtain ⟨⟨x', l1', b1'⟩, f1⟩ : ∃ q, rbytes (l, false) 16 = q := ⟨_, rfl⟩
      obtain ⟨⟨p', l2', b2'⟩, f2⟩ : ∃ q, rbytes (l1', b1') 4000 = q := ⟨_, rfl⟩
      obtain ⟨⟨who', l3', b3'⟩, f3⟩ : ∃ q, rnum (l2', b2') 1099511627776 = q := ⟨_, rfl⟩
      obtain ⟨⟨inc', l4', b4'⟩, f4⟩ : ∃ q, rnum (l3', b3') 1099511627776 = q := ⟨_, rfl⟩
      have q1 := sim_bytes (sim_refl (l, false)) 16
      rw [f1, e1] at q1
      have q2 := sim_bytes q1.2 4000
      simp only at q2
      rw [f2, e2] at q2
      have q3 := sim_num q2.2 1099511627776
      simp only at q3
      rw [f3, e3] at q3
      have q4 := sim_num q3.2 1099511627776
      simp only at q4
      rw [f4, e4] at q4
      have z4 := sim_true q4.2 hq
      simp only at z4
      have z41 : l4' = [] := (Prod.mk.inj z4).1
      have z42 : b4' = false := (Prod.mk.inj z4).2
      subst z41 z42
      have hb3 : b3' = false := by
        cases b3' with
        | false => rfl
        | true => rw [rnum_bad (.inl rfl)] at f4; cases f4
      subst hb3
      have hb2 : b2' = false := by
        cases b2' with
        | false => rfl
        | true => rw [rnum_bad (.inl rfl)] at f3; cases f3
      subst hb2
      have hb1 : b1' = false := by
        cases b1' with
        | false => rfl
        | true => unfold rbytes at f2; rw [rnum_bad (.inl rfl)] at f2; simp at f2
      subst hb1
      have s1 := rbytes_canon hb (by decide) f1
      have hbl1 : Bytes l1' := fun y hy => hb y (by rw [s1.2.1]; simp [hy])
      have s2 := rbytes_canon hbl1 (by decide) f2
      have hbl2 : Bytes l2' := fun y hy => hbl1 y (by rw [s2.2.1]; simp [hy])
      have s3 := rnum_canon hbl2 (by decide) f3
      have hbl3 : Bytes l3' := fun y hy => hbl2 y (by rw [s3.2.1]; simp [hy])
      have s4 := rnum_canon hbl3 (by decide) f4
      have hr : Dn.right ⟨str x', who', inc', p'⟩ = true := by
        have hx : x' = x := q1.1
        rw [hx]
        unfold Dn.right numB
        have a1 := s2.2.2
        have a2 := s3.2.2.2
        have a3 := s4.2.2.2
        simp [hk]
        omega
      rw [openD_eq f1 f2 f3 f4, if_pos ⟨rfl, hr⟩] at h
      cases h
set_option maxRecDepth 100000 in
set_option maxHeartbeats 2000000 in
theorem qopen_none (A : Option Addr) (n c : Nat) (l : List Int) (w : World) (h : Bs w A n l) (hc : n ≤ c) (ho : openD l = none) :
    Calls Tryz.prog 29 #[.slice A n c] w fun e w' => e = .returned (.tuple #[.agg #[.string ⟨#[]⟩, .int .i64 0, .int .i64 0, .slice none 0 0], .bool false]) ∧ Below w.heap.size w w' := by
  obtain ⟨⟨x, l1, b1⟩, e1⟩ : ∃ q, qbytes (l, false) 16 = q := ⟨_, rfl⟩
  obtain ⟨⟨p, l2, b2⟩, e2⟩ : ∃ q, qbytes (l1, b1) 4000 = q := ⟨_, rfl⟩
  obtain ⟨⟨who, l3, b3⟩, e3⟩ : ∃ q, qnum (l2, b2) 1099511627776 = q := ⟨_, rfl⟩
  obtain ⟨⟨inc, l4, b4⟩, e4⟩ : ∃ q, qnum (l3, b3) 1099511627776 = q := ⟨_, rfl⟩
  have HQ := Lib.hid (openQ h.by_ e1 e2 e3 e4 ho)
  have hxl : x.length ≤ 140737488355328 := by have := qbytes_len e1; have := h.len; have := h.le; omega
  have E1 := Lib.hid e1
  have E2 := Lib.hid e2
  have E3 := Lib.hid e3
  have E4 := Lib.hid e4
  have H := Lib.hid h
  have hlt := Lib.hid h.lt
  clear h e1 e2 e3 e4 ho
  go_enter Tryz.func29, Tryz.ntmps29
  have hrd : QAt w.heap.size ((w.alloc (Obj.cells #[.string ⟨#[]⟩, .int .i64 0, .int .i64 0, .slice none 0 0] 30)).alloc (Obj.cells #[.slice A n c, .bool false] 95)) (w.heap.size + 1) l false := by
    have hb := Blk.new (w.alloc (Obj.cells #[.string ⟨#[]⟩, .int .i64 0, .int .i64 0, .slice none 0 0] 30)) 95 [.slice A n c, .bool false]
    rw [World.size_alloc] at hb
    exact ⟨A, n, c, hb, (H.out.alloc _).alloc _, hc, hlt.out, by omega⟩
  have hk := (Blk.new w 30 [.string ⟨#[]⟩, .int .i64 0, .int .i64 0, .slice none 0 0]).alloc (Obj.cells #[.slice A n c, .bool false] 95)
  have hb1 := bl_alloc (o := Obj.cells #[.slice A n c, .bool false] 95) (bl_alloc (o := Obj.cells #[.string ⟨#[]⟩, .int .i64 0, .int .i64 0, .slice none 0 0] 30) (Below.refl w.heap.size w))
  have HK := Lib.hid hk
  have HRD := Lib.hid hrd
  have HB1 := Lib.hid hb1
  clear hk hrd hb1
  go_wp2_with fail
  generalize hw1 : (w.alloc (Obj.cells #[.string ⟨#[]⟩, .int .i64 0, .int .i64 0, .slice none 0 0] 30)).alloc (Obj.cells #[.slice A n c, .bool false] 95) = w1 at *
  generalize hg0 : w.heap.size + 1 = g at *
  have hgne : w.heap.size ≠ g := by omega
  have hgw : w.heap.size ≤ g := by omega
  clear hw1
  refine (qbytes_eq w.heap.size g l false 16 _ _ E1.out HRD.out).mono ?_
  rintro e w2 ⟨⟨X1, m1, xc1, rfl, hm1, hown1, hno1⟩, hrd2, hby1, hon1⟩
  have HO1 := Lib.hid hon1
  have HX1 := Lib.hid (show Bs w2 X1 m1 x from by have hm := hm1.out; exact own_bs hown1 hby1 (by simp only at hm; omega))
  have HRD2 := Lib.hid (show QAt w.heap.size w2 g l1 b1 from hrd2)
  have HK2 := Lib.hid (HK.out.only hon1 (by simpa using hgne))
  have hs2 := conv_str (P := Tryz.prog) (src := 23) (dst := 9) (c := xc1) Tryz.underlying23 Tryz.underlying5 Tryz.underlying9 HX1.out
  clear HK HRD hrd2 hown1 hm1 hno1 hby1
  go_wp2_with fail
  have hg2 : g < w2.heap.size := HRD2.out.lt
  have hgd : w2.heap.size ≠ g := by omega
  refine (qbytes_eq w.heap.size g l1 b1 4000 _ _ E2.out (HRD2.out.below (bl_alloc (Below.refl _ _)))).mono ?_
  rintro e w3 ⟨⟨X2, m2, xc2, rfl, hm2, hown2, hno2⟩, hrd3, hby2, hon2⟩
  have hm2' : p.length = m2 := hm2.out
  have HOW2 := Lib.hid (show Own w3 (w2.heap.size + 1) 5 1 X2 m2 xc2 (ints .u8 p) by simpa using hown2)
  have HBY2 := Lib.hid (show Bytes p from hby2)
  have HD3 := Lib.hid ((Blk.new w2 30 [.string (str x), .int .i64 0, .int .i64 0, .slice none 0 0]).only hon2 (by simpa using hgd))
  have HO2 := Lib.hid hon2
  have HK3 := Lib.hid ((HK2.out.alloc (Obj.cells #[.string (str x), .int .i64 0, .int .i64 0, .slice none 0 0] 30)).only hon2 (by simpa using hgne))
  have HRD3 := Lib.hid (show QAt w.heap.size w3 g l2 b2 from hrd3)
  have hwd : w.heap.size < w2.heap.size := HK2.out.lt
  have cd3 : w3.cell? ⟨w2.heap.size, 3, none⟩ = some (.slice none 0 0) := HD3.out.cell 3
  have zd3 := HD3.out.frozen 3
  clear HK2 HRD2 hrd3 hown2 hm2 hno2 hby2 hon2 hs2
  go_wp2_with fail
  have hon3 : Only [w2.heap.size] w3 (w3.setCell ⟨w2.heap.size, 3, none⟩ (.slice X2 m2 xc2)) := (Only.refl _ _).setCell (.inl (by simp)) _
  have HO3 := Lib.hid hon3
  have HD4 := Lib.hid (HD3.out.set_ 3 (.slice X2 m2 xc2))
  have HK4 := Lib.hid (HK3.out.only hon3 (by simp; omega))
  have HRD4 := Lib.hid (HRD3.out.only hon3 (by simpa using fun e => hgd e.symm) (by simp; omega))
  have HOW4 := Lib.hid (HOW2.out.only hon3 (by simp))
  generalize hw4 : w3.setCell ⟨w2.heap.size, 3, none⟩ (.slice X2 m2 xc2) = w4 at *
  clear hw4 HD3 HK3 HRD3 HOW2 cd3 zd3 hon3
  refine (qnum_eq w.heap.size g l2 b2 1099511627776 _ _ E3.out HRD4.out).mono ?_
  rintro e w5 ⟨rfl, hrd5, hon5⟩
  have HD5 := Lib.hid (HD4.out.only hon5 (by simpa using hgd))
  have HK5 := Lib.hid (HK4.out.only hon5 (by simpa using hgne))
  have HRD5 := Lib.hid (show QAt w.heap.size w5 g l3 b3 from hrd5)
  have HOW5 := Lib.hid (HOW4.out.only hon5 (by simp; omega))
  have HO5 := Lib.hid hon5
  clear HD4 HK4 HRD4 HOW4 hon5 hrd5
  go_wp2_with fail
  refine (qnum_eq w.heap.size g l3 b3 1099511627776 _ _ E4.out HRD5.out).mono ?_
  rintro e w6 ⟨rfl, hrd6, hon6⟩
  have hd6 := HD5.out.only hon6 (by simpa using hgd)
  have HD6 := Lib.hid hd6
  have HK6 := Lib.hid (HK5.out.only hon6 (by simpa using hgne))
  have HRD6 := Lib.hid (show QAt w.heap.size w6 g l4 b4 from hrd6)
  have HOW6 := Lib.hid (HOW5.out.only hon6 (by simp; omega))
  have HO6 := Lib.hid hon6
  have cd1 : w6.cell? ⟨w2.heap.size, 1, none⟩ = some (.int .i64 0) := hd6.cell 1
  have cd2 : w6.cell? ⟨w2.heap.size, 2, none⟩ = some (.int .i64 0) := hd6.cell 2
  have zd1 := hd6.frozen 1
  have zd2 := hd6.frozen 2
  clear HD5 HK5 HRD5 HOW5 hon6 hrd6 hd6
  go_wp2_with fail
  have hon7 : Only [w2.heap.size] w6 ((w6.setCell ⟨w2.heap.size, 1, none⟩ (.int .i64 who)).setCell ⟨w2.heap.size, 2, none⟩ (.int .i64 inc)) := ((Only.refl _ _).setCell (.inl (by simp)) _).setCell (.inl (by simp)) _
  have HO7 := Lib.hid hon7
  have hd7 : Blk ((w6.setCell ⟨w2.heap.size, 1, none⟩ (.int .i64 who)).setCell ⟨w2.heap.size, 2, none⟩ (.int .i64 inc)) w2.heap.size 30 [.string (str x), .int .i64 who, .int .i64 inc, .slice X2 m2 xc2] := (HD6.out.set_ 1 (.int .i64 who)).set_ 2 (.int .i64 inc)
  have HK7 := Lib.hid (HK6.out.only hon7 (by simp; omega))
  have HRD7 := Lib.hid (HRD6.out.only hon7 (by simpa using fun e => hgd e.symm) (by simp; omega))
  have HOW7 := Lib.hid (HOW6.out.only hon7 (by simp))
  generalize hw7 : (w6.setCell ⟨w2.heap.size, 1, none⟩ (.int .i64 who)).setCell ⟨w2.heap.size, 2, none⟩ (.int .i64 inc) = w7 at *
  have HD7 := Lib.hid hd7
  have q0 : w7.cell? ⟨w2.heap.size, 0, none⟩ = some (.string (str x)) := hd7.cell 0
  have q1 : w7.cell? ⟨w2.heap.size, 1, none⟩ = some (.int .i64 who) := hd7.cell 1
  have q2 : w7.cell? ⟨w2.heap.size, 2, none⟩ = some (.int .i64 inc) := hd7.cell 2
  have q3 : w7.cell? ⟨w2.heap.size, 3, none⟩ = some (.slice X2 m2 xc2) := hd7.cell 3
  clear hw7 HD6 HK6 HRD6 HOW6 cd1 cd2 zd1 zd2 hon7 hd7
  have Hpm := Lib.hid hm2'
  have HW7 := Lib.hid (show Below w.heap.size w w7 from by
    have a := below_only HB1.out HO1.out (by simpa using hgw) HB1.out.size
    have a2 := a.alloc a.size (Obj.cells #[.string (str x), .int .i64 0, .int .i64 0, .slice none 0 0] 30)
    have a3 := below_only a2 HO2.out (by simpa using hgw) a2.size
    have a4 := below_only a3 HO3.out (by simp; omega) a3.size
    have a5 := below_only a4 HO5.out (by simpa using hgw) a4.size
    have a6 := below_only a5 HO6.out (by simpa using hgw) a5.size
    exact below_only a6 HO7.out (by simp; omega) a6.size)
  clear HB1 HO1 HO2 HO3 HO5 HO6 HO7
  refine (qend_any w.heap.size g l4 b4 _ HRD7.out).mono ?_
  rintro e w' ⟨rfl, rfl⟩
  obtain ⟨q, hq⟩ : ∃ q, (!b4 && l4.isEmpty) = q := ⟨_, rfl⟩
  rw [hq] at HQ ⊢
  have hts : (str x).size ≤ 140737488355328 := by rw [str_size]; exact hxl
  have k0 : w7.cell? ⟨w.heap.size, 0, none⟩ = some (.string ⟨#[]⟩) := HK7.out.cell 0
  have k1 : w7.cell? ⟨w.heap.size, 1, none⟩ = some (.int .i64 0) := HK7.out.cell 1
  have k2 : w7.cell? ⟨w.heap.size, 2, none⟩ = some (.int .i64 0) := HK7.out.cell 2
  have k3 : w7.cell? ⟨w.heap.size, 3, none⟩ = some (.slice none 0 0) := HK7.out.cell 3
  have z0 := HK7.out.frozen 0
  have z1 := HK7.out.frozen 1
  have z2 := HK7.out.frozen 2
  have z3 := HK7.out.frozen 3
  cases q
  · go_wp2_with fail
    refine bodyPost_ret (v := .tuple #[.agg #[.string ⟨#[]⟩, .int .i64 0, .int .i64 0, .slice none 0 0], .bool false]) ?_ rfl ⟨rfl, bl_set4 HW7.out (Nat.le_refl _) _ _ _ _⟩
    rw [results_cell_tmp rfl]
    go_simp
  · have Hk := Lib.hid (show okB (str x) = false by rcases HQ.out with h | h; cases h; exact h)
    go_wp2_with fail
    refine (qok_any (str x) _ hts).mono ?_
    rintro e w' ⟨rfl, rfl⟩
    rw [Hk.out]
    go_wp2_with fail
    refine bodyPost_ret (v := .tuple #[.agg #[.string ⟨#[]⟩, .int .i64 0, .int .i64 0, .slice none 0 0], .bool false]) ?_ rfl ⟨rfl, bl_set4 HW7.out (Nat.le_refl _) _ _ _ _⟩
    rw [results_cell_tmp rfl]
    go_simp
end Go.Proofs.YtahdeighocmijaaGreat
