/- The reference's whole and OpenLock at any bytes. -/
import Derived.Test.YtahdeighocmijaaGreatDoorLockO
import Derived.Test.YtahdeighocmijaaGreatDoorRfram
namespace Go.Proofs.YtahdeighocmijaaGreatDoor
set_option linter.unusedSimpArgs false
set_option linter.unusedVariables false
open Go.RowKit
open Crc (Bytes)
open Cod (six held)
set_option maxRecDepth 100000 in
set_option maxHeartbeats 2000000 in
theorem rwhole_any (A : Option Addr) (n c : Nat) (l : List Int) (w : World) (h : Bs w A n l) (hcap : n ≤ c) (hn : n ≤ 5000000) : Calls Tryz.prog 25 #[.slice A n c] w (Alone w l) := by
  have H := Lib.hid h
  have hl := h.len
  clear h
  go_enter Tryz.func25, Tryz.ntmps25
  go_wp2_with fail
  refine (rscan_any A n c l _ H.out hcap (by omega)).mono ?_
  rintro e w1 ⟨⟨fs, k, O, oc, rfl, hfr, hnone, hok, hrd⟩, hbel⟩
  have hal := alone_of hfr hnone
  rw [List.length_map] at hal
  have HB := Lib.hid hbel
  have HRD := Lib.hid hrd
  have HOK := Lib.hid hok
  clear hfr hnone hok hrd hbel
  rcases hal with ⟨x, h1, h2, h3⟩ | ⟨h3, h4⟩
  · obtain ⟨f, rfl⟩ : ∃ f, fs = [f] := by
      cases fs with
      | nil => simp at h1
      | cons f r => cases r with
        | nil => exact ⟨f, rfl⟩
        | cons g r => simp at h1
    have hx : f.x = x := by simpa [Fx.pair] using h1
    have hkn : k = n := by omega
    subst hkn
    obtain ⟨ad, hA, hlt, hc⟩ := HRD.out.at_ (by simp)
    have hc0 : w1.cell? ad = some (.slice f.A f.m f.d) := by
      have := hc 0 (.slice f.A f.m f.d) rfl
      rwa [show ad.add 0 = ad from rfl] at this
    subst hA
    have hfo := HOK.out f (by simp)
    have HFO := Lib.hid (show Bs w1 f.A f.m x ∧ f.m ≤ f.d from ⟨by have := hfo.bs; rwa [hx] at this, hfo.cap⟩)
    have H3 := Lib.hid h3
    clear h1 h2 h3 hc hlt hfo hx hl
    go_wp2_with fail
    go_ret2
    exact ⟨.inr ⟨x, f.A, f.m, f.d, H3.out, rfl, HFO.out.1, HFO.out.2⟩, HB.out⟩
  · have H3 := Lib.hid h3
    clear h3
    by_cases hf : fs.length = 1
    · have hk : ((k : Int) == (n : Int)) = false := by rw [beq_eq_false_iff_ne]; intro e; exact h4 ⟨hf, by omega⟩
      have hf1 : ((fs.length : Int) != 1) = false := by simp [hf]
      clear hf h4
      go_wp2_with fail
      go_ret2
      exact ⟨.inl ⟨H3.out, rfl⟩, HB.out⟩
    · have hf1 : ((fs.length : Int) == 1) = false := by rw [beq_eq_false_iff_ne]; omega
      clear h4 hf
      go_wp2_with fail
      go_ret2
      exact ⟨.inl ⟨H3.out, rfl⟩, HB.out⟩
/-- The reference's reader reads what the program's does. -/
theorem fourQ {x : List Int} {n1 n2 n3 n4 : Int} {s1 s2 s3 : List Int × Bool} {l4 : List Int} {b4 : Bool} (h1 : qnum (x, false) lkTop = (n1, s1)) (h2 : qnum s1 lkTop = (n2, s2)) (h3 : qnum s2 lkTop = (n3, s3)) (h4 : qnum s3 lkTop = (n4, (l4, b4))) :
    fourL x = if (!b4 && l4.isEmpty) = true then some ⟨n1, n2, n3, n4⟩ else none := by
  obtain ⟨r1, e1⟩ : ∃ r, rnum (x, false) lkTop = r := ⟨_, rfl⟩
  obtain ⟨r2, e2⟩ : ∃ r, rnum r1.2 lkTop = r := ⟨_, rfl⟩
  obtain ⟨r3, e3⟩ : ∃ r, rnum r2.2 lkTop = r := ⟨_, rfl⟩
  obtain ⟨r4, e4⟩ : ∃ r, rnum r3.2 lkTop = r := ⟨_, rfl⟩
  have q1 := sim_num (s := (x, false)) (t := (x, false)) ⟨rfl, fun _ => rfl⟩ lkTop
  rw [h1, e1] at q1
  have q2 := sim_num q1.2 lkTop
  rw [h2, e2] at q2
  have q3 := sim_num q2.2 lkTop
  rw [h3, e3] at q3
  have q4 := sim_num q3.2 lkTop
  rw [h4, e4] at q4
  rw [fourL_eq (n1 := r1.1) (s1 := r1.2) (n2 := r2.1) (s2 := r2.2) (n3 := r3.1) (s3 := r3.2) (n4 := r4.1) (s4 := r4.2) e1 e2 e3 e4]
  have a1 : r1.1 = n1 := q1.1
  have a2 : r2.1 = n2 := q2.1
  have a3 : r3.1 = n3 := q3.1
  have a4 : r4.1 = n4 := q4.1
  rw [a1, a2, a3, a4]
  obtain ⟨y, l', b'⟩ := r4
  have b1 : b' = b4 := q4.2.1
  have b2 : b' = false → l' = l4 := q4.2.2
  subst b1
  cases b' with
  | true => rw [if_neg (by simp), if_neg (by simp)]
  | false =>
    have := b2 rfl
    subst this
    cases l' with
    | nil => rw [if_pos rfl]; rfl
    | cons a r => rw [if_neg (by simp), if_neg (by simp)]
set_option maxRecDepth 100000 in
set_option maxHeartbeats 2000000 in
theorem ropenlock_any (A : Option Addr) (n c : Nat) (l : List Int) (w : World) (h : Bs w A n l) (hcap : n ≤ c) (hn : n ≤ 5000000) :
    Calls Tryz.prog 14 #[.slice A n c] w fun e w' => e = .returned (.tuple #[lkV ((openLk l).getD lk0), .bool (openLk l).isSome]) ∧ Below w.heap.size w w' := by
  have H := Lib.hid h
  clear h
  go_enter Tryz.func14, Tryz.ntmps14
  go_wp2_with fail
  refine (rwhole_any A n c l _ (H.out.alloc _) hcap hn).mono ?_
  rintro e w1 ⟨hal, hb1⟩
  obtain ⟨x, okb, XA, xn, xc, rfl, hx, hxc, hop⟩ : ∃ x okb XA xn xc, e = .returned (.tuple #[.slice XA xn xc, .bool okb]) ∧ Bs w1 XA xn x ∧ xn ≤ xc ∧ openLk l = if okb = true then fourL x else none := by
    rcases hal with ⟨h1, h2⟩ | ⟨x, XA, xn, xc, h1, h2, h3, h4⟩
    · exact ⟨[], false, none, 0, 0, h2, Bs.nil _ _, Nat.le_refl _, by rw [openLk_none h1]; rfl⟩
    · exact ⟨x, true, XA, xn, xc, h2, h3, h4, by rw [openLk_some h1]; rfl⟩
  have HX := Lib.hid hx
  have HOP := Lib.hid hop
  have HK := Lib.hid ((Blk.new w 28 [.int .i64 0, .int .i64 0, .int .i64 0, .int .i64 0]).below hb1)
  have HB1 := Lib.hid (bl_then (bl_alloc (Below.refl _ _)) hb1)
  have hsz1 : w.heap.size < w1.heap.size := HK.out.lt
  clear hal hb1 hx hop
  go_upto_region 3 with fail
  obtain ⟨M, hM⟩ : ∃ M, M = w1.heap.size := ⟨_, rfl⟩
  obtain ⟨g, hg⟩ : ∃ g, g = w1.heap.size := ⟨_, rfl⟩
  rw [← hg]
  refine at_world (fun W => QAt M W g x false ∧ Blk W w.heap.size 28 [.int .i64 0, .int .i64 0, .int .i64 0, .int .i64 0] ∧ Below w.heap.size w W) ⟨⟨XA, xn, xc, blk_new hg, HX.out.alloc _, hxc, fun ad hA h0 => hM ▸ HX.out.lt ad hA h0, by omega⟩, HK.out.alloc _, HB1.out.alloc HB1.out.size _⟩ ?_
  have hgw : w.heap.size ≤ g := by omega
  have hgne : w.heap.size ≠ g := by omega
  clear HX HK HB1 hM hg hxc
  rintro w2 ⟨k1, k2, k3⟩
  have HRD := Lib.hid k1
  have HK2 := Lib.hid k2
  have HB2 := Lib.hid k3
  clear k1 k2 k3
  obtain ⟨⟨who, l1, b1⟩, e1⟩ : ∃ r, qnum (x, false) lkTop = r := ⟨_, rfl⟩
  obtain ⟨⟨inc, l2, b2⟩, e2⟩ : ∃ r, qnum (l1, b1) lkTop = r := ⟨_, rfl⟩
  obtain ⟨⟨ep, l3, b3⟩, e3⟩ : ∃ r, qnum (l2, b2) lkTop = r := ⟨_, rfl⟩
  obtain ⟨⟨till, l4, b4⟩, e4⟩ : ∃ r, qnum (l3, b3) lkTop = r := ⟨_, rfl⟩
  have HFL := Lib.hid (fourQ e1 e2 e3 e4)
  have E1 := Lib.hid e1
  have E2 := Lib.hid e2
  have E3 := Lib.hid e3
  have E4 := Lib.hid e4
  clear e1 e2 e3 e4
  go_wp2_with fail
  refine (qnum_eq M g x false 1099511627776 _ _ E1.out HRD.out).mono ?_
  rintro e w3 ⟨rfl, hrd3, hon3⟩
  have HRD3 := Lib.hid (show QAt M w3 g l1 b1 from hrd3)
  have HK3 := Lib.hid (HK2.out.only hon3 (by simpa using hgne))
  have HB3 := Lib.hid (below_only HB2.out hon3 (by simpa using hgw) HB2.out.size)
  clear hrd3 hon3 HRD HK2 HB2
  go_wp2_with fail
  refine (qnum_eq M g l1 b1 1099511627776 _ _ E2.out HRD3.out).mono ?_
  rintro e w4 ⟨rfl, hrd4, hon4⟩
  have HRD4 := Lib.hid (show QAt M w4 g l2 b2 from hrd4)
  have HK4 := Lib.hid (HK3.out.only hon4 (by simpa using hgne))
  have HB4 := Lib.hid (below_only HB3.out hon4 (by simpa using hgw) HB3.out.size)
  clear hrd4 hon4 HRD3 HK3 HB3
  go_wp2_with fail
  refine (qnum_eq M g l2 b2 1099511627776 _ _ E3.out HRD4.out).mono ?_
  rintro e w6 ⟨rfl, hrd6, hon6⟩
  have HRD6 := Lib.hid (show QAt M w6 g l3 b3 from hrd6)
  have HK6 := Lib.hid (HK4.out.only hon6 (by simpa using hgne))
  have HB6 := Lib.hid (below_only HB4.out hon6 (by simpa using hgw) HB4.out.size)
  clear hrd6 hon6 HRD4 HK4 HB4
  go_wp2_with fail
  refine (qnum_eq M g l3 b3 1099511627776 _ _ E4.out HRD6.out).mono ?_
  rintro e w7 ⟨rfl, hrd7, hon7⟩
  have HRD7 := Lib.hid (show QAt M w7 g l4 b4 from hrd7)
  have HK7 := Lib.hid (HK6.out.only hon7 (by simpa using hgne))
  have HB7 := Lib.hid (below_only HB6.out hon7 (by simpa using hgw) HB6.out.size)
  clear hrd7 hon7 HRD6 HK6 HB6
  go_upto_region 4 with fail
  obtain ⟨gl, hgl⟩ : ∃ gl, gl = w7.heap.size := ⟨_, rfl⟩
  rw [← hgl]
  refine at_world (fun W => Blk W gl 28 [.int .i64 who, .int .i64 inc, .int .i64 ep, .int .i64 till] ∧ Blk W w.heap.size 28 [.int .i64 0, .int .i64 0, .int .i64 0, .int .i64 0] ∧ QAt M W g l4 b4 ∧ Below w.heap.size w W) ⟨blk_new hgl, HK7.out.alloc _, HRD7.out.below (bl_alloc (Below.refl _ _)), HB7.out.alloc HB7.out.size _⟩ ?_
  clear HRD7 HK7 HB7 hgl
  rintro w8 ⟨k1, k2, k3, k4⟩
  have HL8 := Lib.hid k1
  have HK8 := Lib.hid k2
  have HRD8 := Lib.hid k3
  have HB8 := Lib.hid k4
  clear k1 k2 k3 k4
  have q0 : w8.cell? ⟨gl, 0, none⟩ = some (.int .i64 who) := HL8.out.cell 0
  have q1 : w8.cell? ⟨gl, 1, none⟩ = some (.int .i64 inc) := HL8.out.cell 1
  have q2 : w8.cell? ⟨gl, 2, none⟩ = some (.int .i64 ep) := HL8.out.cell 2
  have q3 : w8.cell? ⟨gl, 3, none⟩ = some (.int .i64 till) := HL8.out.cell 3
  have k0 : w8.cell? ⟨w.heap.size, 0, none⟩ = some (.int .i64 0) := HK8.out.cell 0
  have k1 : w8.cell? ⟨w.heap.size, 1, none⟩ = some (.int .i64 0) := HK8.out.cell 1
  have k2 : w8.cell? ⟨w.heap.size, 2, none⟩ = some (.int .i64 0) := HK8.out.cell 2
  have k3 : w8.cell? ⟨w.heap.size, 3, none⟩ = some (.int .i64 0) := HK8.out.cell 3
  have z0 := HK8.out.frozen 0
  have z1 := HK8.out.frozen 1
  have z2 := HK8.out.frozen 2
  have z3 := HK8.out.frozen 3
  cases okb
  · have Hn := Lib.hid (show openLk l = none from HOP.out.trans (if_neg (by simp)))
    go_wp2_with fail
    refine bodyPost_ret (v := .tuple #[.agg #[.int .i64 0, .int .i64 0, .int .i64 0, .int .i64 0], .bool false]) ?_ rfl ⟨by rw [Hn.out]; rfl, bl_setq HB8.out (Nat.le_refl _) _ _ _ _⟩
    rw [results_cell_tmp rfl]
    go_simp
  obtain ⟨q, hq⟩ : ∃ q, (!b4 && l4.isEmpty) = q := ⟨_, rfl⟩
  have Hq := Lib.hid hq
  have HOP2 := Lib.hid (show openLk l = if q = true then some ⟨who, inc, ep, till⟩ else none from by rw [HOP.out, if_pos rfl, HFL.out, hq])
  clear hq HOP
  go_wp2_with fail
  refine (qend_any M g l4 b4 _ HRD8.out).mono ?_
  rintro e w' ⟨rfl, rfl⟩
  rw [Hq.out]
  cases q
  · have Hn := Lib.hid (show openLk l = none from HOP2.out.trans (if_neg (by simp)))
    go_wp2_with fail
    refine bodyPost_ret (v := .tuple #[.agg #[.int .i64 0, .int .i64 0, .int .i64 0, .int .i64 0], .bool false]) ?_ rfl ⟨by rw [Hn.out]; rfl, bl_setq HB8.out (Nat.le_refl _) _ _ _ _⟩
    rw [results_cell_tmp rfl]
    go_simp
  · have Hn := Lib.hid (show openLk l = some ⟨who, inc, ep, till⟩ from HOP2.out.trans (if_pos rfl))
    go_wp2_with fail
    refine bodyPost_ret (v := .tuple #[.agg #[.int .i64 who, .int .i64 inc, .int .i64 ep, .int .i64 till], .bool true]) ?_ rfl ⟨by rw [Hn.out]; rfl, bl_setq HB8.out (Nat.le_refl _) _ _ _ _⟩
    rw [results_cell_tmp rfl]
    go_simp
end Go.Proofs.YtahdeighocmijaaGreatDoor
