/- Locks: reco.OpenLock; lock.Look. -/
import Derived.Test.YtahdeighocmijaaGreatDoorLockR
namespace Go.Proofs.YtahdeighocmijaaGreatDoor
set_option linter.unusedSimpArgs false
set_option linter.unusedVariables false
open Go.RowKit
open Crc (Bytes)
open Cod (six held)

theorem openLk_none {l : List Int} (h : aloneF l = none) : openLk l = none := by unfold openLk; rw [h]
theorem openLk_some {l x : List Int} (h : aloneF l = some x) : openLk l = fourL x := by unfold openLk; rw [h]
theorem bl_set2 {B g i j : Nat} {w W : World} (h : Below B w W) (hg : B ≤ g) (v0 v1 : Value) : Below B w ((W.setCell ⟨g, i, none⟩ v0).setCell ⟨g, j, none⟩ v1) :=
  (h.setCell (p := ⟨g, i, none⟩) hg v0).setCell (p := ⟨g, j, none⟩) hg v1
theorem bl_setq {B g : Nat} {w W : World} (h : Below B w W) (hg : B ≤ g) (v0 v1 v2 v3 : Value) : Below B w ((((W.setCell ⟨g, 0, none⟩ v0).setCell ⟨g, 1, none⟩ v1).setCell ⟨g, 2, none⟩ v2).setCell ⟨g, 3, none⟩ v3) :=
  (((h.setCell (p := ⟨g, 0, none⟩) hg v0).setCell (p := ⟨g, 1, none⟩) hg v1).setCell (p := ⟨g, 2, none⟩) hg v2).setCell (p := ⟨g, 3, none⟩) hg v3
set_option maxRecDepth 100000 in
set_option maxHeartbeats 2000000 in
theorem openlock_any (A : Option Addr) (n c : Nat) (l : List Int) (w : World) (h : Bs w A n l) (hn : n ≤ 5000000) :
    Calls Tryz.prog 55 #[.slice A n c] w fun e w' => e = .returned (.tuple #[lkV ((openLk l).getD lk0), .bool (openLk l).isSome]) ∧ Below w.heap.size w w' := by
  have H := Lib.hid h
  clear h
  go_enter Tryz.func55, Tryz.ntmps55
  go_wp2_with fail
  refine (alone_any A n c l _ (H.out.alloc _) hn).mono ?_
  rintro e w1 ⟨hal, hb1⟩
  obtain ⟨x, okb, XA, xn, xc, rfl, hx, hop⟩ : ∃ x okb XA xn xc, e = .returned (.tuple #[.slice XA xn xc, .bool okb]) ∧ Bs w1 XA xn x ∧ openLk l = if okb = true then fourL x else none := by
    rcases hal with ⟨h1, h2⟩ | ⟨x, XA, xn, xc, h1, h2, h3, h4⟩
    · exact ⟨[], false, none, 0, 0, h2, Bs.nil _ _, by rw [openLk_none h1]; rfl⟩
    · exact ⟨x, true, XA, xn, xc, h2, h3, by rw [openLk_some h1]; rfl⟩
  have HX := Lib.hid hx
  have HOP := Lib.hid hop
  have HK := Lib.hid ((Blk.new w 28 [.int .i64 0, .int .i64 0, .int .i64 0, .int .i64 0]).below hb1)
  have HB1 := Lib.hid (bl_then (bl_alloc (Below.refl _ _)) hb1)
  have hsz1 : w.heap.size < w1.heap.size := HK.out.lt
  clear hal hb1 hx hop
  go_wp2_with fail
  refine (read_any XA xn xc x _ HX.out).mono ?_
  rintro e w2 ⟨g, rfl, hrd, hg, hb2⟩
  have HRD := Lib.hid hrd
  have HK2 := Lib.hid (HK.out.below hb2)
  have HB2 := Lib.hid (HB1.out.trans (hb2.mono HB1.out.size))
  have hgw : w.heap.size ≤ g := by omega
  have hgne : w.heap.size ≠ g := by omega
  obtain ⟨⟨who, l1, b1⟩, e1⟩ : ∃ r, rnum (x, false) lkTop = r := ⟨_, rfl⟩
  obtain ⟨⟨inc, l2, b2⟩, e2⟩ : ∃ r, rnum (l1, b1) lkTop = r := ⟨_, rfl⟩
  obtain ⟨⟨ep, l3, b3⟩, e3⟩ : ∃ r, rnum (l2, b2) lkTop = r := ⟨_, rfl⟩
  obtain ⟨⟨till, l4, b4⟩, e4⟩ : ∃ r, rnum (l3, b3) lkTop = r := ⟨_, rfl⟩
  have HFL := Lib.hid (fourL_eq e1 e2 e3 e4)
  have E1 := Lib.hid e1
  have E2 := Lib.hid e2
  have E3 := Lib.hid e3
  have E4 := Lib.hid e4
  clear e1 e2 e3 e4 hrd hb2 HK HB1 HX hg
  go_wp2_with fail
  refine (rnum_eq g x false 1099511627776 _ _ E1.out HRD.out).mono ?_
  rintro e w3 ⟨rfl, hrd3, hon3⟩
  have HRD3 := Lib.hid (show RdAt w3 g l1 b1 from hrd3)
  have HK3 := Lib.hid (HK2.out.only hon3 (by simpa using hgne))
  have HB3 := Lib.hid (below_only HB2.out hon3 (by simpa using hgw) HB2.out.size)
  clear hrd3 hon3 HRD HK2 HB2
  go_wp2_with fail
  refine (rnum_eq g l1 b1 1099511627776 _ _ E2.out HRD3.out).mono ?_
  rintro e w4 ⟨rfl, hrd4, hon4⟩
  have HRD4 := Lib.hid (show RdAt w4 g l2 b2 from hrd4)
  have HK4 := Lib.hid (HK3.out.only hon4 (by simpa using hgne))
  have HB4 := Lib.hid (below_only HB3.out hon4 (by simpa using hgw) HB3.out.size)
  have hg4 : g < w4.heap.size := HRD4.out.lt
  clear hrd4 hon4 HRD3 HK3 HB3
  go_upto_region 4 with fail
  obtain ⟨gl, hgl⟩ : ∃ gl, gl = w4.heap.size := ⟨_, rfl⟩
  rw [← hgl]
  refine at_world (fun W => Blk W gl 28 [.int .i64 who, .int .i64 inc, .int .i64 0, .int .i64 0] ∧ Blk W w.heap.size 28 [.int .i64 0, .int .i64 0, .int .i64 0, .int .i64 0] ∧ RdAt W g l2 b2 ∧ Below w.heap.size w W) ⟨blk_new hgl, HK4.out.alloc _, HRD4.out.alloc, HB4.out.alloc HB4.out.size _⟩ ?_
  have hgl1 : gl ≠ g := by omega
  have hgl2 : w.heap.size < gl := by omega
  clear HRD4 HK4 HB4 hgl
  rintro W ⟨k1, k2, k3, k4⟩
  have HL := Lib.hid k1
  have HK5 := Lib.hid k2
  have HRD5 := Lib.hid k3
  have HB5 := Lib.hid k4
  clear k1 k2 k3 k4
  go_wp2_with fail
  refine (rnum_eq g l2 b2 1099511627776 _ _ E3.out HRD5.out).mono ?_
  rintro e w6 ⟨rfl, hrd6, hon6⟩
  have HRD6 := Lib.hid (show RdAt w6 g l3 b3 from hrd6)
  have HK6 := Lib.hid (HK5.out.only hon6 (by simpa using hgne))
  have HL6 := Lib.hid (HL.out.only hon6 (by simpa using hgl1))
  have HB6 := Lib.hid (below_only HB5.out hon6 (by simpa using hgw) HB5.out.size)
  clear hrd6 hon6 HRD5 HK5 HL HB5
  go_wp2_with fail
  refine (rnum_eq g l3 b3 1099511627776 _ _ E4.out HRD6.out).mono ?_
  rintro e w7 ⟨rfl, hrd7, hon7⟩
  have HRD7 := Lib.hid (show RdAt w7 g l4 b4 from hrd7)
  have HK7 := Lib.hid (HK6.out.only hon7 (by simpa using hgne))
  have hl7 := HL6.out.only hon7 (by simpa using hgl1)
  have HL7 := Lib.hid hl7
  have HB7 := Lib.hid (below_only HB6.out hon7 (by simpa using hgw) HB6.out.size)
  have c2 : w7.cell? ⟨gl, 2, none⟩ = some (.int .i64 0) := hl7.cell 2
  have c3 : w7.cell? ⟨gl, 3, none⟩ = some (.int .i64 0) := hl7.cell 3
  have z2 := hl7.frozen 2
  have z3 := hl7.frozen 3
  clear hrd7 hon7 HRD6 HK6 HL6 HB6 hl7
  go_upto_region 5 with fail
  have hon8 : Only [gl] w7 ((w7.setCell ⟨gl, 2, none⟩ (.int .i64 ep)).setCell ⟨gl, 3, none⟩ (.int .i64 till)) := ((Only.refl _ _).setCell (.inl (by simp)) _).setCell (.inl (by simp)) _
  have hl8 : Blk ((w7.setCell ⟨gl, 2, none⟩ (.int .i64 ep)).setCell ⟨gl, 3, none⟩ (.int .i64 till)) gl 28 [.int .i64 who, .int .i64 inc, .int .i64 ep, .int .i64 till] := (HL7.out.set_ 2 _).set_ 3 _
  have HB8 := Lib.hid (bl_set2 HB7.out (by omega : w.heap.size ≤ gl) (.int .i64 ep) (.int .i64 till) (i := 2) (j := 3))
  have HK8 := Lib.hid (HK7.out.only hon8 (by simp; omega))
  have HRD8 := Lib.hid (HRD7.out.only hon8 (by simpa using fun e => hgl1 e.symm) (by intro b hb; simp at hb; subst hb; exact ⟨_, _, HL7.out, by decide⟩))
  generalize hw8 : (w7.setCell ⟨gl, 2, none⟩ (.int .i64 ep)).setCell ⟨gl, 3, none⟩ (.int .i64 till) = w8 at *
  have HL8 := Lib.hid hl8
  clear hw8 hon8 hl8 c2 c3 z2 z3 HL7 HB7 HK7 HRD7
  have q0 : w8.cell? ⟨gl, 0, none⟩ = some (.int .i64 who) := HL8.out.cell 0
  have q1 : w8.cell? ⟨gl, 1, none⟩ = some (.int .i64 inc) := HL8.out.cell 1
  have q2 : w8.cell? ⟨gl, 2, none⟩ = some (.int .i64 ep) := HL8.out.cell 2
  have q3 : w8.cell? ⟨gl, 3, none⟩ = some (.int .i64 till) := HL8.out.cell 3
  have k0 : w8.cell? ⟨w.heap.size, 0, none⟩ = some (.int .i64 0) := HK8.out.cell 0
  have k1 : w8.cell? ⟨w.heap.size, 1, none⟩ = some (.int .i64 0) := HK8.out.cell 1
  have k2 : w8.cell? ⟨w.heap.size, 2, none⟩ = some (.int .i64 0) := HK8.out.cell 2
  have k3 : w8.cell? ⟨w.heap.size, 3, none⟩ = some (.int .i64 0) := HK8.out.cell 3
  have z0 := HK8.out.frozen 0
  have z1 := HK8.out.frozen 1
  have z2 := HK8.out.frozen 2
  have z3 := HK8.out.frozen 3
  cases okb
  · have Hn := Lib.hid (show openLk l = none from HOP.out.trans (if_neg (by simp)))
    go_wp2_with fail
    refine bodyPost_ret (v := .tuple #[.agg #[.int .i64 0, .int .i64 0, .int .i64 0, .int .i64 0], .bool false]) ?_ rfl ⟨by rw [Hn.out]; rfl, bl_setq HB8.out (Nat.le_refl _) _ _ _ _⟩
    rw [results_cell_tmp rfl]
    go_simp
  obtain ⟨q, hq⟩ : ∃ q, (!b4 && l4.isEmpty) = q := ⟨_, rfl⟩
  have hq' : ((l4, b4) = ([], false)) ↔ q = true := by
    rw [← hq]; cases b4 <;> cases l4 <;> simp
  have HQ := Lib.hid hq'
  have Hq := Lib.hid hq
  have HOP2 := Lib.hid (show openLk l = fourL x from HOP.out.trans (if_pos rfl))
  clear hq hq' HOP
  go_wp2_with fail
  refine (rend_any g l4 b4 _ HRD8.out).mono ?_
  rintro e w' ⟨rfl, rfl⟩
  rw [Hq.out]
  cases q
  · have Hn := Lib.hid (show openLk l = none from HOP2.out.trans (HFL.out.trans (if_neg (fun h => by have := HQ.out.1 h; cases this))))
    go_wp2_with fail
    refine bodyPost_ret (v := .tuple #[.agg #[.int .i64 0, .int .i64 0, .int .i64 0, .int .i64 0], .bool false]) ?_ rfl ⟨by rw [Hn.out]; rfl, bl_setq HB8.out (Nat.le_refl _) _ _ _ _⟩
    rw [results_cell_tmp rfl]
    go_simp
  · have Hn := Lib.hid (show openLk l = some ⟨who, inc, ep, till⟩ from HOP2.out.trans (HFL.out.trans (if_pos (HQ.out.2 rfl))))
    go_wp2_with fail
    refine bodyPost_ret (v := .tuple #[.agg #[.int .i64 who, .int .i64 inc, .int .i64 ep, .int .i64 till], .bool true]) ?_ rfl ⟨by rw [Hn.out]; rfl, bl_setq HB8.out (Nat.le_refl _) _ _ _ _⟩
    rw [results_cell_tmp rfl]
    go_simp
set_option maxRecDepth 100000 in
set_option maxHeartbeats 4000000 in
theorem look_any (A : Option Addr) (n c : Nat) (l : List Int) (who inc now : Int) (w : World) (h : Bs w A n l) (hn : n ≤ 5000000) :
    Calls Tryz.prog 32 #[.slice A n c, .int .i64 who, .int .i64 inc, .int .i64 now] w fun e w' => e = .returned (.tuple #[lkV (lookL (openLk l) who inc now).1, .int .i64 (lookL (openLk l) who inc now).2]) ∧ Below w.heap.size w w' := by
  have H := Lib.hid h
  clear h
  go_enter Tryz.func32, Tryz.ntmps32
  go_wp2_with fail
  refine (openlock_any A n c l _ (H.out.alloc _) hn).mono ?_
  rintro e w1 ⟨rfl, hb1⟩
  have HK := Lib.hid ((Blk.new w 28 [.int .i64 0, .int .i64 0, .int .i64 0, .int .i64 0]).below hb1)
  have HB1 := Lib.hid (bl_then (bl_alloc (Below.refl _ _)) hb1)
  have hsz : w.heap.size < w1.heap.size := HK.out.lt
  obtain ⟨o, ho⟩ : ∃ o, openLk l = o := ⟨_, rfl⟩
  have Ho := Lib.hid ho
  clear hb1 H ho
  obtain ⟨m, hm⟩ : ∃ m, o.getD lk0 = m := ⟨_, rfl⟩
  have HM := Lib.hid hm
  rw [Ho.out, hm]
  unfold lkV
  go_upto_region 2 with fail
  obtain ⟨gl, hgl⟩ : ∃ gl, gl = w1.heap.size := ⟨_, rfl⟩
  rw [← hgl]
  refine at_world (fun W => Blk W gl 28 [.int .i64 m.who, .int .i64 m.inc, .int .i64 m.epoch, .int .i64 m.till] ∧ Blk W w.heap.size 28 [.int .i64 0, .int .i64 0, .int .i64 0, .int .i64 0] ∧ Below w.heap.size w W) ⟨blk_new hgl, HK.out.alloc _, HB1.out.alloc HB1.out.size _⟩ ?_
  have hgl2 : w.heap.size < gl := by omega
  clear HK HB1 hgl hm
  rintro W ⟨k1, k2, k4⟩
  have HL := Lib.hid k1
  have HK5 := Lib.hid k2
  have HB5 := Lib.hid k4
  have q0 : W.cell? ⟨gl, 0, none⟩ = some (.int .i64 m.who) := k1.cell 0
  have q1 : W.cell? ⟨gl, 1, none⟩ = some (.int .i64 m.inc) := k1.cell 1
  have q2 : W.cell? ⟨gl, 2, none⟩ = some (.int .i64 m.epoch) := k1.cell 2
  have q3 : W.cell? ⟨gl, 3, none⟩ = some (.int .i64 m.till) := k1.cell 3
  have k0 : W.cell? ⟨w.heap.size, 0, none⟩ = some (.int .i64 0) := k2.cell 0
  have kk1 : W.cell? ⟨w.heap.size, 1, none⟩ = some (.int .i64 0) := k2.cell 1
  have kk2 : W.cell? ⟨w.heap.size, 2, none⟩ = some (.int .i64 0) := k2.cell 2
  have kk3 : W.cell? ⟨w.heap.size, 3, none⟩ = some (.int .i64 0) := k2.cell 3
  have z0 := k2.frozen 0
  have z1 := k2.frozen 1
  have z2 := k2.frozen 2
  have z3 := k2.frozen 3
  clear k1 k2 k4
  cases o with
  | none =>
    have hm0 : m = lk0 := HM.out.symm
    have HLO := Lib.hid (show lookL none who inc now = (m, 1) by rw [hm0]; rfl)
    clear hm0
    go_wp2_with fail
    refine bodyPost_ret (v := .tuple #[.agg #[.int .i64 m.who, .int .i64 m.inc, .int .i64 m.epoch, .int .i64 m.till], .int .i64 1]) ?_ rfl ⟨by rw [Ho.out, HLO.out]; rfl, bl_setq HB5.out (Nat.le_refl _) _ _ _ _⟩; rw [results_cell_tmp rfl]; go_simp
  | some l1 =>
    obtain rfl : m = l1 := HM.out.symm
    by_cases he : m.epoch = 1099511627776
    · have HLO := Lib.hid (show lookL (some m) who inc now = (m, 1) by unfold lookL; exact if_pos he)
      have heb : (m.epoch == 1099511627776) = true := by rw [beq_iff_eq]; exact he
      clear he
      go_wp2_with fail
      refine bodyPost_ret (v := .tuple #[.agg #[.int .i64 m.who, .int .i64 m.inc, .int .i64 m.epoch, .int .i64 m.till], .int .i64 1]) ?_ rfl ⟨by rw [Ho.out, HLO.out]; rfl, bl_setq HB5.out (Nat.le_refl _) _ _ _ _⟩; rw [results_cell_tmp rfl]; go_simp
    have heb : (m.epoch == 1099511627776) = false := by rw [beq_eq_false_iff_ne]; exact he
    have HE := Lib.hid (show ¬ m.epoch = lkTop from he)
    clear he
    by_cases hmine : m.who = who ∧ m.inc = inc ∧ now < m.till
    · have HLO := Lib.hid (show lookL (some m) who inc now = (m, 2) by unfold lookL; simp only; rw [if_neg HE.out, if_pos hmine])
      obtain ⟨m1, m2, m3⟩ := hmine
      have m1b : (m.who == who) = true := by rw [beq_iff_eq]; exact m1
      have m2b : (m.inc == inc) = true := by rw [beq_iff_eq]; exact m2
      clear m1 m2
      go_wp2_with fail
      refine bodyPost_ret (v := .tuple #[.agg #[.int .i64 m.who, .int .i64 m.inc, .int .i64 m.epoch, .int .i64 m.till], .int .i64 2]) ?_ rfl ⟨by rw [Ho.out, HLO.out]; rfl, bl_setq HB5.out (Nat.le_refl _) _ _ _ _⟩; rw [results_cell_tmp rfl]; go_simp
    · by_cases hopen : m.till ≤ now ∨ (m.who = who ∧ m.inc < inc)
      · have HLO := Lib.hid (show lookL (some m) who inc now = (m, 3) by unfold lookL; simp only; rw [if_neg HE.out, if_neg hmine, if_pos hopen])
        by_cases ht : m.till ≤ now
        · have ht2 : ¬ now < m.till := by omega
          by_cases hw1 : m.who = who
          · have m1b : (m.who == who) = true := by rw [beq_iff_eq]; exact hw1
            by_cases hi1 : m.inc = inc
            · have m2b : (m.inc == inc) = true := by rw [beq_iff_eq]; exact hi1
              clear hw1 hi1 hmine hopen
              go_wp2_with fail
              refine bodyPost_ret (v := .tuple #[.agg #[.int .i64 m.who, .int .i64 m.inc, .int .i64 m.epoch, .int .i64 m.till], .int .i64 3]) ?_ rfl ⟨by rw [Ho.out, HLO.out]; rfl, bl_setq HB5.out (Nat.le_refl _) _ _ _ _⟩; rw [results_cell_tmp rfl]; go_simp
            · have m2b : (m.inc == inc) = false := by rw [beq_eq_false_iff_ne]; exact hi1
              clear hw1 hi1 hmine hopen
              go_wp2_with fail
              refine bodyPost_ret (v := .tuple #[.agg #[.int .i64 m.who, .int .i64 m.inc, .int .i64 m.epoch, .int .i64 m.till], .int .i64 3]) ?_ rfl ⟨by rw [Ho.out, HLO.out]; rfl, bl_setq HB5.out (Nat.le_refl _) _ _ _ _⟩; rw [results_cell_tmp rfl]; go_simp
          · have m1b : (m.who == who) = false := by rw [beq_eq_false_iff_ne]; exact hw1
            clear hw1 hmine hopen
            go_wp2_with fail
            refine bodyPost_ret (v := .tuple #[.agg #[.int .i64 m.who, .int .i64 m.inc, .int .i64 m.epoch, .int .i64 m.till], .int .i64 3]) ?_ rfl ⟨by rw [Ho.out, HLO.out]; rfl, bl_setq HB5.out (Nat.le_refl _) _ _ _ _⟩; rw [results_cell_tmp rfl]; go_simp
        · obtain ⟨hw1, hi1⟩ := hopen.resolve_left ht
          have m1b : (m.who == who) = true := by rw [beq_iff_eq]; exact hw1
          have m2b : (m.inc == inc) = false := by rw [beq_eq_false_iff_ne]; omega
          clear hw1 hmine hopen
          go_wp2_with fail
          refine bodyPost_ret (v := .tuple #[.agg #[.int .i64 m.who, .int .i64 m.inc, .int .i64 m.epoch, .int .i64 m.till], .int .i64 3]) ?_ rfl ⟨by rw [Ho.out, HLO.out]; rfl, bl_setq HB5.out (Nat.le_refl _) _ _ _ _⟩; rw [results_cell_tmp rfl]; go_simp
      · have HLO := Lib.hid (show lookL (some m) who inc now = (m, 4) by unfold lookL; simp only; rw [if_neg HE.out, if_neg hmine, if_neg hopen])
        have ht : ¬ m.till ≤ now := fun h => hopen (.inl h)
        have ht2 : now < m.till := by omega
        by_cases hw1 : m.who = who
        · have m1b : (m.who == who) = true := by rw [beq_iff_eq]; exact hw1
          have hi1 : ¬ m.inc = inc := fun h => hmine ⟨hw1, h, ht2⟩
          have hi2 : ¬ m.inc < inc := fun h => hopen (.inr ⟨hw1, h⟩)
          have m2b : (m.inc == inc) = false := by rw [beq_eq_false_iff_ne]; exact hi1
          clear hw1 hi1 hmine hopen
          go_wp2_with fail
          refine bodyPost_ret (v := .tuple #[.agg #[.int .i64 m.who, .int .i64 m.inc, .int .i64 m.epoch, .int .i64 m.till], .int .i64 4]) ?_ rfl ⟨by rw [Ho.out, HLO.out]; rfl, bl_setq HB5.out (Nat.le_refl _) _ _ _ _⟩; rw [results_cell_tmp rfl]; go_simp
        · have m1b : (m.who == who) = false := by rw [beq_eq_false_iff_ne]; exact hw1
          clear hw1 hmine hopen
          go_wp2_with fail
          refine bodyPost_ret (v := .tuple #[.agg #[.int .i64 m.who, .int .i64 m.inc, .int .i64 m.epoch, .int .i64 m.till], .int .i64 4]) ?_ rfl ⟨by rw [Ho.out, HLO.out]; rfl, bl_setq HB5.out (Nat.le_refl _) _ _ _ _⟩; rw [results_cell_tmp rfl]; go_simp
end Go.Proofs.YtahdeighocmijaaGreatDoor
