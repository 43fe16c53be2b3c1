/- optn.Parse. -/
import Derived.Test.YtkbgedaogfcdnaaDoorReptN
namespace Go.Proofs.YtkbgedaogfcdnaaDoor
set_option linter.unusedSimpArgs false
set_option linter.unusedVariables false
open Go.RowKit
open Crc (Bytes)
/-- The words that optn.Parse goes through. -/
def wordsOf (s : List UInt8) : List (List UInt8) := if s = [] then [] else Rep.words s
theorem words_short : ∀ (l : List UInt8), (∀ x ∈ Rep.words l, x.length ≤ l.length) ∧ (Rep.words l).length ≤ l.length + 1
  | [] => by
    refine ⟨fun x hx => ?_, by decide⟩
    have : x = [] := by simpa [Rep.words] using hx
    rw [this]; simp
  | c :: r => by
    obtain ⟨h1, h2⟩ := words_short r
    rw [Rep.words]
    split
    · refine ⟨fun x hx => ?_, by simp only [List.length_cons]; omega⟩
      rcases List.mem_cons.1 hx with rfl | hx
      · simp
      · have := h1 x hx; simp only [List.length_cons]; omega
    · cases hw : Rep.words r with
      | nil =>
        refine ⟨fun x hx => ?_, by simp⟩
        have : x = [c] := by simpa using hx
        rw [this]; simp
      | cons w ws =>
        rw [hw] at h1 h2
        refine ⟨fun x hx => ?_, by simp only [List.length_cons, List.headD_cons, List.tail_cons] at h2 ⊢; omega⟩
        simp only [List.headD_cons, List.tail_cons] at hx
        rcases List.mem_cons.1 hx with rfl | hx
        · have := h1 w (by simp); simp only [List.length_cons]; omega
        · have := h1 x (List.mem_cons_of_mem _ hx); simp only [List.length_cons]; omega
theorem wordsOf_short (s : List UInt8) (h : s.length ≤ 100000) : Short (wordsOf s) ∧ (wordsOf s).length ≤ 100001 := by
  unfold wordsOf
  split
  · exact ⟨fun x hx => by simp at hx, by simp⟩
  · obtain ⟨h1, h2⟩ := words_short s
    exact ⟨fun x hx => by have := h1 x hx; omega, by omega⟩
theorem loop_names : ∀ (ws : List (List UInt8)) (o : Rep.Op), Short ws → Short o.names → Short (Rep.optLoop ws o).names
  | [], o, _, h => h
  | x :: r, o, hw, h => by
    rw [Rep.optLoop]
    split
    · exact fun y hy => hw y (List.mem_cons_of_mem _ hy)
    · refine loop_names r _ (fun y hy => hw y (List.mem_cons_of_mem _ hy)) ?_
      split
      · exact h
      · split
        · exact h
        · split <;> exact h
theorem loop_step (x : List UInt8) (r : List (List UInt8)) (d f c : Bool) (h : x ≠ Rep.wTo) : Rep.optLoop (x :: r) ⟨d, f, c, []⟩ = Rep.optLoop r (if x = Rep.wDry then ⟨true, f, c, []⟩ else if x = Rep.wFast then ⟨d, true, c, []⟩ else if x = Rep.wClean then ⟨d, f, true, []⟩ else ⟨d, f, c, []⟩) := by
  rw [Rep.optLoop, if_neg h]
theorem loop_to (r : List (List UInt8)) (d f c : Bool) : Rep.optLoop (Rep.wTo :: r) ⟨d, f, c, []⟩ = ⟨d, f, c, r⟩ := by
  rw [Rep.optLoop, if_pos rfl]
/-- Options in a box of their own. -/
structure OAt (w : World) (g : Nat) (o : Rep.Op) (A : Option Addr) (n c : Nat) : Prop where
  blk : Blk w g 35 [.bool o.dry, .bool o.fast, .bool o.clean, .slice A n c]
  ss : SS w A n o.names
  cap : n ≤ c
  far : ∀ ad, A = some ad → 0 < n → g < ad.block
theorem SS.setCell {w : World} {A : Option Addr} {n : Nat} {l : List (List UInt8)} (h : SS w A n l) {p : Addr} (hp : ∀ ad, A = some ad → 0 < n → ad.block ≠ p.block) (u : Value) : SS (w.setCell p u) A n l := ⟨h.rd.setCell hp u, h.le⟩
theorem T_cmp (x c : List UInt8) (q : Bool) (h : decide (x = c) = q) : ((T x).toList == c) = q := by
  rw [← h, ByteArray.toList_eq, T_data, Bool.eq_iff_iff]
  simp
theorem strS : (Tryd.prog.info? 9).map (·.size) = some 1 := by kernel_rfl
theorem bl_set1 {B g i : Nat} {w W : World} (h : Below B w W) (hg : B ≤ g) (v : Value) : Below B w (W.setCell ⟨g, i, none⟩ v) := h.setCell (p := ⟨g, i, none⟩) hg v
theorem own_set {w : World} {base : Nat} {e : TypeId} {A : Option Addr} {n c : Nat} {xs : List Value} {g i : Nat} (h : Own w base e 1 A n c xs) (hg : g < base) (v : Value) : Own (w.setCell ⟨g, i, none⟩ v) base e 1 A n c xs :=
  h.setCell (fun e => by have := (h.blk g e).1; omega) v
set_option maxRecDepth 100000 in
set_option maxHeartbeats 4000000 in
theorem oparse_any (s : List UInt8) (w : World) (hs : s.length ≤ 99999) :
    Calls Tryd.prog 34 #[.string (T s)] w fun r w' => (∃ A n c, r = .returned (.tuple #[.agg (opC ((Rep.optParse s).getD Rep.op0) (.slice A n c)).toArray, .bool (Rep.optParse s).isSome]) ∧ SS w' A n ((Rep.optParse s).getD Rep.op0).names ∧ n ≤ c ∧ ∀ ad, A = some ad → 0 < n → w.heap.size ≤ ad.block) ∧ Below w.heap.size w w' := by
  have hz := T_size s
  have hem := T_empty s
  obtain ⟨q, hq⟩ : ∃ q, decide (s = []) = q := ⟨_, rfl⟩
  rw [hq] at hem
  have HQ := Lib.hid hq
  clear hq
  obtain ⟨hsh, hwl⟩ := wordsOf_short s (by omega)
  have HSH := Lib.hid hsh
  have HWL := Lib.hid hwl
  clear hsh hwl
  obtain ⟨O, hO⟩ : ∃ O, Rep.optLoop (wordsOf s) Rep.op0 = O := ⟨_, rfl⟩
  have HP := Lib.hid (show Rep.optParse s = if O.text = s then some O else none by unfold Rep.optParse; rw [← hO]; rfl)
  have HOS := Lib.hid (show Short O.names by rw [← hO]; exact loop_names _ _ HSH.out (fun x hx => by simp [Rep.op0] at hx))
  have HO := Lib.hid hO
  clear hO
  go_enter Tryd.func34, Tryd.ntmps34
  go_upto_region 2 with fail
  obtain ⟨g1, hg1⟩ : ∃ g, g = w.heap.size := ⟨_, rfl⟩
  obtain ⟨g2, hg2⟩ : ∃ g, g = w.heap.size + 1 := ⟨_, rfl⟩
  rw [← hg2, ← hg1]
  refine at_world (fun W => Blk W g1 35 [.bool false, .bool false, .bool false, .slice none 0 0] ∧ OAt W g2 Rep.op0 none 0 0 ∧ Below w.heap.size w W) ⟨(blk_new hg1).alloc _, ⟨blk_new (by simp; omega), SS.nil _ _, Nat.le_refl _, fun ad h => by cases h⟩, by (repeat (first | assumption | exact Below.refl _ _ | (with_reducible apply Below.drew) | (with_reducible apply bl_drewN) | (with_reducible apply bl_alloc) | (with_reducible refine bl_then ?_ (by assumption))))⟩ ?_
  rintro W ⟨hb1, hb2, hbel⟩
  have H1 := Lib.hid hb1
  have H2 := Lib.hid hb2
  have HB := Lib.hid hbel
  have hgg : g1 ≠ g2 := by omega
  have hg12 : g1 < g2 := by omega
  have hgw : w.heap.size ≤ g1 := by omega
  have hgw2 : w.heap.size ≤ g2 := by omega
  clear hb1 hb2 hbel hg1 hg2
  have hgl := H2.out.blk.lt
  go_upto_if 11 with (go_at_call 20; refine (split_any s _ (by omega)).mono ?_; rintro r w1 ⟨rfl, hss, hb1⟩)
  have HB1 := Lib.hid (HB.out.trans (hb1.mono HB.out.size))
  have H11 := Lib.hid (H1.out.below hb1)
  have H21 := Lib.hid (OAt.mk (H2.out.blk.below hb1) (SS.nil w1 none) (Nat.le_refl 0) (fun ad h => by cases h))
  have HSS := Lib.hid hss
  clear hss hb1 H1 H2
  go_cut [5] (fun v wx => ∃ A n c, v = .slice A n c ∧ n ≤ c ∧ (∀ ad, A = some ad → 0 < n → g2 < ad.block) ∧ SS wx A n (wordsOf s) ∧ Blk wx g1 35 [.bool false, .bool false, .bool false, .slice none 0 0] ∧ OAt wx g2 Rep.op0 none 0 0 ∧ Below w.heap.size w wx)
  case first =>
    cases q with
    | true =>
      have HW := Lib.hid (show wordsOf s = [] by unfold wordsOf; rw [if_pos (of_decide_eq_true HQ.out)])
      go_wp2_with fail
      go_meet
      exact ⟨none, 0, 0, rfl, Nat.le_refl _, (fun ad h => by cases h), by rw [HW.out]; exact SS.nil _ _, H11.out, H21.out, HB1.out⟩
    | false =>
      have HW := Lib.hid (show wordsOf s = Rep.words s by unfold wordsOf; rw [if_neg (of_decide_eq_false HQ.out)])
      go_wp2_with fail
      go_meet
      exact ⟨_, _, _, rfl, Nat.le_refl _, (fun ad h _ => by cases h; exact hgl), by rw [HW.out]; exact HSS.out, H11.out, H21.out, HB1.out⟩
  case rest =>
  obtain ⟨w2, rfl⟩ : ∃ y : World, y = wc := ⟨_, rfl⟩
  obtain ⟨A, n, c, rfl, hnc, hgA, hss, hb1, hb2, hbel⟩ := hcut
  have HGA := Lib.hid hgA
  clear hgA
  clear HB1 H11 H21 HSS HB
  have hwn : (wordsOf s).length = n := hss.len
  have HSS := Lib.hid hss
  have H1 := Lib.hid hb1
  have H2 := Lib.hid hb2
  have HB := Lib.hid hbel
  have HN := Lib.hid hwn
  have hn : n ≤ 100001 := by rw [← hwn]; exact HWL.out
  clear hss hb1 hb2 hbel hwn
  obtain ⟨ws, hws⟩ : ∃ ws, wordsOf s = ws := ⟨_, rfl⟩
  rw [hws] at HSS HN HO HSH
  clear hws HWL
  go_upto_block 0 with fail
  go_cut [5] (fun v wx => ∃ A n c, OAt wx g2 O A n c ∧ Blk wx g1 35 [.bool false, .bool false, .bool false, .slice none 0 0] ∧ Below w.heap.size w wx)
  case first =>
    go_wp2_with fail
    go_loopw [14] (fun i wr => ∃ (k : Nat) (d f e : Bool), k ≤ n ∧ i = .int .i64 k ∧ Hid (Rep.optLoop (ws.drop k) ⟨d, f, e, []⟩ = O) ∧ OAt wr g2 ⟨d, f, e, []⟩ none 0 0 ∧ SS wr A n ws ∧ Blk wr g1 35 [.bool false, .bool false, .bool false, .slice none 0 0] ∧ Below w.heap.size w wr) (fun i _ => n - (intOf i).toNat)
    case atStart => exact ⟨0, false, false, false, Nat.zero_le _, rfl, HO, H2.out, HSS.out, H1.out, HB.out⟩
    case round =>
      obtain ⟨k, d, f, e, hk, rfl, ho, hb2, hss, hb1, hbel⟩ := hrel
      have G2 := Lib.hid hb2
      have GS := Lib.hid hss
      have G1 := Lib.hid hb1
      have GB := Lib.hid hbel
      have b0 := hb2.blk.cell 0
      have b1 := hb2.blk.cell 1
      have b2 := hb2.blk.cell 2
      have b3 := hb2.blk.cell 3
      have f0 := hb2.blk.frozen 0
      have f1 := hb2.blk.frozen 1
      have f2 := hb2.blk.frozen 2
      have f3 := hb2.blk.frozen 3
      by_cases hlt : k < n
      · obtain ⟨ad, hk1, rfl, hcell⟩ := hss.get hlt
        obtain ⟨x, hx⟩ : ∃ x, ws[k] = x := ⟨_, rfl⟩
        rw [hx] at hcell
        have hdr : ws.drop k = x :: ws.drop (k + 1) := by rw [List.drop_eq_getElem_cons hk1, hx]
        have ho' := ho.out
        rw [hdr] at ho'
        have HO2 := Lib.hid ho'
        clear ho ho' hx hdr hb2 hss hb1 hbel
        have hga : g2 < ad.block := HGA.out ad rfl (by omega)
        have hgl2 := G2.out.blk.lt
        by_cases hto : x = Rep.wTo
        · subst hto
          have e1 := T_cmp Rep.wTo [116, 111] true (by decide)
          have HO3 := Lib.hid (HO2.out.symm.trans (loop_to _ d f e))
          have hsl := fun w => slice_from (P := Tryd.prog) (A := some ad) (kk := .i64) (k := k + 1) Tryd.underlying23 strS (by omega : k + 1 ≤ n) hnc w
          rw [show (((k + 1 : Nat) : Int)) = (k : Int) + 1 by omega] at hsl
          obtain ⟨A2, hA2⟩ : ∃ A2, (if c = k + 1 then some ad else (some ad).map (·.add ((k + 1) * 1))) = A2 := ⟨_, rfl⟩
          rw [hA2] at hsl
          have hfr := (GS.out.rd.from_ (by omega : k + 1 ≤ n) hnc hA2).1
          rw [Nat.mul_one, ← List.map_drop] at hfr
          have HF := Lib.hid (SS.mk hfr (by omega))
          clear hA2 hfr
          go_wp2_with fail
          refine (sclone_any A2 (n - (k + 1)) (c - (k + 1)) _ HF.out (by omega)).mono ?_
          rintro r w5 ⟨⟨A3, c3, rfl, ho3⟩, hb5⟩
          have K2 := Lib.hid (G2.out.blk.below hb5)
          have K1 := Lib.hid (G1.out.below hb5)
          have KB := Lib.hid (GB.out.trans (hb5.mono GB.out.size))
          have KO := Lib.hid ho3
          have b3 := (G2.out.blk.below hb5).cell 3
          have f3 := (G2.out.blk.below hb5).frozen 3
          clear hb5 ho3
          go_wp2_with fail
          go_meet
          refine ⟨A3, n - (k + 1), c3, ⟨?_, ?_, KO.out.cap, fun ad h _ => by have := (KO.out.blk ad.block (by rw [h]; rfl)).1; omega⟩, K1.out.far hgg _, bl_set1 KB.out hgw2 _⟩
          · rw [HO3.out]; exact K2.out.set_ 3 _
          · rw [HO3.out]; exact ⟨(own_set KO.out hgl2 _).rd, by omega⟩
        · have e1 := T_cmp x [116, 111] false (decide_eq_false hto)
          have HO3 := Lib.hid (HO2.out.symm.trans (loop_step x _ d f e hto))
          by_cases hd : x = Rep.wDry
          · subst hd
            have e2 := T_cmp Rep.wDry [100, 114, 121] true (by decide)
            have HO4 := Lib.hid (HO3.out.trans (by rw [if_pos rfl]))
            go_wp2_with fail
            refine ⟨⟨k + 1, true, f, e, by omega, by go_num, Lib.hid HO4.out.symm, ⟨G2.out.blk.set_ 0 _, SS.nil _ _, Nat.le_refl _, fun ad h => by cases h⟩, GS.out.setCell (fun a h _ => by cases h; exact Nat.ne_of_gt hga) _, G1.out.far hgg _, bl_set1 GB.out hgw2 _⟩, by simp [intOf]; omega⟩
          by_cases hf : x = Rep.wFast
          · subst hf
            have e2 := T_cmp Rep.wFast [102, 97, 115, 116] true (by decide)
            have e3 := T_cmp Rep.wFast [100, 114, 121] false (by decide)
            have HO4 := Lib.hid (HO3.out.trans (by rw [if_neg hd, if_pos rfl]))
            go_wp2_with fail
            refine ⟨⟨k + 1, d, true, e, by omega, by go_num, Lib.hid HO4.out.symm, ⟨G2.out.blk.set_ 1 _, SS.nil _ _, Nat.le_refl _, fun ad h => by cases h⟩, GS.out.setCell (fun a h _ => by cases h; exact Nat.ne_of_gt hga) _, G1.out.far hgg _, bl_set1 GB.out hgw2 _⟩, by simp [intOf]; omega⟩
          by_cases hc : x = Rep.wClean
          · subst hc
            have e2 := T_cmp Rep.wClean [99, 108, 101, 97, 110] true (by decide)
            have e3 := T_cmp Rep.wClean [100, 114, 121] false (by decide)
            have e4 := T_cmp Rep.wClean [102, 97, 115, 116] false (by decide)
            have HO4 := Lib.hid (HO3.out.trans (by rw [if_neg hd, if_neg hf, if_pos rfl]))
            go_wp2_with fail
            refine ⟨⟨k + 1, d, f, true, by omega, by go_num, Lib.hid HO4.out.symm, ⟨G2.out.blk.set_ 2 _, SS.nil _ _, Nat.le_refl _, fun ad h => by cases h⟩, GS.out.setCell (fun a h _ => by cases h; exact Nat.ne_of_gt hga) _, G1.out.far hgg _, bl_set1 GB.out hgw2 _⟩, by simp [intOf]; omega⟩
          have e2 := T_cmp x [100, 114, 121] false (decide_eq_false hd)
          have e3 := T_cmp x [102, 97, 115, 116] false (decide_eq_false hf)
          have e4 := T_cmp x [99, 108, 101, 97, 110] false (decide_eq_false hc)
          have HO4 := Lib.hid (HO3.out.trans (by rw [if_neg hd, if_neg hf, if_neg hc]))
          clear hd hf hc hto
          go_wp2_with fail
          exact ⟨⟨k + 1, d, f, e, by omega, by go_num, Lib.hid HO4.out.symm, G2.out, GS.out, G1.out, GB.out⟩, by simp [intOf]; omega⟩
      · have hkn : k = n := by omega
        have HK := Lib.hid (show O = ⟨d, f, e, []⟩ by
          rw [← ho.out, List.drop_of_length_le (by rw [HN.out]; omega)]
          rfl)
        subst hkn
        go_wp2_with fail
        go_meet
        exact ⟨none, 0, 0, by rw [HK.out]; exact G2.out, G1.out, GB.out⟩
  case rest =>
  obtain ⟨w3, rfl⟩ : ∃ y : World, y = wc := ⟨_, rfl⟩
  obtain ⟨A4, n4, c4, ho, hb1, hbel⟩ := hcut
  have K2 := Lib.hid ho
  have K1 := Lib.hid hb1
  have KB := Lib.hid hbel
  obtain ⟨od, of_, oc, onames⟩ := O
  have b0 : w3.cell? ⟨g2, 0, none⟩ = some (.bool od) := ho.blk.cell 0
  have b1 : w3.cell? ⟨g2, 1, none⟩ = some (.bool of_) := ho.blk.cell 1
  have b2 : w3.cell? ⟨g2, 2, none⟩ = some (.bool oc) := ho.blk.cell 2
  have b3 : w3.cell? ⟨g2, 3, none⟩ = some (.slice A4 n4 c4) := ho.blk.cell 3
  clear ho hb1 hbel H1 H2 HB HO HSS
  go_wp2_with fail
  refine (print_any ⟨od, of_, oc, onames⟩ A4 n4 c4 K2.out.ss HOS.out).mono ?_
  rintro r w6 ⟨rfl, hb6⟩
  have L2 := Lib.hid (K2.out.blk.below hb6)
  have LS := Lib.hid (K2.out.ss.below hb6)
  have LB := Lib.hid (KB.out.trans (hb6.mono KB.out.size))
  have l1 := K1.out.below hb6
  have L1 := Lib.hid l1
  have b0 : w6.cell? ⟨g2, 0, none⟩ = some (.bool od) := L2.out.cell 0
  have b1 : w6.cell? ⟨g2, 1, none⟩ = some (.bool of_) := L2.out.cell 1
  have b2 : w6.cell? ⟨g2, 2, none⟩ = some (.bool oc) := L2.out.cell 2
  have b3 : w6.cell? ⟨g2, 3, none⟩ = some (.slice A4 n4 c4) := L2.out.cell 3
  have a0 : w6.cell? ⟨g1, 0, none⟩ = some (.bool false) := l1.cell 0
  have a1 : w6.cell? ⟨g1, 1, none⟩ = some (.bool false) := l1.cell 1
  have a2 : w6.cell? ⟨g1, 2, none⟩ = some (.bool false) := l1.cell 2
  have a3 : w6.cell? ⟨g1, 3, none⟩ = some (.slice none 0 0) := l1.cell 3
  have f0 := l1.frozen 0
  have f1 := l1.frozen 1
  have f2 := l1.frozen 2
  have f3 := l1.frozen 3
  clear hb6 l1
  have hcmp := T_lbeq (Rep.Op.text ⟨od, of_, oc, onames⟩) s
  by_cases ht : Rep.Op.text ⟨od, of_, oc, onames⟩ = s
  · have HR := Lib.hid (HP.out.trans (if_pos ht))
    rw [decide_eq_true ht] at hcmp
    clear ht
    have hfar : ∀ ad, A4 = some ad → 0 < n4 → ad.block ≠ g1 := fun ad h h0 => by have := K2.out.far ad h h0; omega
    have HF := Lib.hid hfar
    clear hfar
    go_wp2_with fail
    refine bodyPost_ret (v := .tuple #[.agg #[.bool od, .bool of_, .bool oc, .slice A4 n4 c4], .bool true]) ?_ rfl ⟨⟨A4, n4, c4, by rw [HR.out]; rfl, ?_, K2.out.cap, fun ad h h0 => by have := K2.out.far ad h h0; omega⟩, bl_set1 (bl_set1 (bl_set1 (bl_set1 LB.out hgw _) hgw _) hgw _) hgw _⟩
    · rw [results_cell_tmp rfl]
      go_simp
    · rw [HR.out]
      exact (((LS.out.setCell HF.out _).setCell HF.out _).setCell HF.out _).setCell HF.out _
  · have HR := Lib.hid (HP.out.trans (if_neg ht))
    rw [decide_eq_false ht] at hcmp
    clear ht
    go_wp2_with fail
    refine bodyPost_ret (v := .tuple #[.agg #[.bool false, .bool false, .bool false, .slice none 0 0], .bool false]) ?_ rfl ⟨⟨none, 0, 0, by rw [HR.out]; rfl, ?_, Nat.le_refl _, fun ad h => by cases h⟩, bl_set1 (bl_set1 (bl_set1 (bl_set1 LB.out hgw _) hgw _) hgw _) hgw _⟩
    · rw [results_cell_tmp rfl]
      go_simp
    · rw [HR.out]
      exact SS.nil _ _
end Go.Proofs.YtkbgedaogfcdnaaDoor
