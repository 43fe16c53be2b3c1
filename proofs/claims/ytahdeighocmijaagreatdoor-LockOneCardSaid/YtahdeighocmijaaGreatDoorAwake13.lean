/- Locks: the reference's bytes of one; fettlelaw13.awake: its runs, its walk. -/
import Derived.Test.YtahdeighocmijaaGreatDoorTaken
import Derived.Test.YtahdeighocmijaaGreatDoorWr2
import Derived.Test.YtahdeighocmijaaGreatDoorLockR
import Derived.Test.YtahdeighocmijaaGreatDoorRfram
namespace Go.Proofs.YtahdeighocmijaaGreatDoor
set_option linter.unusedSimpArgs false
set_option linter.unusedVariables false
open Go.RowKit
open Crc (Bytes)
open Cod (six held)
set_option maxRecDepth 100000 in
set_option maxHeartbeats 2000000 in
theorem rlk_any (l : Lk) (w : World) : Calls Tryz.prog 33 #[lkV l] w (Gives w l.bytes) := by
  unfold lkV
  go_enter Tryz.func33, Tryz.ntmps33
  go_upto_region 1 with fail
  obtain ⟨g, hg⟩ : ∃ g, g = w.heap.size := ⟨_, rfl⟩
  rw [← hg]
  refine at_world (fun W => Blk W g 28 [.int .i64 l.who, .int .i64 l.inc, .int .i64 l.epoch, .int .i64 l.till] ∧ Below w.heap.size w W) ⟨blk_new hg, by (repeat (first | assumption | exact Below.refl _ _ | (with_reducible apply Below.drew) | (with_reducible apply bl_drewN) | (with_reducible apply bl_alloc) | (with_reducible refine bl_then ?_ (by assumption))))⟩ ?_
  rintro W ⟨hb, hbel⟩
  have HB := Lib.hid hb
  have HBel := Lib.hid hbel
  clear hb hbel hg
  (refine wp_region_held_drew (S := fun w' => w'.cell? ⟨g, 0, none⟩ = some (.int .i64 l.who) ∧ w'.cell? ⟨g, 1, none⟩ = some (.int .i64 l.inc) ∧ w'.cell? ⟨g, 2, none⟩ = some (.int .i64 l.epoch) ∧ w'.cell? ⟨g, 3, none⟩ = some (.int .i64 l.till) ∧ Below W.heap.size W w') (by kernel_rfl) (keepFour HB.out (Below.refl _ _).drew) (fun hHeld => ?_))
  (refine wpAnyH_take (i := 0) (oi := _) (v := ?_) (ops_at rfl) (by kernel_rfl) (by kernel_rfl) (by kernel_rfl) (fun _ _ _ h => h) (Or.inl ⟨by rfl, ?_⟩) (by assumption) ?_; rotate_left; (focus (intro w hSw; (try dsimp only at hSw); go_simp; (try with_reducible rfl))); (try simp only [Act.put, List.setIfInBounds_toArray, List.set_cons_zero, List.set_cons_succ])); (refine wpAnyH_take (i := 1) (oi := _) (v := ?_) (ops_at rfl) (by kernel_rfl) (by kernel_rfl) (by kernel_rfl) (fun _ _ _ h => h) (Or.inl ⟨by rfl, ?_⟩) (by assumption) ?_; rotate_left; (focus (intro w hSw; (try dsimp only at hSw); go_simp; (try with_reducible rfl))); (try simp only [Act.put, List.setIfInBounds_toArray, List.set_cons_zero, List.set_cons_succ])); (refine wpAnyH_take (i := 3) (oi := _) (v := ?_) (ops_at rfl) (by kernel_rfl) (by kernel_rfl) (by kernel_rfl) (fun _ _ _ h => h) (Or.inl ⟨by rfl, ?_⟩) (by assumption) ?_; rotate_left; (focus (intro w hSw; (try dsimp only at hSw); go_simp; (try with_reducible rfl))); (try simp only [Act.put, List.setIfInBounds_toArray, List.set_cons_zero, List.set_cons_succ])); (refine wpAnyH_take (i := 4) (oi := _) (v := ?_) (ops_at rfl) (by kernel_rfl) (by kernel_rfl) (by kernel_rfl) (fun _ _ _ h => h) (Or.inl ⟨by rfl, ?_⟩) (by assumption) ?_; rotate_left; (focus (intro w hSw; (try dsimp only at hSw); go_simp; (try with_reducible rfl))); (try simp only [Act.put, List.setIfInBounds_toArray, List.set_cons_zero, List.set_cons_succ]))
  (refine wpAnyH_ready (rs := [2]) (by kernel_rfl) (by simp) (AllReadyH.cons (ops_at rfl) (fun K hK => ?_) AllReadyH.nil); go_simp; (refine (qnumw_any none 0 0 [] l.who _ (Bs.nil _ _) (by omega)).mono ?_; rintro e w1 ⟨A1, n1, c1, rfl, hn1, ho1, hz1, hb1⟩); refine hK.out _ _ (keepFour HB.out ((Below.refl _ _).drew.trans hb1)) (fun hHeld => ?_); clear hK K; (try simp only [Act.put, List.setIfInBounds_toArray, List.set_cons_zero, List.set_cons_succ]))
  have hB1 := Lib.hid hHeld.2.2.2.2
  have hn1' : n1 = 6 := by have := hn1.out; rw [List.nil_append, Cod.six_len] at this; omega
  subst hn1'
  have HN1 := Lib.hid (own_bs ho1 (bytes_app (fun x hx => by cases hx) (Cod.six_bytes _)) (by omega))
  clear hn1 ho1 hz1 hb1
  (refine wpAnyH_ready (rs := [5]) (by kernel_rfl) (by simp) (AllReadyH.cons (ops_at rfl) (fun K hK => ?_) AllReadyH.nil); go_simp; (refine (qnumw_any A1 6 c1 _ l.inc _ HN1.out (by omega)).mono ?_; rintro e w2 ⟨A2, n2, c2, rfl, hn2, ho2, hz2, hb2⟩); refine hK.out _ _ (keepFour HB.out (hB1.out.trans (hb2.mono hB1.out.size))) (fun hHeld => ?_); clear hK K; (try simp only [Act.put, List.setIfInBounds_toArray, List.set_cons_zero, List.set_cons_succ]))
  have hB2 := Lib.hid hHeld.2.2.2.2
  have hn2' : n2 = 12 := by have := hn2.out; simp only [List.nil_append, List.length_append, Cod.six_len] at this; omega
  subst hn2'
  have HN2 := Lib.hid (own_bs ho2 (bytes_app HN1.out.by_ (Cod.six_bytes _)) (by omega))
  clear hn2 ho2 hz2 hb2 HN1
  (refine wpAnyH_take (i := 6) (oi := _) (v := ?_) (ops_at rfl) (by kernel_rfl) (by kernel_rfl) (by kernel_rfl) (fun _ _ _ h => h) (Or.inl ⟨by rfl, ?_⟩) (by assumption) ?_; rotate_left; (focus (intro w hSw; (try dsimp only at hSw); go_simp; (try with_reducible rfl))); (try simp only [Act.put, List.setIfInBounds_toArray, List.set_cons_zero, List.set_cons_succ]))
  (refine wpAnyH_done (by kernel_rfl) ?_ _)
  have HH := Lib.hid (HB.out.below hB2.out)
  have HBel2 := Lib.hid (HBel.out.trans (hB2.out.mono HBel.out.size))
  clear hHeld hB1 hB2 HB HBel
  go_upto_region 2 with fail
  (refine wp_region_held_drew (S := fun w' => w'.cell? ⟨g, 0, none⟩ = some (.int .i64 l.who) ∧ w'.cell? ⟨g, 1, none⟩ = some (.int .i64 l.inc) ∧ w'.cell? ⟨g, 2, none⟩ = some (.int .i64 l.epoch) ∧ w'.cell? ⟨g, 3, none⟩ = some (.int .i64 l.till) ∧ Below w2.heap.size w2 w') (by kernel_rfl) (keepFour HH.out (Below.refl _ _).drew) (fun hHeld => ?_))
  (refine wpAnyH_take (i := 0) (oi := _) (v := ?_) (ops_at rfl) (by kernel_rfl) (by kernel_rfl) (by kernel_rfl) (fun _ _ _ h => h) (Or.inl ⟨by rfl, ?_⟩) (by assumption) ?_; rotate_left; (focus (intro w hSw; (try dsimp only at hSw); go_simp; (try with_reducible rfl))); (try simp only [Act.put, List.setIfInBounds_toArray, List.set_cons_zero, List.set_cons_succ])); (refine wpAnyH_take (i := 1) (oi := _) (v := ?_) (ops_at rfl) (by kernel_rfl) (by kernel_rfl) (by kernel_rfl) (fun _ _ _ h => h) (Or.inl ⟨by rfl, ?_⟩) (by assumption) ?_; rotate_left; (focus (intro w hSw; (try dsimp only at hSw); go_simp; (try with_reducible rfl))); (try simp only [Act.put, List.setIfInBounds_toArray, List.set_cons_zero, List.set_cons_succ])); (refine wpAnyH_take (i := 2) (oi := _) (v := ?_) (ops_at rfl) (by kernel_rfl) (by kernel_rfl) (by kernel_rfl) (fun _ _ _ h => h) (Or.inl ⟨by rfl, ?_⟩) (by assumption) ?_; rotate_left; (focus (intro w hSw; (try dsimp only at hSw); go_simp; (try with_reducible rfl))); (try simp only [Act.put, List.setIfInBounds_toArray, List.set_cons_zero, List.set_cons_succ])); (refine wpAnyH_take (i := 4) (oi := _) (v := ?_) (ops_at rfl) (by kernel_rfl) (by kernel_rfl) (by kernel_rfl) (fun _ _ _ h => h) (Or.inl ⟨by rfl, ?_⟩) (by assumption) ?_; rotate_left; (focus (intro w hSw; (try dsimp only at hSw); go_simp; (try with_reducible rfl))); (try simp only [Act.put, List.setIfInBounds_toArray, List.set_cons_zero, List.set_cons_succ])); (refine wpAnyH_take (i := 5) (oi := _) (v := ?_) (ops_at rfl) (by kernel_rfl) (by kernel_rfl) (by kernel_rfl) (fun _ _ _ h => h) (Or.inl ⟨by rfl, ?_⟩) (by assumption) ?_; rotate_left; (focus (intro w hSw; (try dsimp only at hSw); go_simp; (try with_reducible rfl))); (try simp only [Act.put, List.setIfInBounds_toArray, List.set_cons_zero, List.set_cons_succ]))
  (refine wpAnyH_ready (rs := [3]) (by kernel_rfl) (by simp) (AllReadyH.cons (ops_at rfl) (fun K hK => ?_) AllReadyH.nil); go_simp; (refine (qnumw_any A2 12 c2 _ l.epoch _ (HN2.out.below (Below.refl _ _).drew) (by omega)).mono ?_; rintro e w3 ⟨A3, n3, c3, rfl, hn3, ho3, hz3, hb3⟩); refine hK.out _ _ (keepFour HH.out ((Below.refl _ _).drew.trans hb3)) (fun hHeld => ?_); clear hK K; (try simp only [Act.put, List.setIfInBounds_toArray, List.set_cons_zero, List.set_cons_succ]))
  have hB3 := Lib.hid hHeld.2.2.2.2
  have hn3' : n3 = 18 := by have := hn3.out; simp only [List.nil_append, List.length_append, Cod.six_len] at this; omega
  subst hn3'
  have HN3 := Lib.hid (own_bs ho3 (bytes_app HN2.out.by_ (Cod.six_bytes _)) (by omega))
  clear hn3 ho3 hz3 hb3 HN2
  (refine wpAnyH_ready (rs := [6]) (by kernel_rfl) (by simp) (AllReadyH.cons (ops_at rfl) (fun K hK => ?_) AllReadyH.nil); go_simp; (refine (qnumw_any A3 18 c3 _ l.till _ HN3.out (by omega)).mono ?_; rintro e w4 ⟨A4, n4, c4, rfl, hn4, ho4, hz4, hb4⟩); refine hK.out _ _ (keepFour HH.out (hB3.out.trans (hb4.mono hB3.out.size))) (fun hHeld => ?_); clear hK K; (try simp only [Act.put, List.setIfInBounds_toArray, List.set_cons_zero, List.set_cons_succ]))
  have hB4 := Lib.hid hHeld.2.2.2.2
  have hn4' : n4 = 24 := by have := hn4.out; simp only [List.nil_append, List.length_append, Cod.six_len] at this; omega
  subst hn4'
  have hraw : [] ++ six l.who ++ six l.inc ++ six l.epoch ++ six l.till = l.raw := by unfold Lk.raw; simp only [List.nil_append, List.append_nil, List.append_assoc]
  rw [hraw] at ho4
  have HN4 := Lib.hid (own_bs ho4 l.raw_by (by omega))
  clear hn4 ho4 hz4 hb4 HN3 hraw
  (refine wpAnyH_ready (rs := [7]) (by kernel_rfl) (by simp) (AllReadyH.cons (ops_at rfl) (fun K hK => ?_) AllReadyH.nil); go_simp; (refine (rput_any none A4 0 24 0 c4 [] l.raw _ (Bs.nil _ _) HN4.out (by omega)).mono ?_; rintro e w5 ⟨A5, n5, c5, rfl, hn5, ho5, hz5, hb5⟩); refine hK.out _ _ (keepFour HH.out (hB4.out.trans (hb5.mono hB4.out.size))) (fun hHeld => ?_); clear hK K; (try simp only [Act.put, List.setIfInBounds_toArray, List.set_cons_zero, List.set_cons_succ]))
  (refine wpAnyH_take (i := 8) (oi := _) (v := ?_) (ops_at rfl) (by kernel_rfl) (by kernel_rfl) (by kernel_rfl) (fun _ _ _ h => h) (Or.inl ⟨by rfl, ?_⟩) (by assumption) ?_; rotate_left; (focus (intro w hSw; (try dsimp only at hSw); go_simp; (try with_reducible rfl))); (try simp only [Act.put, List.setIfInBounds_toArray, List.set_cons_zero, List.set_cons_succ]))
  (refine wpAnyH_done (by kernel_rfl) ?_ _)
  have hB5 := hHeld.2.2.2.2
  have hB6 : Below w.heap.size w w5 := HBel2.out.trans (hB5.mono HBel2.out.size)
  rw [List.nil_append] at hn5 ho5 hz5
  have hsz : w.heap.size ≤ w4.heap.size := by have := HBel2.out.size; have := hB4.out.size; omega
  have HO := Lib.hid (ho5.more hsz)
  have HF := Lib.hid hB6
  have Hn := Lib.hid hn5
  have Hz := Lib.hid hz5
  clear hHeld hB5 hB6 ho5 hn5 hz5 hb5
  go_wp2_with fail
  go_ret
  exact ⟨A5, n5, c5, rfl, Hn.out, HO.out, Hz.out, HF.out⟩

/-- Writing a lock that somebody else has by now. -/
theorem write_lost {F : ByteArray} {R : Int} {S : Fs} {c : List Int} {st q : Int} (h : LC F R S (some (c, st))) (hF : fileB F = true) (tp : ByteArray) (hf : fileB tp = true) (hn : tp.data.toList ≠ F.data.toList) (hq : st ≠ q) (l : Lk) (free : Bool) (hu : (c.length : Int) + 34 ≤ R) :
    ∃ S1 S2, stepW S (wk0 F q l tp free) = (0, { wk0 F q l tp free with at_ := 3 }, S1) ∧ stepW S1 { wk0 F q l tp free with at_ := 3 } = (0, { wk0 F q l tp free with at_ := 4 }, S1) ∧ stepW S1 { wk0 F q l tp free with at_ := 4 } = (2, { wk0 F q l tp free with at_ := 5, told := 2 }, S2) := by
  obtain ⟨p1, p2⟩ := h.temp tp hf hn l.bytes (by rw [Lk.bytes_len]; show (c.length : Int) + 34 ≤ R; exact hu)
  obtain ⟨m1, m2⟩ := p2.lost hF hf hn hq
  refine ⟨S.write tp l.bytes, (S.write tp l.bytes).gone tp, ?_, ?_, ?_⟩
  · unfold stepW
    rw [if_pos (show (wk0 F q l tp free).at_ = 2 from rfl), show (wk0 F q l tp free).temp = tp from rfl, show (wk0 F q l tp free).l = l from rfl, p1, if_pos rfl]
    rfl
  · rw [stepW_3 rfl, show ({ wk0 F q l tp free with at_ := 3 } : Wk).temp = tp from rfl, show ({ wk0 F q l tp free with at_ := 3 } : Wk).gn = F from rfl, show ({ wk0 F q l tp free with at_ := 3 } : Wk).gs = q from rfl, m1, if_pos (show (5 : Int) ≠ 0 by decide)]
    rfl
  · rw [stepW_4 rfl, show ({ wk0 F q l tp free with at_ := 4 } : Wk).temp = tp from rfl, m2]
    rfl
theorem lk_num {x : Int} (h0 : 0 ≤ x) (h1 : x ≤ 1099511627776) : numB x = true := by unfold numB; simp; omega
theorem lk_small {l : Lk} (a : 0 ≤ l.who ∧ l.who ≤ 1000) (b : 0 ≤ l.inc ∧ l.inc ≤ 1000) (c : 0 ≤ l.epoch ∧ l.epoch ≤ 1000) (d : 0 ≤ l.till ∧ l.till ≤ 1000000) : l.ok = true := by
  unfold Lk.ok
  rw [lk_num a.1 (by omega), lk_num b.1 (by omega), lk_num c.1 (by omega), lk_num d.1 (by omega)]
  rfl
def wkA (a k : Int) : Wk := ⟨nmLk, 1, ⟨1, 1, 1, 0⟩, tmpOf 1 1 6, true, a, k⟩
def l1 : Lk := ⟨1, 1, 1, 110⟩
def l2 : Lk := ⟨2, 1, 2, 210⟩
theorem l1_ok : l1.ok = true := by kernel_rfl
theorem clamp_le {n : Int} (h0 : 0 ≤ n) (h1 : n ≤ 549755813888) : clampN n = n := by unfold clampN; omega
/-- The first of them: nobody has it. -/
theorem first_run (who inc : Nat) (h1 : who < 100) (h2 : inc < 100) : ∃ X1 t S1,
    TRun 0 (fs0 10000) (tk0 nmC (tmpOf who inc 3) who inc 30) 2 X1 1 t S1 ∧ (t.gn = nmC ∧ t.gs = 1 ∧ t.l = ⟨who, inc, 1, 30⟩) ∧ LC nmC 10000 S1 (some (Lk.bytes ⟨who, inc, 1, 30⟩, 1)) ∧ ((fs0 10000).readF nmC).2.1.length ≤ 100000 ∧ (S1.readF nmC).2.1.length ≤ 100000 ∧ openLk (Lk.bytes ⟨who, inc, 1, 30⟩) = some ⟨who, inc, 1, 30⟩ := by
  have h0 := lc_new nmC 10000 (by decide) (by decide)
  obtain ⟨X1, t, r1, g1, g2, g3⟩ := take_none h0 nmC_ok (by decide) (tmpOf who inc 3) who inc 30 0 (tmp_size _ _ _) (by decide) (by decide) (by decide)
  have e1 : (⟨who, inc, 1, clampN 0 + 30⟩ : Lk) = ⟨who, inc, 1, 30⟩ := by rw [clamp_le (by decide) (by decide)]; rfl
  rw [e1] at r1 g3
  have hS := h0.write (Lk.bytes ⟨who, inc, 1, 30⟩)
  rw [show (fs0 10000).last + 1 = 1 from rfl] at hS g2
  exact ⟨X1, t, _, r1, ⟨g1, g2, g3⟩, hS, by rw [readF_none nmC_ok h0.c]; decide, by rw [readF_of nmC_ok hS.c, Lk.bytes_len]; decide, openLk_bytes (lk_small ⟨by simp, by simp; omega⟩ ⟨by simp, by simp; omega⟩ ⟨by simp, by simp⟩ ⟨by simp, by simp⟩)⟩
theorem look_lit (a i b j now : Int) : lookL (some ⟨a, i, 1, 30⟩) b j now = if a = b ∧ i = j ∧ now < 30 then (⟨a, i, 1, 30⟩, 2) else if 30 ≤ now ∨ (a = b ∧ i < j) then (⟨a, i, 1, 30⟩, 3) else (⟨a, i, 1, 30⟩, 4) := by
  unfold lookL
  exact if_neg (show ¬ (1 : Int) = lkTop by decide)
/-- All that awake sees. -/
theorem aw_runs : ∃ X1 t S1 X2 u X3 v S3 S4 S5,
    TRun 10 (fs0 1000) (tk0 nmLk (tmpOf 1 1 5) 1 1 100) 2 X1 1 t S1 ∧ (t.gn = nmLk ∧ t.gs = 1 ∧ t.l = l1) ∧
    TRun 50 S1 (tk0 nmLk (tmpOf 2 1 5) 2 1 100) 1 X2 2 u S1 ∧
    TRun 110 S1 (tk0 nmLk (tmpOf 2 1 5) 2 1 100) 3 X3 1 v S3 ∧ v.l = l2 ∧
    stepW S3 (wkA 2 0) = (0, wkA 3 0, S4) ∧ stepW S4 (wkA 3 0) = (0, wkA 4 0, S4) ∧ stepW S4 (wkA 4 0) = (2, wkA 5 2, S5) ∧
    ((fs0 1000).readF nmLk).2.1.length ≤ 100000 ∧ (S1.readF nmLk).2.1.length ≤ 100000 := by
  have h0 := lc_new nmLk 1000 (by decide) (by decide)
  obtain ⟨X1, t, r1, g1, g2, g3⟩ := take_none h0 nmLk_ok (by decide) (tmpOf 1 1 5) 1 1 100 10 (tmp_size _ _ _) (by decide) (by decide) (by decide)
  have e1 : (⟨1, 1, 1, clampN 10 + 100⟩ : Lk) = l1 := by rw [clamp_le (by decide) (by decide)]; rfl
  rw [e1] at r1 g3
  have hS := h0.write l1.bytes
  obtain ⟨S1, hS1⟩ : ∃ S1, (fs0 1000).write nmLk l1.bytes = S1 := ⟨_, rfl⟩
  rw [show (fs0 1000).last + 1 = 1 from rfl] at hS g2
  rw [hS1] at hS r1
  obtain ⟨X2, u, q, r2, _, q4, _⟩ := take_one hS nmLk_ok (by decide) (tmpOf 2 1 5) 2 1 100 50 (tmp_size _ _ _) (by decide) (by decide) l1 4 (by rw [openLk_bytes l1_ok, clamp_le (by decide) (by decide)]; rfl) (by decide)
  obtain rfl := q4 rfl
  obtain ⟨X3, v, S3, r3, _, _, v3, c3, lt3⟩ := take_open hS nmLk_ok (by decide) (tmpOf 2 1 5) 2 1 100 110 (tmp_size _ _ _) (by decide) (by decide) l1 (by rw [openLk_bytes l1_ok, clamp_le (by decide) (by decide)]; rfl) (by decide) (by decide) (tmp_ok _ _ _ (by decide) (by decide) (by decide)) (tmp_neL _ _ _) (by rw [Lk.bytes_len]; decide)
  have e2 : (⟨2, 1, l1.epoch + 1, clampN 110 + 100⟩ : Lk) = l2 := by rw [clamp_le (by decide) (by decide)]; rfl
  rw [e2] at v3 c3
  obtain ⟨S4, S5, w1, w2, w3⟩ := write_lost c3 nmLk_ok (tmpOf 1 1 6) (tmp_ok _ _ _ (by decide) (by decide) (by decide)) (tmp_neL _ _ _) (q := 1) (by omega) { l1 with till := 0 } true (by rw [Lk.bytes_len]; decide)
  exact ⟨X1, t, S1, X2, u, X3, v, S3, S4, S5, r1, ⟨g1, g2, g3⟩, r2, r3, v3, w1, w2, w3, by rw [readF_none nmLk_ok h0.c]; decide, by rw [readF_of nmLk_ok hS.c, Lk.bytes_len]; decide⟩
theorem at_worldC {P : Program} {f : FuncId} {args : Array Value} {Q : Ending → World → Prop} {W : World} (F : World → Prop) (hF : F W) (h : ∀ W', F W' → Calls P f args W' Q) : Calls P f args W Q := h W hF
set_option maxRecDepth 100000 in
set_option maxHeartbeats 1000000 in
theorem awake13_any (w : World) : Calls Tryz.prog 16 #[] w fun e w' => e = .returned (.bool true) ∧ Below w.heap.size w w' := by
  obtain ⟨X1, t, S1, X2, u, X3, v, S3, S4, S5, r1, ⟨g1, g2, g3⟩, r2, r3, v3, s1, s2, s3, len0, len1⟩ := aw_runs
  have R1 := Lib.hid r1
  have R2 := Lib.hid r2
  have R3 := Lib.hid r3
  have W1 := Lib.hid s1
  have W2 := Lib.hid s2
  have W3 := Lib.hid s3
  clear r1 r2 r3 s1 s2 s3
  have kc := @conv_const Tryz.prog _ _ Tryz.underlying38 Tryz.underlying5
  go_enter Tryz.func16, Tryz.ntmps16
  go_wp2_with fail
  refine (new_h w 1000).mono ?_
  rintro e w1 ⟨fb, mb, rfl, h0⟩
  have H0 := Lib.hid h0
  have hw1 : w.heap.size ≤ w1.heap.size := h0.bel.size
  clear h0
  go_wp2_with fail
  refine (tnew_any nmLk 1 1 5 100 _ (by decide) (by decide) (by decide) (by decide) (by decide)).mono ?_
  rintro e w2 ⟨rfl, x2, b2⟩
  go_wp2_with fail
  refine (tnew_any nmLk 2 1 5 100 _ (by decide) (by decide) (by decide) (by decide) (by decide)).mono ?_
  rintro e w3 ⟨rfl, x3, b3⟩
  have hz2 : w1.heap.size < w2.heap.size := Blk.lt x2
  have hz3 : w2.heap.size < w3.heap.size := Blk.lt x3
  obtain ⟨tb, htb⟩ : ∃ tb, tb = w1.heap.size := ⟨_, rfl⟩
  obtain ⟨ub, hub⟩ : ∃ ub, ub = w2.heap.size := ⟨_, rfl⟩
  have HF3 := Lib.hid ((H0.out.below b2).below b3)
  have HT3 := Lib.hid (show TkAt w3 tb (tk0 nmLk (tmpOf 1 1 5) 1 1 100) from htb ▸ (Blk.below x2 b3))
  have HU3 := Lib.hid (show TkAt w3 ub (tk0 nmLk (tmpOf 2 1 5) 2 1 100) from hub ▸ x3)
  rw [← htb, ← hub]
  have htw : w.heap.size ≤ tb := by omega
  have huw : w.heap.size ≤ ub := by omega
  have hut : ub ≠ tb := by omega
  clear x2 x3 b2 b3 H0 htb hub
  go_wp2_with fail
  refine (trun_step (w1 := w3) (k := 0) (q := 0) R1.out (by omega) ⟨by rw [R1.out.zero]; exact HT3.out, by rw [R1.out.zero]; exact HF3.out, Only.refl _ _⟩ (by omega) htw len0).mono ?_
  rintro e w4 ⟨rfl, y4⟩
  have Y4 := Lib.hid y4
  clear y4
  rw [R1.out.work 1 (by omega)]
  go_wp2_with fail
  refine (trun_step (q := 1) R1.out (by omega) Y4.out (by omega) htw len0).mono ?_
  rintro e w5 ⟨rfl, y5⟩
  rw [show (X1 (1 + 1)).1 = 1 by rw [R1.out.fin]]
  have Y5 := Lib.hid (show LoopT w w3 fb mb tb 2 (1, t, S1) w5 by have := y5; rwa [R1.out.fin] at this)
  clear y5 Y4
  go_wp2_with fail
  refine (tgot_any Y5.out.tk R1.out.at_ R1.out.told).mono ?_
  rintro e w6 ⟨rfl, b6⟩
  unfold heldV lkV
  rw [g1, g2, g3]
  have HF6 := Lib.hid (Y5.out.fs.below b6)
  have HU6 := Lib.hid (show TkAt w6 ub (tk0 nmLk (tmpOf 2 1 5) 2 1 100) from ((Blk.only HU3.out Y5.out.o (by have := HF3.out.ne (Blk.at_ HU3.out) (by decide); simp at this ⊢; exact ⟨this.1, this.2, hut⟩)).below b6))
  clear b6 Y5 HT3 HF3 HU3
  go_wp2_with fail
  obtain ⟨gb, hgb⟩ : ∃ gb, gb = w6.heap.size := ⟨_, rfl⟩
  obtain ⟨kb, hkb⟩ : ∃ kb, kb = w6.heap.size + 1 := ⟨_, rfl⟩
  rw [← hkb, ← hgb]
  have hgw : w.heap.size ≤ gb := by have := HF6.out.bel.size; omega
  have hkw : w.heap.size ≤ kb := by omega
  have hgk : gb ≠ kb := by omega
  have hgu : gb ≠ ub := by have := Blk.lt HU6.out; omega
  have hku : kb ≠ ub := by have := Blk.lt HU6.out; omega
  refine at_worldC (fun W => Blk W gb 26 [.string nmLk, .int .i64 1] ∧ Blk W kb 28 (lkCells l1) ∧ TkAt W ub (tk0 nmLk (tmpOf 2 1 5) 2 1 100) ∧ FsH w W fb mb S1 2) ⟨(blk_new hgb).alloc _, blk_new (by simp [hkb, hgb]), ((HU6.out.alloc _).alloc _), HF6.out.alloc.alloc⟩ ?_
  rintro W ⟨k1, k2, k3, k4⟩
  have HG := Lib.hid k1
  have HK := Lib.hid k2
  have HU := Lib.hid k3
  have HF := Lib.hid k4
  clear k1 k2 k3 k4 hgb hkb HU6 HF6 R1
  refine (trun_step (w1 := W) (k := 2) (q := 0) R2.out (by omega) ⟨by rw [R2.out.zero]; exact HU.out, by rw [R2.out.zero]; exact HF.out, Only.refl _ _⟩ (by omega) huw len1).mono ?_
  rintro e w7 ⟨rfl, y7⟩
  rw [show (X2 (0 + 1)).1 = 2 by rw [R2.out.fin]]
  have Y7 := Lib.hid (show LoopT w W fb mb ub 3 (2, u, S1) w7 by have := y7; rwa [R2.out.fin] at this)
  have HG7 := Lib.hid (HG.out.only Y7.out.o (by have := HF.out.ne (Blk.at_ HG.out) (by decide); simp at this ⊢; exact ⟨this.1, this.2, hgu⟩))
  have HK7 := Lib.hid (HK.out.only Y7.out.o (by have := HF.out.ne (Blk.at_ HK.out) (by decide); simp at this ⊢; exact ⟨this.1, this.2, hku⟩))
  have HF7 := Lib.hid Y7.out.fs
  clear y7 Y7 HG HK HU HF R2
  have a0 : w7.cell? ⟨kb, 0, none⟩ = some (.int .i64 l1.who) := HK7.out.cell 0
  have a1 : w7.cell? ⟨kb, 1, none⟩ = some (.int .i64 l1.inc) := HK7.out.cell 1
  have a2 : w7.cell? ⟨kb, 2, none⟩ = some (.int .i64 l1.epoch) := HK7.out.cell 2
  have a3 : w7.cell? ⟨kb, 3, none⟩ = some (.int .i64 l1.till) := HK7.out.cell 3
  go_wp2_with fail
  refine (rlk_any l1 _).mono ?_
  rintro e w8 ⟨LA, ln, lc, rfl, hln, hown, hnone, b8⟩
  have hln' := hln.out
  rw [Lk.bytes_len] at hln'
  have HB8 := Lib.hid (own_bs hown l1.bytes_by (by omega))
  have HG8 := Lib.hid (HG7.out.below b8)
  have HK8 := Lib.hid (HK7.out.below b8)
  have HF8 := Lib.hid (HF7.out.below b8)
  clear hln hown hnone b8 a0 a1 a2 a3 HG7 HK7 HF7
  go_wp2_with fail
  refine (look_any LA ln lc l1.bytes 2 1 110 _ HB8.out (by omega)).mono ?_
  rintro e w9 ⟨rfl, b9⟩
  rw [openLk_bytes l1_ok, show lookL (some l1) 2 1 110 = (l1, 3) from rfl]
  have HG9 := Lib.hid (HG8.out.below b9)
  have HK9 := Lib.hid (HK8.out.below b9)
  have HF9 := Lib.hid (HF8.out.below b9)
  clear b9 HB8 HG8 HK8 HF8
  unfold lkV
  go_wp2_with fail
  refine (tnew_any nmLk 2 1 5 100 _ (by decide) (by decide) (by decide) (by decide) (by decide)).mono ?_
  rintro e w10 ⟨rfl, x10, b10⟩
  have hgv0 := Blk.lt HG9.out
  have hkv0 := Blk.lt HK9.out
  have hz9 := HF9.out.bel.size
  obtain ⟨vb, hvb⟩ : ∃ vb, vb = (w9.alloc (.cells #[.int .i64 l1.who, .int .i64 l1.inc, .int .i64 l1.epoch, .int .i64 l1.till] 28)).heap.size := ⟨_, rfl⟩
  have hvs : vb = w9.heap.size + 1 := by rw [hvb]; simp
  rw [← hvb]
  have HG10 := Lib.hid ((HG9.out.alloc _).below b10)
  have HK10 := Lib.hid ((HK9.out.alloc _).below b10)
  have HF10 := Lib.hid (HF9.out.alloc.below b10)
  have HV10 := Lib.hid (show TkAt w10 vb (tk0 nmLk (tmpOf 2 1 5) 2 1 100) from hvb ▸ x10)
  have hvw : w.heap.size ≤ vb := by omega
  have hgv : gb ≠ vb := by omega
  have hkv : kb ≠ vb := by omega
  clear x10 b10 hvb hvs HG9 HK9 HF9
  have hno : gb ∉ [fb, mb, vb] ∧ kb ∉ [fb, mb, vb] := by
    have h1 := HF10.out.ne (Blk.at_ HG10.out) (by decide)
    have h2 := HF10.out.ne (Blk.at_ HK10.out) (by decide)
    simp at h1 h2 ⊢
    exact ⟨⟨h1.1, h1.2, hgv⟩, ⟨h2.1, h2.2, hkv⟩⟩
  go_wp2_with fail
  refine (trun_step (w1 := w10) (k := 3) (q := 0) R3.out (by omega) ⟨by rw [R3.out.zero]; exact HV10.out, by rw [R3.out.zero]; exact HF10.out, Only.refl _ _⟩ (by omega) hvw len1).mono ?_
  rintro e w11 ⟨rfl, y11⟩
  rw [R3.out.work (0 + 1) (by omega)]
  have Y11 := Lib.hid y11
  clear y11 HV10
  go_wp2_with fail
  refine (trun_step (q := 1) R3.out (by omega) Y11.out (by omega) hvw len1).mono ?_
  rintro e w12 ⟨rfl, y12⟩
  rw [R3.out.work (1 + 1) (by omega)]
  have Y12 := Lib.hid y12
  clear y12 Y11
  go_wp2_with fail
  refine (trun_step (q := 2) R3.out (by omega) Y12.out (by omega) hvw len1).mono ?_
  rintro e w13 ⟨rfl, y13⟩
  rw [show (X3 (2 + 1)).1 = 1 by rw [R3.out.fin]]
  have Y13 := Lib.hid (show LoopT w w10 fb mb vb 6 (1, v, S3) w13 by have := y13; rwa [R3.out.fin] at this)
  clear y13 Y12
  have HG13 := Lib.hid (HG10.out.only Y13.out.o hno.1)
  have HK13 := Lib.hid (HK10.out.only Y13.out.o hno.2)
  clear HG10 HK10 HF10
  go_wp2_with fail
  refine (tgot_any Y13.out.tk R3.out.at_ R3.out.told).mono ?_
  rintro e w14 ⟨rfl, b14⟩
  unfold heldV lkV
  rw [v3]
  have HG14 := Lib.hid (HG13.out.below b14)
  have HK14 := Lib.hid (HK13.out.below b14)
  have HF14 := Lib.hid (Y13.out.fs.below b14)
  clear b14 Y13 HG13 HK13 R3
  obtain ⟨vn, hvn⟩ : ∃ x, v.gn = x := ⟨_, rfl⟩
  obtain ⟨vs, hvs⟩ : ∃ x, v.gs = x := ⟨_, rfl⟩
  rw [hvn, hvs]
  clear hvn hvs
  have a0 : w14.cell? ⟨kb, 0, none⟩ = some (.int .i64 l1.who) := HK14.out.cell 0
  have a1 : w14.cell? ⟨kb, 1, none⟩ = some (.int .i64 l1.inc) := HK14.out.cell 1
  have a2 : w14.cell? ⟨kb, 2, none⟩ = some (.int .i64 l1.epoch) := HK14.out.cell 2
  have a3 : w14.cell? ⟨kb, 3, none⟩ = some (.int .i64 l1.till) := HK14.out.cell 3
  have c0 : w14.cell? ⟨gb, 0, none⟩ = some (.string nmLk) := HG14.out.cell 0
  have c1 : w14.cell? ⟨gb, 1, none⟩ = some (.int .i64 1) := HG14.out.cell 1
  have hkl := Blk.lt HK14.out
  have hgl := Blk.lt HG14.out
  go_wp2_with fail
  obtain ⟨gm, hgm⟩ : ∃ gm, gm = w14.heap.size := ⟨_, rfl⟩
  obtain ⟨km, hkm⟩ : ∃ km, km = w14.heap.size + 1 := ⟨_, rfl⟩
  rw [← hkm, ← hgm]
  refine at_worldC (fun W => Blk W gb 26 [.string nmLk, .int .i64 1] ∧ Blk W kb 28 (lkCells l1) ∧ Blk W km 28 (lkCells l2) ∧ FsH w W fb mb S3 6) ⟨((HG14.out.alloc _).alloc _), ((HK14.out.alloc _).alloc _), blk_new (by simp [hkm, hgm]), HF14.out.alloc.alloc⟩ ?_
  rintro V ⟨k1, k2, k3, k4⟩
  have HG := Lib.hid k1
  have HK := Lib.hid k2
  have HM := Lib.hid k3
  have HF := Lib.hid k4
  have hsz := k4.bel.size
  clear k1 k2 k3 k4 hgm hkm hkl hgl a0 a1 a2 a3 c0 c1 HG14 HK14 HF14
  refine (free_any nmLk 1 l1 1 1 6 _ (by decide) (by decide) (by decide) rfl rfl).mono ?_
  rintro e w15 ⟨xb, rfl, hxb, x15, b15⟩
  have hgx : gb ≠ xb := by have := Blk.lt HG.out; omega
  have hkx : kb ≠ xb := by have := Blk.lt HK.out; omega
  have hmx : km ≠ xb := by have := Blk.lt HM.out; omega
  have hxw : w.heap.size ≤ xb := by omega
  have HG15 := Lib.hid (HG.out.below b15)
  have HK15 := Lib.hid (HK.out.below b15)
  have HM15 := Lib.hid (HM.out.below b15)
  have HF15 := Lib.hid (HF.out.below b15)
  have HX15 := Lib.hid (show WkAt w15 xb (wkA 2 0) from x15)
  have hnx : gb ∉ [fb, mb, xb] ∧ kb ∉ [fb, mb, xb] ∧ km ∉ [fb, mb, xb] := by
    have h1 := HF15.out.ne (Blk.at_ HG15.out) (by decide)
    have h2 := HF15.out.ne (Blk.at_ HK15.out) (by decide)
    have h3 := HF15.out.ne (Blk.at_ HM15.out) (by decide)
    simp at h1 h2 h3 ⊢
    exact ⟨⟨h1.1, h1.2, hgx⟩, ⟨h2.1, h2.2, hkx⟩, ⟨h3.1, h3.2, hmx⟩⟩
  clear b15 x15 HG HK HM HF
  go_wp2_with fail
  refine (wstep_any HF15.out HX15.out hxw (tmp_size _ _ _) (show nmLk.size ≤ 1000 by decide) (by omega) (.inl rfl)).mono ?_
  rintro e w16 hd
  rw [W1.out] at hd
  obtain rfl := hd.ret
  have HF16 := Lib.hid hd.h
  have HX16 := Lib.hid hd.x
  have HO16 := Lib.hid hd.o
  clear hd HF15 HX15 W1
  go_wp2_with fail
  refine (wstep_any HF16.out HX16.out hxw (tmp_size _ _ _) (show nmLk.size ≤ 1000 by decide) (by omega) (.inr (.inl rfl))).mono ?_
  rintro e w17 hd
  rw [W2.out] at hd
  obtain rfl := hd.ret
  have HF17 := Lib.hid hd.h
  have HX17 := Lib.hid hd.x
  have HO17 := Lib.hid (HO16.out.trans hd.o)
  clear hd HF16 HX16 W2 HO16
  go_wp2_with fail
  refine (wstep_any HF17.out HX17.out hxw (tmp_size _ _ _) (show nmLk.size ≤ 1000 by decide) (by omega) (.inr (.inr rfl))).mono ?_
  rintro e w18 hd
  rw [W3.out] at hd
  obtain rfl := hd.ret
  have HF18 := Lib.hid hd.h
  have HO18 := Lib.hid (HO17.out.trans hd.o)
  clear hd HF17 HX17 W3 HO17
  have HG18 := Lib.hid (HG15.out.only HO18.out hnx.1)
  have HK18 := Lib.hid (HK15.out.only HO18.out hnx.2.1)
  have HM18 := Lib.hid (HM15.out.only HO18.out hnx.2.2)
  have a0 : w18.cell? ⟨kb, 0, none⟩ = some (.int .i64 1) := HK18.out.cell 0
  have a1 : w18.cell? ⟨kb, 1, none⟩ = some (.int .i64 1) := HK18.out.cell 1
  have a2 : w18.cell? ⟨kb, 2, none⟩ = some (.int .i64 1) := HK18.out.cell 2
  have a3 : w18.cell? ⟨kb, 3, none⟩ = some (.int .i64 110) := HK18.out.cell 3
  have d2 : w18.cell? ⟨km, 2, none⟩ = some (.int .i64 2) := HM18.out.cell 2
  have d3 : w18.cell? ⟨km, 3, none⟩ = some (.int .i64 210) := HM18.out.cell 3
  have c0 : w18.cell? ⟨gb, 0, none⟩ = some (.string ⟨#[108, 111, 99, 107, 47, 108, 111, 103]⟩) := HG18.out.cell 0
  clear HG18 HK18 HM18 HG15 HK15 HM15 HO18
  clear len0 len1 g1 g2 g3 v3 hw1 hz2 hz3 htw huw hut hgu hku hln' hgv0 hkv0 hz9 hvw hgv hkv hno hxb hgx hkx hmx hnx kc
  go_upto_region 21 with fail
  refine wp_region_lit ?_
  simp only [List.append_eq, List.cons_append, List.nil_append]
  go_wp2_with fail
  go_ret
  exact ⟨rfl, HF18.out.bel⟩
end Go.Proofs.YtahdeighocmijaaGreatDoor
