/- ReptTolds: what two builders tell. -/
import Derived.Test.YtkbgedaogfcdnaaDoorReptTp
namespace Go.Proofs.YtkbgedaogfcdnaaDoor
set_option linter.unusedSimpArgs false
set_option linter.unusedVariables false
open Go.RowKit
open Crc (Bytes)
theorem in_nat (n : Nat) (h : n ≤ 99) : In (n : Int) := by unfold In; omega
theorem and_ne {al : Bool} {L M : List (List UInt8)} {k : Nat} (h : false = (al && decide (L.take k = M.take k))) : (al && decide (L = M)) = false := by
  cases al with
  | false => rfl
  | true =>
    rw [Bool.true_and] at h ⊢
    apply decide_eq_false
    intro e
    rw [e] at h
    simp at h
theorem and_tt {al : Bool} {p : Prop} [Decidable p] (h : true = (al && decide p)) : al = true ∧ p := by
  cases al with
  | false => cases h
  | true => rw [Bool.true_and] at h; exact ⟨rfl, of_decide_eq_true h.symm⟩
theorem take_step {L M : List (List UInt8)} {k : Nat} (h1 : k < L.length) (h2 : k < M.length) (he : L.take k = M.take k) : decide (L.take (k + 1) = M.take (k + 1)) = decide (L[k] = M[k]) := by
  rw [List.take_succ_eq_append_getElem h1, List.take_succ_eq_append_getElem h2, he]
  exact decide_eq_decide.2 ⟨fun e => by have := List.append_cancel_left e; simpa using this, fun e => by rw [e]⟩
theorem nat99 (n : Nat) (h : n ≤ 99) : (0 : Int) ≤ (n : Int) ∧ (n : Int) ≤ 99 := by omega
def toN (e1 e2 e3 e4 e5 e6 : Nat) (h1 : e1 ≤ 99) (h2 : e2 ≤ 99) (h3 : e3 ≤ 99) (h4 : e4 ≤ 99) (h5 : e5 ≤ 99) (h6 : e6 ≤ 99) : To := ⟨e1, e3, e2, e4, e5, e6, in_nat _ h1, in_nat _ h3, in_nat _ h2, in_nat _ h4, in_nat _ h5, in_nat _ h6⟩
set_option maxRecDepth 100000 in
set_option maxHeartbeats 8000000 in
theorem tolds_any (x y : Int) (same : Bool) (w : World) (hE : Env w) : Calls Tryd.prog 3 #[.int .i64 x, .int .i64 y, .bool same] w fun r w' => r = .returned (.bool true) ∧ Below w.heap.size w w' := by
  have HE := Lib.hid hE
  clear hE
  obtain ⟨p, hp, hp2⟩ := maskN 21 (by decide) x 2097151 rfl
  obtain ⟨q0, hq, hq2⟩ := maskN 21 (by decide) y 2097151 rfl
  obtain ⟨q, hqs⟩ : ∃ q : Nat, q = if same then p else q0 := ⟨_, rfl⟩
  have hq3 : q < 2097152 := by rw [hqs]; split <;> omega
  have HQ := Lib.hid hqs
  clear hqs
  go_enter Tryd.func3, Tryd.ntmps3
  go_upto_if 17 with fail
  go_cut [1] (fun v wx => v = .int .i64 q ∧ wx = w)
  case first => as_aux_lemma =>
    cases same with
    | true =>
      have hqp := HQ.out
      rw [if_pos rfl] at hqp
      go_wp2_with fail
      go_meet
      exact ⟨by rw [hqp], rfl⟩
    | false =>
      have hqp := HQ.out
      rw [if_neg (by decide)] at hqp
      go_wp2_with fail
      go_meet
      exact ⟨by rw [hqp], rfl⟩
  case rest =>
  obtain ⟨rfl, hwc⟩ := hcut
  subst hwc
  go_wp2_with fail
  refine (of_any p (by omega) _).mono ?_
  rintro r w1 ⟨A, B, n, c, m, d, rfl, hsa, hnc, hsb, hmd, hb1⟩
  obtain ⟨e1, he1⟩ : ∃ e : Nat, p % 4 = e := ⟨_, rfl⟩
  have be1 : e1 ≤ 99 := by omega
  obtain ⟨e3, he3⟩ : ∃ e : Nat, p / 32 % 4 = e := ⟨_, rfl⟩
  have be3 : e3 ≤ 99 := by omega
  obtain ⟨e2, he2⟩ : ∃ e : Nat, p / 4 % 8 = e := ⟨_, rfl⟩
  have be2 : e2 ≤ 99 := by omega
  obtain ⟨e4, he4⟩ : ∃ e : Nat, p / 128 % 4 = e := ⟨_, rfl⟩
  have be4 : e4 ≤ 99 := by omega
  obtain ⟨e5, he5⟩ : ∃ e : Nat, p / 512 % 2 = e := ⟨_, rfl⟩
  have be5 : e5 ≤ 99 := by omega
  obtain ⟨e6, he6⟩ : ∃ e : Nat, p / 1024 % 2 = e := ⟨_, rfl⟩
  have be6 : e6 ≤ 99 := by omega
  rw [he1, he3, he2, he4, he5, he6]
  clear he1 he2 he3 he4 he5 he6
  have SA := Lib.hid hsa
  have SB := Lib.hid hsb
  have LB := Lib.hid hb1
  clear hsa hsb hb1
  go_wp2_with fail
  refine (of_any q hq3 _).mono ?_
  rintro r w2 ⟨C, D, n2, c2, m2, d2, rfl, hsc, hnc2, hsd, hmd2, hb2⟩
  obtain ⟨f1, hf1⟩ : ∃ e : Nat, q % 4 = e := ⟨_, rfl⟩
  have bf1 : f1 ≤ 99 := by omega
  obtain ⟨f3, hf3⟩ : ∃ e : Nat, q / 32 % 4 = e := ⟨_, rfl⟩
  have bf3 : f3 ≤ 99 := by omega
  obtain ⟨f2, hf2⟩ : ∃ e : Nat, q / 4 % 8 = e := ⟨_, rfl⟩
  have bf2 : f2 ≤ 99 := by omega
  obtain ⟨f4, hf4⟩ : ∃ e : Nat, q / 128 % 4 = e := ⟨_, rfl⟩
  have bf4 : f4 ≤ 99 := by omega
  obtain ⟨f5, hf5⟩ : ∃ e : Nat, q / 512 % 2 = e := ⟨_, rfl⟩
  have bf5 : f5 ≤ 99 := by omega
  obtain ⟨f6, hf6⟩ : ∃ e : Nat, q / 1024 % 2 = e := ⟨_, rfl⟩
  have bf6 : f6 ≤ 99 := by omega
  rw [hf1, hf3, hf2, hf4, hf5, hf6]
  clear hf1 hf2 hf3 hf4 hf5 hf6
  obtain ⟨L1, hL1⟩ : ∃ L, madeL p (p / 2048 % 4) = L := ⟨_, rfl⟩
  obtain ⟨L2, hL2⟩ : ∃ L, failL p (p / 8192 % 4) = L := ⟨_, rfl⟩
  obtain ⟨M1, hM1⟩ : ∃ L, madeL q (q / 2048 % 4) = L := ⟨_, rfl⟩
  obtain ⟨M2, hM2⟩ : ∃ L, failL q (q / 8192 % 4) = L := ⟨_, rfl⟩
  have iL1 : L1 ∈ allL := by rw [← hL1]; exact made_in p _ (Nat.mod_lt _ (by decide))
  have iL2 : L2 ∈ allL := by rw [← hL2]; exact fail_in p _ (Nat.mod_lt _ (by decide))
  have iM1 : M1 ∈ allL := by rw [← hM1]; exact made_in q _ (Nat.mod_lt _ (by decide))
  have iM2 : M2 ∈ allL := by rw [← hM2]; exact fail_in q _ (Nat.mod_lt _ (by decide))
  rw [hL1] at SA
  rw [hL2] at SB
  rw [hM1] at hsc
  rw [hM2] at hsd
  have SA2 := Lib.hid (SA.out.below hb2)
  have SB2 := Lib.hid (SB.out.below hb2)
  have SC := Lib.hid hsc
  have SD := Lib.hid hsd
  have LB2 := Lib.hid (LB.out.trans (hb2.mono LB.out.size))
  clear hsc hsd hb2 SA SB LB hL1 hL2 hM1 hM2 hq3 hp hq hp2 hq2 HQ
  go_upto_region 6 with fail
  obtain ⟨g8, hg8⟩ : ∃ g, g = w2.heap.size := ⟨_, rfl⟩
  obtain ⟨g9, hg9⟩ : ∃ g, g = w2.heap.size + 1 := ⟨_, rfl⟩
  rw [← hg9, ← hg8]
  refine at_world (fun W => Blk W g8 27 [.int .i64 (e1 : Nat), .int .i64 (e3 : Nat), .int .i64 (e2 : Nat), .slice A n c, .slice B m d, .int .i64 (e4 : Nat), .int .i64 (e5 : Nat), .int .i64 (e6 : Nat)] ∧ Blk W g9 27 [.int .i64 (f1 : Nat), .int .i64 (f3 : Nat), .int .i64 (f2 : Nat), .slice C n2 c2, .slice D m2 d2, .int .i64 (f4 : Nat), .int .i64 (f5 : Nat), .int .i64 (f6 : Nat)] ∧ SS W A n L1 ∧ SS W B m L2 ∧ SS W C n2 M1 ∧ SS W D m2 M2 ∧ Below wc.heap.size wc W) ⟨(blk_new hg8).alloc _, (by refine blk_new ?_; rw [hg9]; simp), SA2.out.below (by (repeat (first | assumption | exact Below.refl _ _ | (with_reducible apply Below.drew) | (with_reducible apply bl_drewN) | (with_reducible apply bl_alloc) | (with_reducible refine bl_then ?_ (by assumption))))), SB2.out.below (by (repeat (first | assumption | exact Below.refl _ _ | (with_reducible apply Below.drew) | (with_reducible apply bl_drewN) | (with_reducible apply bl_alloc) | (with_reducible refine bl_then ?_ (by assumption))))), SC.out.below (by (repeat (first | assumption | exact Below.refl _ _ | (with_reducible apply Below.drew) | (with_reducible apply bl_drewN) | (with_reducible apply bl_alloc) | (with_reducible refine bl_then ?_ (by assumption))))), SD.out.below (by (repeat (first | assumption | exact Below.refl _ _ | (with_reducible apply Below.drew) | (with_reducible apply bl_drewN) | (with_reducible apply bl_alloc) | (with_reducible refine bl_then ?_ (by assumption))))), (LB2.out.alloc LB2.out.size _).alloc (by have := LB2.out.size; simp; omega) _⟩ ?_
  rintro W ⟨h8, h9, hsa, hsb, hsc, hsd, hbel⟩
  clear hg8 hg9 SA2 SB2 SC LB2 SD
  have H8 := Lib.hid h8
  have H9 := Lib.hid h9
  have SA := Lib.hid hsa
  have SB := Lib.hid hsb
  have SC := Lib.hid hsc
  have SD := Lib.hid hsd
  have HB := Lib.hid hbel
  have lA := hsa.len
  have lB := hsb.len
  have lC := hsc.len
  have lD := hsd.len
  clear hsa hsb hsc hsd hbel
  have xa0 : W.cell? ⟨g8, 0, none⟩ = some (.int .i64 (e1 : Nat)) := h8.cell 0
  have xb0 : W.cell? ⟨g9, 0, none⟩ = some (.int .i64 (f1 : Nat)) := h9.cell 0
  have xa1 : W.cell? ⟨g8, 1, none⟩ = some (.int .i64 (e3 : Nat)) := h8.cell 1
  have xb1 : W.cell? ⟨g9, 1, none⟩ = some (.int .i64 (f3 : Nat)) := h9.cell 1
  have xa2 : W.cell? ⟨g8, 2, none⟩ = some (.int .i64 (e2 : Nat)) := h8.cell 2
  have xb2 : W.cell? ⟨g9, 2, none⟩ = some (.int .i64 (f2 : Nat)) := h9.cell 2
  have xa3 : W.cell? ⟨g8, 3, none⟩ = some (.slice A n c) := h8.cell 3
  have xb3 : W.cell? ⟨g9, 3, none⟩ = some (.slice C n2 c2) := h9.cell 3
  have xa4 : W.cell? ⟨g8, 4, none⟩ = some (.slice B m d) := h8.cell 4
  have xb4 : W.cell? ⟨g9, 4, none⟩ = some (.slice D m2 d2) := h9.cell 4
  have xa5 : W.cell? ⟨g8, 5, none⟩ = some (.int .i64 (e4 : Nat)) := h8.cell 5
  have xb5 : W.cell? ⟨g9, 5, none⟩ = some (.int .i64 (f4 : Nat)) := h9.cell 5
  have xa6 : W.cell? ⟨g8, 6, none⟩ = some (.int .i64 (e5 : Nat)) := h8.cell 6
  have xb6 : W.cell? ⟨g9, 6, none⟩ = some (.int .i64 (f5 : Nat)) := h9.cell 6
  have xa7 : W.cell? ⟨g8, 7, none⟩ = some (.int .i64 (e6 : Nat)) := h8.cell 7
  have xb7 : W.cell? ⟨g9, 7, none⟩ = some (.int .i64 (f6 : Nat)) := h9.cell 7
  clear h8 h9
  have ln3 : n ≤ 3 := by rw [← lA]; exact (names_len _ iL1).2
  have lm3 : m ≤ 3 := by rw [← lB]; exact (names_len _ iL2).2
  have ln4 : n2 ≤ 3 := by rw [← lC]; exact (names_len _ iM1).2
  have lm4 : m2 ≤ 3 := by rw [← lD]; exact (names_len _ iM2).2
  obtain ⟨al, hal⟩ : ∃ al : Bool, al = decide (e1 = f1 ∧ e2 = f2 ∧ e3 = f3 ∧ (e4 = f4 ∧ e5 = f5 ∧ e6 = f6) ∧ n = n2 ∧ m = m2) := ⟨_, rfl⟩
  have HAL := Lib.hid hal
  clear hal
  go_cut [10] (fun v wx => v = .bool al ∧ wx = W)
  case first => as_aux_lemma =>
    by_cases h0 : e1 = f1
    rotate_left
    · have hx : ((e1 : Int) == (f1 : Int)) = false := by rw [beq_eq_false_iff_ne]; omega
      have hy : ((f1 : Int) == (e1 : Int)) = false := by rw [beq_eq_false_iff_ne]; omega
      have HAF := Lib.hid (HAL.out.trans (decide_eq_false (by rintro ⟨a0, a1, a2, ⟨a3, a4, a5⟩, a6, a7⟩; exact h0 a0)))
      clear h0
      go_wp2_with fail
      go_meet
      exact ⟨by rw [HAF.out], rfl⟩
    subst h0
    by_cases h1 : e2 = f2
    rotate_left
    · have hx : ((e2 : Int) == (f2 : Int)) = false := by rw [beq_eq_false_iff_ne]; omega
      have hy : ((f2 : Int) == (e2 : Int)) = false := by rw [beq_eq_false_iff_ne]; omega
      have HAF := Lib.hid (HAL.out.trans (decide_eq_false (by rintro ⟨a0, a1, a2, ⟨a3, a4, a5⟩, a6, a7⟩; exact h1 a1)))
      clear h1
      go_wp2_with fail
      go_meet
      exact ⟨by rw [HAF.out], rfl⟩
    subst h1
    by_cases h2 : e3 = f3
    rotate_left
    · have hx : ((e3 : Int) == (f3 : Int)) = false := by rw [beq_eq_false_iff_ne]; omega
      have hy : ((f3 : Int) == (e3 : Int)) = false := by rw [beq_eq_false_iff_ne]; omega
      have HAF := Lib.hid (HAL.out.trans (decide_eq_false (by rintro ⟨a0, a1, a2, ⟨a3, a4, a5⟩, a6, a7⟩; exact h2 a2)))
      clear h2
      go_wp2_with fail
      go_meet
      exact ⟨by rw [HAF.out], rfl⟩
    subst h2
    by_cases h3 : e4 = f4
    rotate_left
    · have hx : ((e4 : Int) == (f4 : Int)) = false := by rw [beq_eq_false_iff_ne]; omega
      have hy : ((f4 : Int) == (e4 : Int)) = false := by rw [beq_eq_false_iff_ne]; omega
      have HAF := Lib.hid (HAL.out.trans (decide_eq_false (by rintro ⟨a0, a1, a2, ⟨a3, a4, a5⟩, a6, a7⟩; exact h3 a3)))
      clear h3
      go_wp2_with fail
      go_meet
      exact ⟨by rw [HAF.out], rfl⟩
    subst h3
    by_cases h4 : e5 = f5
    rotate_left
    · have hx : ((e5 : Int) == (f5 : Int)) = false := by rw [beq_eq_false_iff_ne]; omega
      have hy : ((f5 : Int) == (e5 : Int)) = false := by rw [beq_eq_false_iff_ne]; omega
      have HAF := Lib.hid (HAL.out.trans (decide_eq_false (by rintro ⟨a0, a1, a2, ⟨a3, a4, a5⟩, a6, a7⟩; exact h4 a4)))
      clear h4
      go_wp2_with fail
      go_meet
      exact ⟨by rw [HAF.out], rfl⟩
    subst h4
    by_cases h5 : e6 = f6
    rotate_left
    · have hx : ((e6 : Int) == (f6 : Int)) = false := by rw [beq_eq_false_iff_ne]; omega
      have hy : ((f6 : Int) == (e6 : Int)) = false := by rw [beq_eq_false_iff_ne]; omega
      have HAF := Lib.hid (HAL.out.trans (decide_eq_false (by rintro ⟨a0, a1, a2, ⟨a3, a4, a5⟩, a6, a7⟩; exact h5 a5)))
      clear h5
      go_wp2_with fail
      go_meet
      exact ⟨by rw [HAF.out], rfl⟩
    subst h5
    by_cases h6 : n = n2
    rotate_left
    · have hx : ((n : Int) == (n2 : Int)) = false := by rw [beq_eq_false_iff_ne]; omega
      have hy : ((n2 : Int) == (n : Int)) = false := by rw [beq_eq_false_iff_ne]; omega
      have HAF := Lib.hid (HAL.out.trans (decide_eq_false (by rintro ⟨a0, a1, a2, ⟨a3, a4, a5⟩, a6, a7⟩; exact h6 a6)))
      clear h6
      go_wp2_with fail
      go_meet
      exact ⟨by rw [HAF.out], rfl⟩
    subst h6
    by_cases h7 : m = m2
    rotate_left
    · have hx : ((m : Int) == (m2 : Int)) = false := by rw [beq_eq_false_iff_ne]; omega
      have hy : ((m2 : Int) == (m : Int)) = false := by rw [beq_eq_false_iff_ne]; omega
      have HAF := Lib.hid (HAL.out.trans (decide_eq_false (by rintro ⟨a0, a1, a2, ⟨a3, a4, a5⟩, a6, a7⟩; exact h7 a7)))
      clear h7
      go_wp2_with fail
      go_meet
      exact ⟨by rw [HAF.out], rfl⟩
    subst h7
    have HAF := Lib.hid (HAL.out.trans (decide_eq_true ⟨rfl, rfl, rfl, ⟨rfl, rfl, rfl⟩, rfl, rfl⟩))
    go_wp2_with fail
    go_meet
    exact ⟨by rw [HAF.out], rfl⟩
  case rest =>
  obtain ⟨rfl, hw3⟩ := hcut
  subst hw3
  go_upto_block 0 with fail
  go_cut [10] (fun v wx => v = .bool (al && decide (L1 = M1)) ∧ Below wc.heap.size wc wx)
  case first => as_aux_lemma =>
    go_wp2_with fail
    go_loopw [10, 11] (fun v i wr => ∃ (k : Nat) (ab : Bool), k ≤ n ∧ i = .int .i64 k ∧ v = .bool ab ∧ Hid (ab = (al && decide (L1.take k = M1.take k))) ∧ Below wc.heap.size wc wr) (fun _ i _ => n - (intOf i).toNat)
    case atStart => exact ⟨0, al, Nat.zero_le _, rfl, rfl, Lib.hid (by simp), Below.refl _ _⟩
    case round =>
      obtain ⟨k, ab, hk, rfl, rfl, hab, hb⟩ := hrel
      have KB := Lib.hid hb
      have y8 : wr.cell? ⟨g8, 3, none⟩ = some (.slice A n c) := (H8.out.below hb).cell 3
      have y9 : wr.cell? ⟨g9, 3, none⟩ = some (.slice C n2 c2) := (H9.out.below hb).cell 3
      have sl := SA.out.below hb
      have sm := SC.out.below hb
      have YL := Lib.hid sl
      have YM := Lib.hid sm
      clear hb sl sm
      cases ab with
      | false =>
        have hv := Lib.hid (and_ne (L := L1) (M := M1) hab.out)
        go_wp2_with fail
        go_meet
        exact ⟨by rw [hv.out], KB.out⟩
      | true =>
        obtain ⟨hal1, htk⟩ := and_tt hab.out
        have hnn : n = n2 := (of_decide_eq_true (HAL.out.symm.trans hal1)).2.2.2.2.1
        have HNN := Lib.hid hnn
        have HT := Lib.hid htk
        have HA1 := Lib.hid hal1
        by_cases hlt : k < n
        · obtain ⟨ad, k1, rfl, hx⟩ := YL.out.get hlt
          obtain ⟨bd, k2, rfl, hy⟩ := YM.out.get (k := k) (by omega)
          obtain ⟨x1, hx1⟩ : ∃ x, L1[k] = x := ⟨_, rfl⟩
          obtain ⟨y1, hy1⟩ : ∃ x, M1[k] = x := ⟨_, rfl⟩
          have hst := Lib.hid (take_step k1 k2 HT.out)
          rw [hx1] at hx
          rw [hy1] at hy
          have hcmp := T_lbeq x1 y1
          have HX := Lib.hid hx1
          have HY := Lib.hid hy1
          have hlt2 : k < n2 := by omega
          have HX2 := Lib.hid hx
          have HY2 := Lib.hid hy
          clear hx1 hy1 htk hal1 hnn hab
          go_upto_region 10 with fail
          (refine wp_region_held_drew (S := fun w' => w'.cell? ⟨g8, 3, none⟩ = some (.slice (some ad) n c) ∧ w'.cell? ⟨g9, 3, none⟩ = some (.slice (some bd) n2 c2) ∧ w'.cell? (ad.add k) = some (.string (T x1)) ∧ w'.cell? (bd.add k) = some (.string (T y1)) ∧ Below wc.heap.size wc w') (by kernel_rfl) (⟨y8, y9, hx, hy, KB.out.drew⟩) (fun hHeld => ?_))
          (refine wpAnyH_take (i := 0) (oi := _) (v := ?_) (ops_at rfl) (by kernel_rfl) (by kernel_rfl) (by kernel_rfl) (fun _ _ _ h => h) (Or.inl ⟨by rfl, ?_⟩) (by assumption) ?_; rotate_left; (focus (intro w hSw; (try dsimp only at hSw); go_simp; (try first | with_reducible rfl | (rw [if_neg (by omega)])))); (try simp only [Act.put, List.setIfInBounds_toArray, List.set_cons_zero, List.set_cons_succ])); (refine wpAnyH_take (i := 1) (oi := _) (v := ?_) (ops_at rfl) (by kernel_rfl) (by kernel_rfl) (by kernel_rfl) (fun _ _ _ h => h) (Or.inl ⟨by rfl, ?_⟩) (by assumption) ?_; rotate_left; (focus (intro w hSw; (try dsimp only at hSw); go_simp; (try first | with_reducible rfl | (rw [if_neg (by omega)])))); (try simp only [Act.put, List.setIfInBounds_toArray, List.set_cons_zero, List.set_cons_succ])); (refine wpAnyH_take (i := 2) (oi := _) (v := ?_) (ops_at rfl) (by kernel_rfl) (by kernel_rfl) (by kernel_rfl) (fun _ _ _ h => h) (Or.inl ⟨by rfl, ?_⟩) (by assumption) ?_; rotate_left; (focus (intro w hSw; (try dsimp only at hSw); go_simp; (try first | with_reducible rfl | (rw [if_neg (by omega)])))); (try simp only [Act.put, List.setIfInBounds_toArray, List.set_cons_zero, List.set_cons_succ])); (refine wpAnyH_take (i := 3) (oi := _) (v := ?_) (ops_at rfl) (by kernel_rfl) (by kernel_rfl) (by kernel_rfl) (fun _ _ _ h => h) (Or.inl ⟨by rfl, ?_⟩) (by assumption) ?_; rotate_left; (focus (intro w hSw; (try dsimp only at hSw); go_simp; (try first | with_reducible rfl | (rw [if_neg (by omega)])))); (try simp only [Act.put, List.setIfInBounds_toArray, List.set_cons_zero, List.set_cons_succ])); (refine wpAnyH_take (i := 4) (oi := _) (v := ?_) (ops_at rfl) (by kernel_rfl) (by kernel_rfl) (by kernel_rfl) (fun _ _ _ h => h) (Or.inl ⟨by rfl, ?_⟩) (by assumption) ?_; rotate_left; (focus (intro w hSw; (try dsimp only at hSw); go_simp; (try first | with_reducible rfl | (rw [if_neg (by omega)])))); (try simp only [Act.put, List.setIfInBounds_toArray, List.set_cons_zero, List.set_cons_succ])); (refine wpAnyH_take (i := 5) (oi := _) (v := ?_) (ops_at rfl) (by kernel_rfl) (by kernel_rfl) (by kernel_rfl) (fun _ _ _ h => h) (Or.inl ⟨by rfl, ?_⟩) (by assumption) ?_; rotate_left; (focus (intro w hSw; (try dsimp only at hSw); go_simp; (try first | with_reducible rfl | (rw [if_neg (by omega)])))); (try simp only [Act.put, List.setIfInBounds_toArray, List.set_cons_zero, List.set_cons_succ])); (refine wpAnyH_take (i := 6) (oi := _) (v := ?_) (ops_at rfl) (by kernel_rfl) (by kernel_rfl) (by kernel_rfl) (fun _ _ _ h => h) (Or.inl ⟨by rfl, ?_⟩) (by assumption) ?_; rotate_left; (focus (intro w hSw; (try dsimp only at hSw); go_simp; (try first | with_reducible rfl | (rw [if_neg (by omega)])))); (try simp only [Act.put, List.setIfInBounds_toArray, List.set_cons_zero, List.set_cons_succ])); (refine wpAnyH_take (i := 7) (oi := _) (v := ?_) (ops_at rfl) (by kernel_rfl) (by kernel_rfl) (by kernel_rfl) (fun _ _ _ h => h) (Or.inl ⟨by rfl, ?_⟩) (by assumption) ?_; rotate_left; (focus (intro w hSw; (try dsimp only at hSw); go_simp; (try first | with_reducible rfl | (rw [if_neg (by omega)])))); (try simp only [Act.put, List.setIfInBounds_toArray, List.set_cons_zero, List.set_cons_succ])); (refine wpAnyH_take (i := 8) (oi := _) (v := ?_) (ops_at rfl) (by kernel_rfl) (by kernel_rfl) (by kernel_rfl) (fun _ _ _ h => h) (Or.inl ⟨by rfl, ?_⟩) (by assumption) ?_; rotate_left; (focus (intro w hSw; (try dsimp only at hSw); go_simp; (try first | with_reducible rfl | (rw [if_neg (by omega)])))); (try simp only [Act.put, List.setIfInBounds_toArray, List.set_cons_zero, List.set_cons_succ])); (refine wpAnyH_take (i := 9) (oi := _) (v := ?_) (ops_at rfl) (by kernel_rfl) (by kernel_rfl) (by kernel_rfl) (fun _ _ _ h => h) (Or.inl ⟨by rfl, ?_⟩) (by assumption) ?_; rotate_left; (focus (intro w hSw; (try dsimp only at hSw); go_simp; (try first | with_reducible rfl | (rw [if_neg (by omega)])))); (try simp only [Act.put, List.setIfInBounds_toArray, List.set_cons_zero, List.set_cons_succ])); (refine wpAnyH_take (i := 10) (oi := _) (v := ?_) (ops_at rfl) (by kernel_rfl) (by kernel_rfl) (by kernel_rfl) (fun _ _ _ h => h) (Or.inl ⟨by rfl, ?_⟩) (by assumption) ?_; rotate_left; (focus (intro w hSw; (try dsimp only at hSw); go_simp; (try first | with_reducible rfl | (rw [if_neg (by omega)])))); (try simp only [Act.put, List.setIfInBounds_toArray, List.set_cons_zero, List.set_cons_succ])); (refine wpAnyH_take (i := 11) (oi := _) (v := ?_) (ops_at rfl) (by kernel_rfl) (by kernel_rfl) (by kernel_rfl) (fun _ _ _ h => h) (Or.inl ⟨by rfl, ?_⟩) (by assumption) ?_; rotate_left; (focus (intro w hSw; (try dsimp only at hSw); go_simp; (try first | with_reducible rfl | (rw [if_neg (by omega)])))); (try simp only [Act.put, List.setIfInBounds_toArray, List.set_cons_zero, List.set_cons_succ]))
          (refine wpAnyH_done (by kernel_rfl) ?_ _)
          clear hHeld
          go_wp2_with fail
          refine ⟨⟨k + 1, decide (x1 = y1), by omega, by go_num, rfl, Lib.hid (by rw [HA1.out, hst.out, HX.out, HY.out, Bool.true_and]), KB.out.drew⟩, by simp [intOf]; omega⟩
        · have hv := Lib.hid (show (al && decide (L1 = M1)) = true by
            have hkn : k = n := by omega
            rw [HA1.out, Bool.true_and]
            apply decide_eq_true
            have h1 := HT.out
            rw [List.take_of_length_le (by omega), List.take_of_length_le (by omega)] at h1
            exact h1)
          go_wp2_with fail
          go_meet
          exact ⟨by rw [hv.out], KB.out⟩
  case rest =>
  obtain ⟨rfl, hbw⟩ := hcut
  have NB := Lib.hid hbw
  clear hbw
  have h8 := H8.out.below NB.out
  have h9 := H9.out.below NB.out
  have sa := SA.out.below NB.out
  have sb := SB.out.below NB.out
  have sc := SC.out.below NB.out
  have sd := SD.out.below NB.out
  have hb := HB.out.trans (NB.out.mono HB.out.size)
  clear H8 H9 SA SB SC SD HB NB xa0 xa1 xa2 xa3 xa4 xa5 xa6 xa7 xb0 xb1 xb2 xb3 xb4 xb5 xb6 xb7
  have H8 := Lib.hid h8
  have H9 := Lib.hid h9
  have SA := Lib.hid sa
  have SB := Lib.hid sb
  have SC := Lib.hid sc
  have SD := Lib.hid sd
  have HB := Lib.hid hb
  clear h8 h9 sa sb sc sd hb
  go_upto_block 2 with fail
  go_cut [10] (fun v wx => v = .bool ((al && decide (L1 = M1)) && decide (L2 = M2)) ∧ Below wc.heap.size wc wx)
  case first => as_aux_lemma =>
    go_wp2_with fail
    go_loopw [10, 12] (fun v i wr => ∃ (k : Nat) (ab : Bool), k ≤ m ∧ i = .int .i64 k ∧ v = .bool ab ∧ Hid (ab = ((al && decide (L1 = M1)) && decide (L2.take k = M2.take k))) ∧ Below wc.heap.size wc wr) (fun _ i _ => m - (intOf i).toNat)
    case atStart => exact ⟨0, (al && decide (L1 = M1)), Nat.zero_le _, rfl, rfl, Lib.hid (by simp), Below.refl _ _⟩
    case round =>
      obtain ⟨k, ab, hk, rfl, rfl, hab, hb⟩ := hrel
      have KB := Lib.hid hb
      have y8 : wr.cell? ⟨g8, 4, none⟩ = some (.slice B m d) := (H8.out.below hb).cell 4
      have y9 : wr.cell? ⟨g9, 4, none⟩ = some (.slice D m2 d2) := (H9.out.below hb).cell 4
      have sl := SB.out.below hb
      have sm := SD.out.below hb
      have YL := Lib.hid sl
      have YM := Lib.hid sm
      clear hb sl sm
      cases ab with
      | false =>
        have hv := Lib.hid (and_ne (L := L2) (M := M2) hab.out)
        go_wp2_with fail
        go_meet
        exact ⟨by rw [hv.out], KB.out⟩
      | true =>
        obtain ⟨hal1, htk⟩ := and_tt hab.out
        have hnn : m = m2 := (of_decide_eq_true (HAL.out.symm.trans (and_tt hal1.symm).1)).2.2.2.2.2
        have HNN := Lib.hid hnn
        have HT := Lib.hid htk
        have HA1 := Lib.hid hal1
        by_cases hlt : k < m
        · obtain ⟨ad, k1, rfl, hx⟩ := YL.out.get hlt
          obtain ⟨bd, k2, rfl, hy⟩ := YM.out.get (k := k) (by omega)
          obtain ⟨x1, hx1⟩ : ∃ x, L2[k] = x := ⟨_, rfl⟩
          obtain ⟨y1, hy1⟩ : ∃ x, M2[k] = x := ⟨_, rfl⟩
          have hst := Lib.hid (take_step k1 k2 HT.out)
          rw [hx1] at hx
          rw [hy1] at hy
          have hcmp := T_lbeq x1 y1
          have HX := Lib.hid hx1
          have HY := Lib.hid hy1
          have hlt2 : k < m2 := by omega
          have HX2 := Lib.hid hx
          have HY2 := Lib.hid hy
          clear hx1 hy1 htk hal1 hnn hab
          go_upto_region 14 with fail
          (refine wp_region_held_drew (S := fun w' => w'.cell? ⟨g8, 4, none⟩ = some (.slice (some ad) m d) ∧ w'.cell? ⟨g9, 4, none⟩ = some (.slice (some bd) m2 d2) ∧ w'.cell? (ad.add k) = some (.string (T x1)) ∧ w'.cell? (bd.add k) = some (.string (T y1)) ∧ Below wc.heap.size wc w') (by kernel_rfl) (⟨y8, y9, hx, hy, KB.out.drew⟩) (fun hHeld => ?_))
          (refine wpAnyH_take (i := 0) (oi := _) (v := ?_) (ops_at rfl) (by kernel_rfl) (by kernel_rfl) (by kernel_rfl) (fun _ _ _ h => h) (Or.inl ⟨by rfl, ?_⟩) (by assumption) ?_; rotate_left; (focus (intro w hSw; (try dsimp only at hSw); go_simp; (try first | with_reducible rfl | (rw [if_neg (by omega)])))); (try simp only [Act.put, List.setIfInBounds_toArray, List.set_cons_zero, List.set_cons_succ])); (refine wpAnyH_take (i := 1) (oi := _) (v := ?_) (ops_at rfl) (by kernel_rfl) (by kernel_rfl) (by kernel_rfl) (fun _ _ _ h => h) (Or.inl ⟨by rfl, ?_⟩) (by assumption) ?_; rotate_left; (focus (intro w hSw; (try dsimp only at hSw); go_simp; (try first | with_reducible rfl | (rw [if_neg (by omega)])))); (try simp only [Act.put, List.setIfInBounds_toArray, List.set_cons_zero, List.set_cons_succ])); (refine wpAnyH_take (i := 2) (oi := _) (v := ?_) (ops_at rfl) (by kernel_rfl) (by kernel_rfl) (by kernel_rfl) (fun _ _ _ h => h) (Or.inl ⟨by rfl, ?_⟩) (by assumption) ?_; rotate_left; (focus (intro w hSw; (try dsimp only at hSw); go_simp; (try first | with_reducible rfl | (rw [if_neg (by omega)])))); (try simp only [Act.put, List.setIfInBounds_toArray, List.set_cons_zero, List.set_cons_succ])); (refine wpAnyH_take (i := 3) (oi := _) (v := ?_) (ops_at rfl) (by kernel_rfl) (by kernel_rfl) (by kernel_rfl) (fun _ _ _ h => h) (Or.inl ⟨by rfl, ?_⟩) (by assumption) ?_; rotate_left; (focus (intro w hSw; (try dsimp only at hSw); go_simp; (try first | with_reducible rfl | (rw [if_neg (by omega)])))); (try simp only [Act.put, List.setIfInBounds_toArray, List.set_cons_zero, List.set_cons_succ])); (refine wpAnyH_take (i := 4) (oi := _) (v := ?_) (ops_at rfl) (by kernel_rfl) (by kernel_rfl) (by kernel_rfl) (fun _ _ _ h => h) (Or.inl ⟨by rfl, ?_⟩) (by assumption) ?_; rotate_left; (focus (intro w hSw; (try dsimp only at hSw); go_simp; (try first | with_reducible rfl | (rw [if_neg (by omega)])))); (try simp only [Act.put, List.setIfInBounds_toArray, List.set_cons_zero, List.set_cons_succ])); (refine wpAnyH_take (i := 5) (oi := _) (v := ?_) (ops_at rfl) (by kernel_rfl) (by kernel_rfl) (by kernel_rfl) (fun _ _ _ h => h) (Or.inl ⟨by rfl, ?_⟩) (by assumption) ?_; rotate_left; (focus (intro w hSw; (try dsimp only at hSw); go_simp; (try first | with_reducible rfl | (rw [if_neg (by omega)])))); (try simp only [Act.put, List.setIfInBounds_toArray, List.set_cons_zero, List.set_cons_succ])); (refine wpAnyH_take (i := 6) (oi := _) (v := ?_) (ops_at rfl) (by kernel_rfl) (by kernel_rfl) (by kernel_rfl) (fun _ _ _ h => h) (Or.inl ⟨by rfl, ?_⟩) (by assumption) ?_; rotate_left; (focus (intro w hSw; (try dsimp only at hSw); go_simp; (try first | with_reducible rfl | (rw [if_neg (by omega)])))); (try simp only [Act.put, List.setIfInBounds_toArray, List.set_cons_zero, List.set_cons_succ])); (refine wpAnyH_take (i := 7) (oi := _) (v := ?_) (ops_at rfl) (by kernel_rfl) (by kernel_rfl) (by kernel_rfl) (fun _ _ _ h => h) (Or.inl ⟨by rfl, ?_⟩) (by assumption) ?_; rotate_left; (focus (intro w hSw; (try dsimp only at hSw); go_simp; (try first | with_reducible rfl | (rw [if_neg (by omega)])))); (try simp only [Act.put, List.setIfInBounds_toArray, List.set_cons_zero, List.set_cons_succ])); (refine wpAnyH_take (i := 8) (oi := _) (v := ?_) (ops_at rfl) (by kernel_rfl) (by kernel_rfl) (by kernel_rfl) (fun _ _ _ h => h) (Or.inl ⟨by rfl, ?_⟩) (by assumption) ?_; rotate_left; (focus (intro w hSw; (try dsimp only at hSw); go_simp; (try first | with_reducible rfl | (rw [if_neg (by omega)])))); (try simp only [Act.put, List.setIfInBounds_toArray, List.set_cons_zero, List.set_cons_succ])); (refine wpAnyH_take (i := 9) (oi := _) (v := ?_) (ops_at rfl) (by kernel_rfl) (by kernel_rfl) (by kernel_rfl) (fun _ _ _ h => h) (Or.inl ⟨by rfl, ?_⟩) (by assumption) ?_; rotate_left; (focus (intro w hSw; (try dsimp only at hSw); go_simp; (try first | with_reducible rfl | (rw [if_neg (by omega)])))); (try simp only [Act.put, List.setIfInBounds_toArray, List.set_cons_zero, List.set_cons_succ])); (refine wpAnyH_take (i := 10) (oi := _) (v := ?_) (ops_at rfl) (by kernel_rfl) (by kernel_rfl) (by kernel_rfl) (fun _ _ _ h => h) (Or.inl ⟨by rfl, ?_⟩) (by assumption) ?_; rotate_left; (focus (intro w hSw; (try dsimp only at hSw); go_simp; (try first | with_reducible rfl | (rw [if_neg (by omega)])))); (try simp only [Act.put, List.setIfInBounds_toArray, List.set_cons_zero, List.set_cons_succ])); (refine wpAnyH_take (i := 11) (oi := _) (v := ?_) (ops_at rfl) (by kernel_rfl) (by kernel_rfl) (by kernel_rfl) (fun _ _ _ h => h) (Or.inl ⟨by rfl, ?_⟩) (by assumption) ?_; rotate_left; (focus (intro w hSw; (try dsimp only at hSw); go_simp; (try first | with_reducible rfl | (rw [if_neg (by omega)])))); (try simp only [Act.put, List.setIfInBounds_toArray, List.set_cons_zero, List.set_cons_succ]))
          (refine wpAnyH_done (by kernel_rfl) ?_ _)
          clear hHeld
          go_wp2_with fail
          refine ⟨⟨k + 1, decide (x1 = y1), by omega, by go_num, rfl, Lib.hid (by rw [HA1.out, hst.out, HX.out, HY.out, Bool.true_and]), KB.out.drew⟩, by simp [intOf]; omega⟩
        · have hv := Lib.hid (show ((al && decide (L1 = M1)) && decide (L2 = M2)) = true by
            have hkn : k = m := by omega
            rw [HA1.out, Bool.true_and]
            apply decide_eq_true
            have h1 := HT.out
            rw [List.take_of_length_le (by omega), List.take_of_length_le (by omega)] at h1
            exact h1)
          go_wp2_with fail
          go_meet
          exact ⟨by rw [hv.out], KB.out⟩
  case rest =>
  obtain ⟨rfl, hbw⟩ := hcut
  have NB := Lib.hid hbw
  clear hbw
  have h8 := H8.out.below NB.out
  have h9 := H9.out.below NB.out
  have sa := SA.out.below NB.out
  have sb := SB.out.below NB.out
  have sc := SC.out.below NB.out
  have sd := SD.out.below NB.out
  have hb := HB.out.trans (NB.out.mono HB.out.size)
  clear H8 H9 SA SB SC SD HB NB
  have H8 := Lib.hid h8
  have H9 := Lib.hid h9
  have SA := Lib.hid sa
  have SB := Lib.hid sb
  have SC := Lib.hid sc
  have SD := Lib.hid sd
  have HB := Lib.hid hb
  clear h8 h9 sa sb sc sd hb
  obtain ⟨be, hbe⟩ : ∃ b, ((al && decide (L1 = M1)) && decide (L2 = M2)) = b := ⟨_, rfl⟩
  rw [hbe]
  have hS1 : SmallT (toN e1 e2 e3 e4 e5 e6 be1 be2 be3 be4 be5 be6) L1 L2 := ⟨nat99 _ be1, nat99 _ be2, nat99 _ be3, nat99 _ be4, nat99 _ be5, nat99 _ be6, iL1, iL2⟩
  have hS2 : SmallT (toN f1 f2 f3 f4 f5 f6 bf1 bf2 bf3 bf4 bf5 bf6) M1 M2 := ⟨nat99 _ bf1, nat99 _ bf2, nat99 _ bf3, nat99 _ bf4, nat99 _ bf5, nat99 _ bf6, iM1, iM2⟩
  have hinj := told_inj hS1 hS2
  obtain ⟨t1, ht1⟩ : ∃ t, toldT (toN e1 e2 e3 e4 e5 e6 be1 be2 be3 be4 be5 be6) L1 L2 = t := ⟨_, rfl⟩
  obtain ⟨t2, ht2⟩ : ∃ t, toldT (toN f1 f2 f3 f4 f5 f6 bf1 bf2 bf3 bf4 bf5 bf6) M1 M2 = t := ⟨_, rfl⟩
  rw [ht1, ht2] at hinj
  have hcmp := T_lbeq t1 t2
  have hbt : decide (t1 = t2) = be := by
    rw [← hbe, HAL.out, Bool.eq_iff_iff]
    simp only [Bool.and_eq_true, decide_eq_true_eq]
    rw [hinj]
    show ((e1 : Int) = (f1 : Int) ∧ (e2 : Int) = (f2 : Int) ∧ (e3 : Int) = (f3 : Int) ∧ ((e4 : Int) = (f4 : Int) ∧ (e5 : Int) = (f5 : Int) ∧ (e6 : Int) = (f6 : Int)) ∧ L1 = M1 ∧ L2 = M2) ↔ _
    constructor
    · rintro ⟨a0, a1, a2, ⟨a3, a4, a5⟩, a6, a7⟩
      exact ⟨⟨⟨by omega, by omega, by omega, ⟨by omega, by omega, by omega⟩, by rw [← lA, ← lC, a6], by rw [← lB, ← lD, a7]⟩, a6⟩, a7⟩
    · rintro ⟨⟨⟨a0, a1, a2, ⟨a3, a4, a5⟩, _, _⟩, a6⟩, a7⟩
      exact ⟨by omega, by omega, by omega, ⟨by omega, by omega, by omega⟩, a6, a7⟩
  rw [hbt] at hcmp
  have HT1 := Lib.hid ht1
  have HT2 := Lib.hid ht2
  clear hbe hS1 hS2 hinj ht1 ht2 hbt HAL
  go_upto_region 15 with fail
  have HQ := Lib.hid (fun w' (hb : Below wc.heap.size wc w') => (⟨(H8.out.below hb).cell 0, (H8.out.below hb).cell 1, (H8.out.below hb).cell 2, (H8.out.below hb).cell 3, (H8.out.below hb).cell 4, (H8.out.below hb).cell 5, (H8.out.below hb).cell 6, (H8.out.below hb).cell 7, (H9.out.below hb).cell 0, (H9.out.below hb).cell 1, (H9.out.below hb).cell 2, (H9.out.below hb).cell 3, (H9.out.below hb).cell 4, (H9.out.below hb).cell 5, (H9.out.below hb).cell 6, (H9.out.below hb).cell 7, hb⟩ : w'.cell? ⟨g8, 0, none⟩ = some (.int .i64 (e1 : Nat)) ∧ w'.cell? ⟨g8, 1, none⟩ = some (.int .i64 (e3 : Nat)) ∧ w'.cell? ⟨g8, 2, none⟩ = some (.int .i64 (e2 : Nat)) ∧ w'.cell? ⟨g8, 3, none⟩ = some (.slice A n c) ∧ w'.cell? ⟨g8, 4, none⟩ = some (.slice B m d) ∧ w'.cell? ⟨g8, 5, none⟩ = some (.int .i64 (e4 : Nat)) ∧ w'.cell? ⟨g8, 6, none⟩ = some (.int .i64 (e5 : Nat)) ∧ w'.cell? ⟨g8, 7, none⟩ = some (.int .i64 (e6 : Nat)) ∧ w'.cell? ⟨g9, 0, none⟩ = some (.int .i64 (f1 : Nat)) ∧ w'.cell? ⟨g9, 1, none⟩ = some (.int .i64 (f3 : Nat)) ∧ w'.cell? ⟨g9, 2, none⟩ = some (.int .i64 (f2 : Nat)) ∧ w'.cell? ⟨g9, 3, none⟩ = some (.slice C n2 c2) ∧ w'.cell? ⟨g9, 4, none⟩ = some (.slice D m2 d2) ∧ w'.cell? ⟨g9, 5, none⟩ = some (.int .i64 (f4 : Nat)) ∧ w'.cell? ⟨g9, 6, none⟩ = some (.int .i64 (f5 : Nat)) ∧ w'.cell? ⟨g9, 7, none⟩ = some (.int .i64 (f6 : Nat)) ∧ Below wc.heap.size wc w'))
  (refine wp_region_held_drew (S := fun w' => w'.cell? ⟨g8, 0, none⟩ = some (.int .i64 (e1 : Nat)) ∧ w'.cell? ⟨g8, 1, none⟩ = some (.int .i64 (e3 : Nat)) ∧ w'.cell? ⟨g8, 2, none⟩ = some (.int .i64 (e2 : Nat)) ∧ w'.cell? ⟨g8, 3, none⟩ = some (.slice A n c) ∧ w'.cell? ⟨g8, 4, none⟩ = some (.slice B m d) ∧ w'.cell? ⟨g8, 5, none⟩ = some (.int .i64 (e4 : Nat)) ∧ w'.cell? ⟨g8, 6, none⟩ = some (.int .i64 (e5 : Nat)) ∧ w'.cell? ⟨g8, 7, none⟩ = some (.int .i64 (e6 : Nat)) ∧ w'.cell? ⟨g9, 0, none⟩ = some (.int .i64 (f1 : Nat)) ∧ w'.cell? ⟨g9, 1, none⟩ = some (.int .i64 (f3 : Nat)) ∧ w'.cell? ⟨g9, 2, none⟩ = some (.int .i64 (f2 : Nat)) ∧ w'.cell? ⟨g9, 3, none⟩ = some (.slice C n2 c2) ∧ w'.cell? ⟨g9, 4, none⟩ = some (.slice D m2 d2) ∧ w'.cell? ⟨g9, 5, none⟩ = some (.int .i64 (f4 : Nat)) ∧ w'.cell? ⟨g9, 6, none⟩ = some (.int .i64 (f5 : Nat)) ∧ w'.cell? ⟨g9, 7, none⟩ = some (.int .i64 (f6 : Nat)) ∧ Below wc.heap.size wc w') (by kernel_rfl) (HQ.out _ (Below.refl _ _).drew) (fun hHeld => ?_))
  (refine wpAnyH_take (i := 0) (oi := _) (v := ?_) (ops_at rfl) (by kernel_rfl) (by kernel_rfl) (by kernel_rfl) (fun _ _ _ h => h) (Or.inl ⟨by rfl, ?_⟩) (by assumption) ?_; rotate_left; (focus (intro w hSw; (try dsimp only at hSw); go_simp; (try first | with_reducible rfl | (rw [if_neg (by omega)])))); (try simp only [Act.put, List.setIfInBounds_toArray, List.set_cons_zero, List.set_cons_succ])); (refine wpAnyH_take (i := 2) (oi := _) (v := ?_) (ops_at rfl) (by kernel_rfl) (by kernel_rfl) (by kernel_rfl) (fun _ _ _ h => h) (Or.inl ⟨by rfl, ?_⟩) (by assumption) ?_; rotate_left; (focus (intro w hSw; (try dsimp only at hSw); go_simp; (try first | with_reducible rfl | (rw [if_neg (by omega)])))); (try simp only [Act.put, List.setIfInBounds_toArray, List.set_cons_zero, List.set_cons_succ])); (refine wpAnyH_take (i := 5) (oi := _) (v := ?_) (ops_at rfl) (by kernel_rfl) (by kernel_rfl) (by kernel_rfl) (fun _ _ _ h => h) (Or.inl ⟨by rfl, ?_⟩) (by assumption) ?_; rotate_left; (focus (intro w hSw; (try dsimp only at hSw); go_simp; (try first | with_reducible rfl | (rw [if_neg (by omega)])))); (try simp only [Act.put, List.setIfInBounds_toArray, List.set_cons_zero, List.set_cons_succ]))
  (refine wpAnyH_ready (rs := [1]) (by kernel_rfl) (by simp) (AllReadyH.cons (ops_at rfl) (fun K hK => ?_) AllReadyH.nil); go_simp; (refine (rtold_any (toN e1 e2 e3 e4 e5 e6 be1 be2 be3 be4 be5 be6) A B n c m d L1 L2 ((HE.out.below HB.out).below (Below.refl _ _).drew) (SA.out.below (Below.refl _ _).drew) (SB.out.below (Below.refl _ _).drew) hnc hmd (names_len _ iL1).1 (names_len _ iL2).1 (by omega) (by omega)).mono ?_; rintro r w5 ⟨rfl, hb5⟩; rw [HT1.out]); refine hK.out _ _ (HQ.out _ ((Below.refl _ _).drew.trans hb5)) (fun hHeld => ?_); clear hK K; (try simp only [Act.put, List.setIfInBounds_toArray, List.set_cons_zero, List.set_cons_succ]))
  clear hb5
  (refine wpAnyH_ready (rs := [3]) (by kernel_rfl) (by simp) (AllReadyH.cons (ops_at rfl) (fun K hK => ?_) AllReadyH.nil); go_simp; (refine (rtold_any (toN f1 f2 f3 f4 f5 f6 bf1 bf2 bf3 bf4 bf5 bf6) C D n2 c2 m2 d2 M1 M2 ((HE.out.below HB.out).below (hHeld.2.2.2.2.2.2.2.2.2.2.2.2.2.2.2.2)) (SC.out.below (hHeld.2.2.2.2.2.2.2.2.2.2.2.2.2.2.2.2)) (SD.out.below (hHeld.2.2.2.2.2.2.2.2.2.2.2.2.2.2.2.2)) hnc2 hmd2 (names_len _ iM1).1 (names_len _ iM2).1 (by omega) (by omega)).mono ?_; rintro r w6 ⟨rfl, hb6⟩; rw [HT2.out]); refine hK.out _ _ (HQ.out _ ((hHeld.2.2.2.2.2.2.2.2.2.2.2.2.2.2.2.2).trans (hb6.mono (hHeld.2.2.2.2.2.2.2.2.2.2.2.2.2.2.2.2).size))) (fun hHeld => ?_); clear hK K; (try simp only [Act.put, List.setIfInBounds_toArray, List.set_cons_zero, List.set_cons_succ]))
  clear hb6
  (refine wpAnyH_take (i := 4) (oi := _) (v := ?_) (ops_at rfl) (by kernel_rfl) (by kernel_rfl) (by kernel_rfl) (fun _ _ _ h => h) (Or.inl ⟨by rfl, ?_⟩) (by assumption) ?_; rotate_left; (focus (intro w hSw; (try dsimp only at hSw); go_simp; (try first | with_reducible rfl | (rw [if_neg (by omega)])))); (try simp only [Act.put, List.setIfInBounds_toArray, List.set_cons_zero, List.set_cons_succ])); (refine wpAnyH_take (i := 6) (oi := _) (v := ?_) (ops_at rfl) (by kernel_rfl) (by kernel_rfl) (by kernel_rfl) (fun _ _ _ h => h) (Or.inl ⟨by rfl, ?_⟩) (by assumption) ?_; rotate_left; (focus (intro w hSw; (try dsimp only at hSw); go_simp; (try first | with_reducible rfl | (rw [if_neg (by omega)])))); (try simp only [Act.put, List.setIfInBounds_toArray, List.set_cons_zero, List.set_cons_succ])); (refine wpAnyH_take (i := 7) (oi := _) (v := ?_) (ops_at rfl) (by kernel_rfl) (by kernel_rfl) (by kernel_rfl) (fun _ _ _ h => h) (Or.inl ⟨by rfl, ?_⟩) (by assumption) ?_; rotate_left; (focus (intro w hSw; (try dsimp only at hSw); go_simp; (try first | with_reducible rfl | (rw [if_neg (by omega)])))); (try simp only [Act.put, List.setIfInBounds_toArray, List.set_cons_zero, List.set_cons_succ]))
  (refine wpAnyH_ready (rs := [8]) (by kernel_rfl) (by simp) (AllReadyH.cons (ops_at rfl) (fun K hK => ?_) AllReadyH.nil); go_simp; (refine (awake_any _ ((HE.out.below HB.out).below (hHeld.2.2.2.2.2.2.2.2.2.2.2.2.2.2.2.2))).mono ?_; rintro r w7 ⟨rfl, hb7⟩); refine hK.out _ _ (HQ.out _ ((hHeld.2.2.2.2.2.2.2.2.2.2.2.2.2.2.2.2).trans (hb7.mono (hHeld.2.2.2.2.2.2.2.2.2.2.2.2.2.2.2.2).size))) (fun hHeld => ?_); clear hK K; (try simp only [Act.put, List.setIfInBounds_toArray, List.set_cons_zero, List.set_cons_succ]))
  (refine wpAnyH_take (i := 9) (oi := _) (v := ?_) (ops_at rfl) (by kernel_rfl) (by kernel_rfl) (by kernel_rfl) (fun _ _ _ h => h) (Or.inl ⟨by rfl, ?_⟩) (by assumption) ?_; rotate_left; (focus (intro w hSw; (try dsimp only at hSw); go_simp; (try first | with_reducible rfl | (rw [if_neg (by omega)])))); (try simp only [Act.put, List.setIfInBounds_toArray, List.set_cons_zero, List.set_cons_succ])); (refine wpAnyH_take (i := 10) (oi := _) (v := ?_) (ops_at rfl) (by kernel_rfl) (by kernel_rfl) (by kernel_rfl) (fun _ _ _ h => h) (Or.inl ⟨by rfl, ?_⟩) (by assumption) ?_; rotate_left; (focus (intro w hSw; (try dsimp only at hSw); go_simp; (try first | with_reducible rfl | (rw [if_neg (by omega)])))); (try simp only [Act.put, List.setIfInBounds_toArray, List.set_cons_zero, List.set_cons_succ]))
  (refine wpAnyH_done (by kernel_rfl) ?_ _)
  have HZ := Lib.hid (HB.out.trans ((hHeld.2.2.2.2.2.2.2.2.2.2.2.2.2.2.2.2).mono HB.out.size))
  clear hHeld
  go_wp2_with fail
  go_ret
  exact ⟨rfl, HZ.out⟩
end Go.Proofs.YtkbgedaogfcdnaaDoor
