/- rept.Num, nibble, unhex. -/
import Derived.Test.YtkbgedaogfcdnaaDoorReptEv
namespace Go.Proofs.YtkbgedaogfcdnaaDoor
set_option linter.unusedSimpArgs false
set_option linter.unusedVariables false
open Go.RowKit
open Crc (Bytes)
theorem T_lbeq (a b : List UInt8) : ((T a).toList == (T b).toList) = decide (a = b) := by
  rw [ByteArray.toList_eq, ByteArray.toList_eq, T_data, T_data, Bool.eq_iff_iff]
  simp
theorem atoi_bd {l : List UInt8} {v : Int} (hm : Lib.atoiAll l = .ok v) : -9223372036854775808 ≤ v ∧ v ≤ 9223372036854775807 := by
  unfold Lib.atoiAll at hm
  split at hm
  · cases hm
  · rename_i c r
    simp only at hm
    split at hm
    · cases hm
    · cases hm
    · split at hm
      · cases hm
      · split at hm
        · cases hm
        · rename_i u _ h1 h2
          injection hm with hm
          by_cases hneg : c.toNat = 45
          · rw [if_pos hneg] at hm; omega
          · rw [if_neg hneg] at hm; omega
set_option maxRecDepth 100000 in
set_option maxHeartbeats 2000000 in
theorem rNum_any (l : List UInt8) (w : World) (hE : Env w) (hl : l.length ≤ 100000) :
    Calls Tryd.prog 33 #[.string (T l)] w fun r w' => r = .returned (.tuple #[.int .i64 ((Rep.numP l).getD 0), .bool (Rep.numP l).isSome]) ∧ Below w.heap.size w w' := by
  have HE := Lib.hid hE
  have hz := T_size l
  clear hE
  go_enter Tryd.func33, Tryd.ntmps33
  go_wp2_with fail
  refine (atoi_env l _ HE.out hl).mono ?_
  rintro r w1 ⟨⟨v, er, rfl, hv⟩, hb1⟩
  have HB1 := Lib.hid hb1
  clear hb1
  rcases hv with ⟨ha, rfl⟩ | ⟨hno, t, p, rfl⟩
  rotate_left
  · have HN := Lib.hid (show Rep.numP l = none by
      unfold Rep.numP
      split
      · rename_i n hn; exact absurd hn (hno n)
      · rfl)
    clear hno
    go_wp2_with fail
    go_ret2
    exact ⟨by rw [HN.out]; rfl, HB1.out⟩
  have hbd := atoi_bd ha
  have HP := Lib.hid (show Rep.numP l = if v < 0 ∨ Rep.dec v ≠ l ∨ 9 < l.length then none else some v by unfold Rep.numP; rw [ha])
  clear ha
  by_cases h0 : v < 0
  · have HN := Lib.hid (HP.out.trans (if_pos (.inl h0)))
    go_wp2_with fail
    go_ret2
    exact ⟨by rw [HN.out]; rfl, HB1.out⟩
  go_wp2_with fail
  refine (rnum_any v hbd.1 hbd.2 _ (HE.out.below HB1.out)).mono ?_
  rintro r w2 ⟨rfl, hb2⟩
  have HB2 := Lib.hid (HB1.out.trans (hb2.mono HB1.out.size))
  have hq := T_lbeq (Rep.dec v) l
  clear hb2
  by_cases hd : Rep.dec v = l
  rotate_left
  · have HN := Lib.hid (HP.out.trans (if_pos (.inr (.inl hd))))
    rw [decide_eq_false hd] at hq
    clear hd
    go_wp2_with fail
    go_ret2
    exact ⟨by rw [HN.out]; rfl, HB2.out⟩
  rw [decide_eq_true hd] at hq
  have HD := Lib.hid hd
  clear hd
  by_cases h9 : 9 < l.length
  · have HN := Lib.hid (HP.out.trans (if_pos (.inr (.inr h9))))
    have c9 : (9 : Int) < ((T l).size : Int) := by rw [hz]; omega
    go_wp2_with fail
    go_ret2
    exact ⟨by rw [HN.out]; rfl, HB2.out⟩
  · have HN := Lib.hid (HP.out.trans (if_neg (fun h => h.elim (fun h => absurd h (by omega)) (fun h => h.elim (fun h => h HD.out) (fun h => h9 h)))))
    have c9 : ¬ (9 : Int) < ((T l).size : Int) := by rw [hz]; omega
    go_wp2_with fail
    go_ret2
    exact ⟨by rw [HN.out]; rfl, HB2.out⟩
theorem nib_bd (c : UInt8) : Rep.nib c < 16 := by
  have := Rep.nib_lt c.toNat c.toNat_lt
  rwa [UInt8.ofNat_toNat] at this
theorem nib_max (c : UInt8) : max (Lib.indexByte Rep.dig16 c) 0 = (Rep.nib c : Int) := by
  unfold Rep.nib
  have := Lib.indexByte_ge Rep.dig16 c
  omega
set_option maxRecDepth 100000 in
theorem nib_any (c : UInt8) (w : World) : Calls Tryd.prog 44 #[.int .u8 (c.toNat : Int)] w fun r w' => r = .returned (.int .u8 (Rep.nib c : Int)) ∧ w = w' := by
  have h1 := nib_bd c
  have h2 := nib_max c
  go_enter Tryd.func44, Tryd.ntmps44
  go_wp2_with fail
  refine (ibyte16_any c _).mono ?_
  rintro r w1 ⟨rfl, rfl⟩
  go_wp2_with fail
  go_ret
  exact ⟨rfl, rfl⟩
theorem unhexP_step : ∀ (l : List UInt8) (k : Nat) (h : 2 * k + 1 < l.length), Rep.unhexP (l.take (2 * (k + 1))) = Rep.unhexP (l.take (2 * k)) ++ [((Rep.nib l[2 * k] * 16 + Rep.nib l[2 * k + 1] : Nat) : Int)]
  | [], k, h => by simp at h
  | [a], k, h => by simp at h
  | a :: b :: r, 0, h => by simp [Rep.unhexP]
  | a :: b :: r, k + 1, h => by
    have h' : 2 * k + 1 < r.length := by simp only [List.length_cons] at h; omega
    have ih := unhexP_step r k h'
    have e1 : (a :: b :: r).take (2 * (k + 1 + 1)) = a :: b :: r.take (2 * (k + 1)) := by rw [show 2 * (k + 1 + 1) = 2 * (k + 1) + 1 + 1 by omega, List.take_succ_cons, List.take_succ_cons]
    have e2 : (a :: b :: r).take (2 * (k + 1)) = a :: b :: r.take (2 * k) := by rw [show 2 * (k + 1) = 2 * k + 1 + 1 by omega, List.take_succ_cons, List.take_succ_cons]
    have e3 : (a :: b :: r)[2 * (k + 1)] = r[2 * k] := by
      simp [show 2 * (k + 1) = 2 * k + 1 + 1 by omega]
    have e4 : (a :: b :: r)[2 * (k + 1) + 1] = r[2 * k + 1] := by
      simp [show 2 * (k + 1) + 1 = 2 * k + 1 + 1 + 1 by omega]
    rw [e1, e2, Rep.unhexP, Rep.unhexP, ih, e3, e4]
    rfl
theorem unhexP_all (l : List UInt8) (k : Nat) (h : l.length ≤ 2 * k + 1) (h2 : 2 * k ≤ l.length) : Rep.unhexP (l.take (2 * k)) = Rep.unhexP l := by
  induction k generalizing l with
  | zero =>
    cases l with
    | nil => rfl
    | cons a r => cases r with
      | nil => simp [Rep.unhexP]
      | cons b r => simp at h
  | succ k ih =>
    cases l with
    | nil => simp at h2
    | cons a r => cases r with
      | nil => simp at h2; omega
      | cons b r =>
        rw [show 2 * (k + 1) = 2 * k + 1 + 1 by omega, List.take_succ_cons, List.take_succ_cons, Rep.unhexP, Rep.unhexP, ih r (by simp only [List.length_cons] at h; omega) (by simp only [List.length_cons] at h2; omega)]
theorem or_nib : ∀ x : Nat, x < 16 → ∀ y : Nat, y < 16 → Go.bits .or .u8 (IntKind.u8.wrap ((x : Int) * 16)) (y : Int) = ((x * 16 + y : Nat) : Int) := by decide +kernel
theorem T_get (l : List UInt8) (k : Nat) (h : k < (T l).size) : (T l)[k] = l[k]'(by rw [T_size] at h; exact h) := by
  show (T l).data[k] = _
  simp [T]
set_option maxRecDepth 100000 in
set_option maxHeartbeats 2000000 in
theorem unhex_any (l : List UInt8) (w : World) (hl : l.length ≤ 1000000) :
    Calls Tryd.prog 32 #[.string (T l)] w fun r w' => ∃ B c, r = .returned (.slice B (Rep.unhexP l).length c) ∧ Own w' w.heap.size 5 1 B (Rep.unhexP l).length c (ints .u8 (Rep.unhexP l)) ∧ Below w.heap.size w w' := by
  have hz := T_size l
  go_enter Tryd.func32, Tryd.ntmps32
  go_wp2_with fail
  go_loopw [3, 4] (fun out i wr => ∃ (k : Nat) (B : Option Addr) (d : Nat), 2 * k ≤ l.length ∧ i = .int .i64 ((2 * k : Nat) : Int) ∧ out = .slice B k d ∧ Own wr w.heap.size 5 1 B k d (ints .u8 (Rep.unhexP (l.take (2 * k)))) ∧ Below w.heap.size w wr) (fun _ i _ => l.length - (intOf i).toNat)
  case atStart => exact ⟨0, none, 0, by omega, rfl, rfl, Own.nil _ _ _ _, Below.refl _ _⟩
  case round =>
    obtain ⟨k, B, d, hk, rfl, rfl, ho, hb⟩ := hrel
    have HO := Lib.hid ho
    have HB := Lib.hid hb
    clear ho hb
    by_cases hlt : 2 * k + 1 < l.length
    · have c1 : 2 * (k : Int) + 1 < (l.length : Int) := by omega
      have c2 : 2 * (k : Int) < (l.length : Int) := by omega
      have c3 : 0 ≤ 2 * (k : Int) := by omega
      have c4 : IntKind.i64.wrap (2 * (k : Int) + 1) = 2 * (k : Int) + 1 := by rw [IntKind.wrap_i64]; omega
      have c5 : 0 ≤ 2 * (k : Int) + 1 := by omega
      go_upto_region 5 with fail
      (refine wp_region_held_drew (S := fun w' => Below w.heap.size w w') (by kernel_rfl) (HB.out.drew) (fun hHeld => ?_))
      (refine wpAnyH_take (i := 0) (oi := _) (v := ?_) (ops_at rfl) (by kernel_rfl) (by kernel_rfl) (by kernel_rfl) (fun _ _ _ h => h) (Or.inl ⟨by rfl, ?_⟩) (by assumption) ?_; rotate_left; (focus (intro w hSw; (try dsimp only at hSw); go_simp; (try first | with_reducible rfl | (rw [if_neg (by omega)])))); (try simp only [Act.put, List.setIfInBounds_toArray, List.set_cons_zero, List.set_cons_succ])); (refine wpAnyH_take (i := 1) (oi := _) (v := ?_) (ops_at rfl) (by kernel_rfl) (by kernel_rfl) (by kernel_rfl) (fun _ _ _ h => h) (Or.inl ⟨by rfl, ?_⟩) (by assumption) ?_; rotate_left; (focus (intro w hSw; (try dsimp only at hSw); go_simp; (try first | with_reducible rfl | (rw [if_neg (by omega)])))); (try simp only [Act.put, List.setIfInBounds_toArray, List.set_cons_zero, List.set_cons_succ])); (refine wpAnyH_take (i := 2) (oi := _) (v := ?_) (ops_at rfl) (by kernel_rfl) (by kernel_rfl) (by kernel_rfl) (fun _ _ _ h => h) (Or.inl ⟨by rfl, ?_⟩) (by assumption) ?_; rotate_left; (focus (intro w hSw; (try dsimp only at hSw); go_simp; (try first | with_reducible rfl | (rw [if_neg (by omega)])))); (try simp only [Act.put, List.setIfInBounds_toArray, List.set_cons_zero, List.set_cons_succ])); (refine wpAnyH_take (i := 6) (oi := _) (v := ?_) (ops_at rfl) (by kernel_rfl) (by kernel_rfl) (by kernel_rfl) (fun _ _ _ h => h) (Or.inl ⟨by rfl, ?_⟩) (by assumption) ?_; rotate_left; (focus (intro w hSw; (try dsimp only at hSw); go_simp; (try first | with_reducible rfl | (rw [if_neg (by omega)])))); (try simp only [Act.put, List.setIfInBounds_toArray, List.set_cons_zero, List.set_cons_succ])); (refine wpAnyH_take (i := 7) (oi := _) (v := ?_) (ops_at rfl) (by kernel_rfl) (by kernel_rfl) (by kernel_rfl) (fun _ _ _ h => h) (Or.inl ⟨by rfl, ?_⟩) (by assumption) ?_; rotate_left; (focus (intro w hSw; (try dsimp only at hSw); go_simp; (try first | with_reducible rfl | (rw [if_neg (by omega)])))); (try simp only [Act.put, List.setIfInBounds_toArray, List.set_cons_zero, List.set_cons_succ])); (refine wpAnyH_take (i := 8) (oi := _) (v := ?_) (ops_at rfl) (by kernel_rfl) (by kernel_rfl) (by kernel_rfl) (fun _ _ _ h => h) (Or.inl ⟨by rfl, ?_⟩) (by assumption) ?_; rotate_left; (focus (intro w hSw; (try dsimp only at hSw); go_simp; (try first | with_reducible rfl | (rw [if_neg (by omega)])))); (try simp only [Act.put, List.setIfInBounds_toArray, List.set_cons_zero, List.set_cons_succ])); (refine wpAnyH_take (i := 3) (oi := _) (v := ?_) (ops_at rfl) (by kernel_rfl) (by kernel_rfl) (by kernel_rfl) (fun _ _ _ h => h) (Or.inl ⟨by rfl, ?_⟩) (by assumption) ?_; rotate_left; (focus (intro w hSw; (try dsimp only at hSw); go_simp; (try first | with_reducible rfl | (rw [if_neg (by omega)])))); (try simp only [Act.put, List.setIfInBounds_toArray, List.set_cons_zero, List.set_cons_succ])); (refine wpAnyH_take (i := 9) (oi := _) (v := ?_) (ops_at rfl) (by kernel_rfl) (by kernel_rfl) (by kernel_rfl) (fun _ _ _ h => h) (Or.inl ⟨by rfl, ?_⟩) (by assumption) ?_; rotate_left; (focus (intro w hSw; (try dsimp only at hSw); go_simp; (try first | with_reducible rfl | (rw [if_neg (by omega)])))); (try simp only [Act.put, List.setIfInBounds_toArray, List.set_cons_zero, List.set_cons_succ]))
      (refine wpAnyH_ready (rs := [4]) (by kernel_rfl) (by simp) (AllReadyH.cons (ops_at rfl) (fun K hK => ?_) AllReadyH.nil); go_simp; (refine (nib_any _ _).mono ?_; rintro r w1 ⟨rfl, rfl⟩); refine hK.out _ _ (hHeld) (fun hHeld => ?_); clear hK K; (try simp only [Act.put, List.setIfInBounds_toArray, List.set_cons_zero, List.set_cons_succ]))
      (refine wpAnyH_take (i := 5) (oi := _) (v := ?_) (ops_at rfl) (by kernel_rfl) (by kernel_rfl) (by kernel_rfl) (fun _ _ _ h => h) (Or.inl ⟨by rfl, ?_⟩) (by assumption) ?_; rotate_left; (focus (intro w hSw; (try dsimp only at hSw); go_simp; (try first | with_reducible rfl | (rw [if_neg (by omega)])))); (try simp only [Act.put, List.setIfInBounds_toArray, List.set_cons_zero, List.set_cons_succ]))
      (refine wpAnyH_ready (rs := [10]) (by kernel_rfl) (by simp) (AllReadyH.cons (ops_at rfl) (fun K hK => ?_) AllReadyH.nil); go_simp; (refine (nib_any _ _).mono ?_; rintro r w1 ⟨rfl, rfl⟩); refine hK.out _ _ (hHeld) (fun hHeld => ?_); clear hK K; (try simp only [Act.put, List.setIfInBounds_toArray, List.set_cons_zero, List.set_cons_succ]))
      have hA := T_get l (2 * (k : Int)).toNat (by rw [hz]; omega)
      have hA2 := T_get l (2 * (k : Int) + 1).toNat (by rw [hz]; omega)
      generalize hE1 : (T l)[(2 * (k : Int)).toNat]'(by rw [hz]; omega) = a at hA ⊢
      generalize hE2 : (T l)[(2 * (k : Int) + 1).toNat]'(by rw [hz]; omega) = b at hA2 ⊢
      have HA := Lib.hid hA
      have HA2 := Lib.hid hA2
      have q1 := nib_bd a
      have q2 := nib_bd b
      clear hA hA2 hE1 hE2
      have hor := or_nib _ q1 _ q2
      obtain ⟨v, hv⟩ : ∃ v : Int, ((Rep.nib a * 16 + Rep.nib b : Nat) : Int) = v := ⟨_, rfl⟩
      rw [hv] at hor
      have HV := Lib.hid hv
      clear hv
      (refine wpAnyH_take (i := 11) (oi := _) (v := ?_) (ops_at rfl) (by kernel_rfl) (by kernel_rfl) (by kernel_rfl) (fun _ _ _ h => h) (Or.inl ⟨by rfl, ?_⟩) (by assumption) ?_; rotate_left; (focus (intro w hSw; (try dsimp only at hSw); go_simp; (try first | with_reducible rfl | (rw [if_neg (by omega)])))); (try simp only [Act.put, List.setIfInBounds_toArray, List.set_cons_zero, List.set_cons_succ]))
      have hsz := HB.out.size
      have HS := Lib.hid (show Rep.unhexP (l.take (2 * (k + 1))) = Rep.unhexP (l.take (2 * k)) ++ [v] by
        rw [unhexP_step l k hlt, ← HV.out]
        have x1 : l[2 * k] = a := by rw [HA.out]; congr 1
        have x2 : l[2 * k + 1] = b := by rw [HA2.out]; congr 1
        rw [x1, x2])
      (refine wpAnyH_ready (rs := [12]) (by kernel_rfl) (by simp) (AllReadyH.cons (ops_at rfl) (fun K hK => ?_) AllReadyH.nil); go_simp; skip; refine hK.out _ _ ((HB.out.alloc hsz _).drew) (fun hHeld => ?_); clear hK K; (try simp only [Act.put, List.setIfInBounds_toArray, List.set_cons_zero, List.set_cons_succ]))
      (refine wpAnyH_ready (rs := [13]) (by kernel_rfl) (by simp) (AllReadyH.cons (ops_at rfl) (fun K hK => ?_) AllReadyH.nil); rw [if_pos (by rfl)]; refine wp_app (.tmp 12) (.tmp 24) 33 rfl Tryd.underlying33 u8i rfl (by decide) rfl (HO.out.alloc _).drew rfl ((Rd.lit wr _ 5 (0, 0) 1 1 rfl).drew) (ints_one .u8 [v]) (by omega) (by omega) (by simp; omega) rfl (show ints .u8 _ ++ ints .u8 [v] = ints .u8 (Rep.unhexP (l.take (2 * (k + 1)))) by rw [HS.out]; simp [ints]) ?_; intro B2 d2 w5 hown5 hg5 _; refine hK.out _ _ (((HB.out.alloc hsz _).drew.grown hg5 (by simp; omega) (fun j hj => (HO.out.blk j hj).1))) (fun hHeld => ?_); clear hK K; (try simp only [Act.put, List.setIfInBounds_toArray, List.set_cons_zero, List.set_cons_succ]))
      have HO5 := Lib.hid hown5
      clear hown5 hg5
      (refine wpAnyH_take (i := 14) (oi := _) (v := ?_) (ops_at rfl) (by kernel_rfl) (by kernel_rfl) (by kernel_rfl) (fun _ _ _ h => h) (Or.inl ⟨by rfl, ?_⟩) (by assumption) ?_; rotate_left; (focus (intro w hSw; (try dsimp only at hSw); go_simp; (try first | with_reducible rfl | (rw [if_neg (by omega)])))); (try simp only [Act.put, List.setIfInBounds_toArray, List.set_cons_zero, List.set_cons_succ]))
      (refine wpAnyH_done (by kernel_rfl) ?_ _)
      have HB5 := Lib.hid hHeld
      clear hHeld
      go_wp2_with fail
      refine ⟨⟨k + 1, B2, d2, by omega, by go_num, rfl, HO5.out, HB5.out⟩, by simp [intOf]; omega⟩
    · have c1 : ¬ 2 * (k : Int) + 1 < (l.length : Int) := by omega
      have HA := Lib.hid (unhexP_all l k (by omega) hk)
      have hk2 : (Rep.unhexP (l.take (2 * k))).length = k := by have := HO.out.row.1; rw [ints_len] at this; omega
      have HK := Lib.hid hk2
      have hcap := HO.out.cap
      clear hk2
      go_wp2_with fail
      go_ret
      refine ⟨B, d, ?_, ?_, HB.out⟩
      · rw [← HA.out, HK.out]; rfl
      · rw [← HA.out, HK.out]; exact HO.out
end Go.Proofs.YtkbgedaogfcdnaaDoor
