/- rept's texts of numbers, bytes, names, and of what a builder tells. -/
import Derived.Test.YtkbgedaogfcdnaaDoorReptL
namespace Go.Proofs.YtkbgedaogfcdnaaDoor
set_option linter.unusedSimpArgs false
set_option linter.unusedVariables false
open Go.RowKit
open Crc (Bytes)

theorem rnum_any (n : Int) (h0 : -9223372036854775808 ≤ n) (h1 : n ≤ 9223372036854775807) (w : World) (h : Env w) :
    Calls Tryd.prog 17 #[.int .i64 n] w fun e w' => e = .returned (.string (T (Rep.dec n))) ∧ Below w.heap.size w w' := by
  have H := Lib.hid h
  clear h
  go_enter Tryd.func17, Tryd.ntmps17
  go_wp2_with fail
  refine (itoa_env n h0 h1 _ H.out).mono ?_
  rintro e w' ⟨rfl, hb⟩
  go_wp2_with fail
  go_ret
  exact ⟨rfl, hb⟩
theorem rnames_any {w : World} (A : Option Addr) (n c : Nat) (l : List (List UInt8)) (h : SS w A n l) (hc : n ≤ c) (hl : (Lib.join l [44]).length ≤ 140737488355328) (hz : n ≤ 140737488355328) :
    Calls Tryd.prog 18 #[.slice A n c] w fun e w' => e = .returned (.string (T (Rep.namesT l))) ∧ Below w.heap.size w w' := by
  have hnil := h.eq_nil
  have H := Lib.hid h
  clear h
  by_cases hn : n = 0
  · have hl0 := hnil.2 hn
    subst hn
    subst hl0
    clear hnil
    go_enter Tryd.func18, Tryd.ntmps18
    go_wp2_with fail
    go_ret
    exact ⟨rfl, Below.refl _ _⟩
  · have e1 : ((n : Int) == 0) = false := by rw [beq_eq_false_iff_ne]; omega
    have HL := Lib.hid (show Rep.namesT l = Lib.join l [44] by unfold Rep.namesT; rw [if_neg (fun e => hn (hnil.1 e))])
    clear hnil
    go_enter Tryd.func18, Tryd.ntmps18
    go_wp2_with fail
    refine (join_any A n c l [44] H.out hc hl hz).mono ?_
    rintro e w' ⟨rfl, hb⟩
    go_wp2_with fail
    go_ret
    exact ⟨by rw [HL.out]; rfl, hb⟩

theorem hexL_take (l : List Int) (k : Nat) (hk : k < l.length) : Rep.hexL (l.take (k + 1)) = Rep.hexL (l.take k) ++ [Rep.hx (l[k].toNat / 16), Rep.hx (l[k].toNat % 16)] := by
  unfold Rep.hexL
  rw [List.take_succ_eq_append_getElem hk, List.flatMap_append]
  simp
def u8s_ (l : List UInt8) : List Int := l.map fun c => (c.toNat : Int)
theorem u8s_bytes (l : List UInt8) : Bytes (u8s_ l) := by
  intro x hx
  obtain ⟨c, _, rfl⟩ := List.mem_map.1 hx
  have := c.toNat_lt
  omega
theorem u8s_len (l : List UInt8) : (u8s_ l).length = l.length := by simp [u8s_]
theorem str_u8s (l : List UInt8) : str (u8s_ l) = T l := by
  unfold str T u8s_
  congr 2
  rw [List.map_map]
  conv => rhs; rw [← List.map_id l]
  refine List.map_congr_left fun c _ => ?_
  show UInt8.ofNat ((c.toNat : Int)).toNat = c
  rw [Int.toNat_natCast, UInt8.ofNat_toNat]
def dig16B : ByteArray := ⟨#[48, 49, 50, 51, 52, 53, 54, 55, 56, 57, 97, 98, 99, 100, 101, 102]⟩
theorem and15 : ∀ k : Nat, k < 256 → Go.bits .and .u8 (k : Int) 15 = (k : Int) % 16 := by decide +kernel
theorem dig_at : ∀ k : Fin 16, dig16B[k.val]'(by have := k.isLt; simp [dig16B, ByteArray.size]) = Rep.hx k.val := by decide +kernel
theorem two_one (a b : Int) : ∀ u ∈ [Value.int IntKind.u8 a, Value.int IntKind.u8 b], u.oneCell' = true := by
  intro u hu
  simp only [List.mem_cons, List.not_mem_nil, or_false] at hu
  rcases hu with rfl | rfl <;> rfl
theorem hex_step (l : List Int) (k : Nat) (hk : k < l.length) (a b : Int) (ha : a = ((Rep.hx (l[k].toNat / 16)).toNat : Int)) (hb : b = ((Rep.hx (l[k].toNat % 16)).toNat : Int)) :
    ints .u8 (u8s_ (Rep.hexL (l.take k))) ++ [Value.int .u8 a, Value.int .u8 b] = ints .u8 (u8s_ (Rep.hexL (l.take (k + 1)))) := by
  rw [hexL_take l k hk, ha, hb]
  unfold u8s_ ints
  simp
theorem dig_ix {k : Nat} (h : k < 16) (h2 : k < dig16B.size) : (dig16B[k].toNat : Int) = ((Rep.hx k).toNat : Int) := by
  rw [show dig16B[k] = Rep.hx k from dig_at ⟨k, h⟩]
set_option maxRecDepth 100000 in
set_option maxHeartbeats 2000000 in
theorem rhex_any {w : World} (A : Option Addr) (n c : Nat) (l : List Int) (h : Bs w A n l) (hc : n ≤ c) (hz : n ≤ 1000000) :
    Calls Tryd.prog 23 #[.slice A n c] w fun e w' => e = .returned (.string (T (Rep.hexT l))) ∧ Below w.heap.size w w' := by
  have hlen := h.len
  have H := Lib.hid h
  have HL := Lib.hid hlen
  clear h hlen
  by_cases hn : n = 0
  · subst hn
    have hl0 : l = [] := List.eq_nil_of_length_eq_zero HL.out
    subst hl0
    go_enter Tryd.func23, Tryd.ntmps23
    go_wp2_with fail
    go_ret
    exact ⟨rfl, Below.refl _ _⟩
  have e1 : ((n : Int) == 0) = false := by rw [beq_eq_false_iff_ne]; omega
  go_enter Tryd.func23, Tryd.ntmps23
  go_wp2_with fail
  go_loopw [3, 11] (fun out i wr => ∃ (k : Nat) (B : Option Addr) (d : Nat), k ≤ n ∧ i = .int .i64 k ∧ out = .slice B (2 * k) d ∧ Own wr w.heap.size 5 1 B (2 * k) d (ints .u8 (u8s_ (Rep.hexL (l.take k)))) ∧ Below w.heap.size w wr) (fun _ i _ => n - (intOf i).toNat)
  case atStart => exact ⟨0, none, 0, Nat.zero_le _, rfl, rfl, Own.nil _ _ _ _, Below.refl _ _⟩
  case round =>
    obtain ⟨k, B, d, hk, rfl, rfl, ho, hb⟩ := hrel
    by_cases hlt : k < n
    · obtain ⟨ad, rfl, hcell, x0, x1⟩ := (H.out.below hb).get hlt
      obtain ⟨x, hx⟩ : ∃ x, ix l k = x := ⟨_, rfl⟩
      rw [hx] at hcell x0 x1
      have HO := Lib.hid ho
      have HB := Lib.hid hb
      have HX := Lib.hid hx
      clear ho hb hx
      have q1 : 0 ≤ x / 16 := by omega
      have q2 : x / 16 < 16 := by omega
      have q3 : 0 ≤ x % 16 := by omega
      have q4 : x % 16 < 16 := by omega
      have q5 : Go.bits .and .u8 x 15 = x % 16 := by obtain ⟨y, rfl⟩ : ∃ y : Nat, x = y := ⟨x.toNat, by omega⟩; exact and15 y (by omega)
      go_upto_region 7 with fail
      (refine wp_region_held_drew (S := fun w' => Below w.heap.size w w') (by kernel_rfl) (HB.out.drew) (fun hHeld => ?_))
      (refine wpAnyH_take (i := 0) (oi := _) (v := ?_) (ops_at rfl) (by kernel_rfl) (by kernel_rfl) (by kernel_rfl) (fun _ _ _ h => h) (Or.inl ⟨by rfl, ?_⟩) (by assumption) ?_; rotate_left; (focus (intro w hSw; (try dsimp only at hSw); go_simp; (try first | with_reducible rfl | (rw [if_neg (by omega)])))); (try simp only [Act.put, List.setIfInBounds_toArray, List.set_cons_zero, List.set_cons_succ])); (refine wpAnyH_take (i := 1) (oi := _) (v := ?_) (ops_at rfl) (by kernel_rfl) (by kernel_rfl) (by kernel_rfl) (fun _ _ _ h => h) (Or.inl ⟨by rfl, ?_⟩) (by assumption) ?_; rotate_left; (focus (intro w hSw; (try dsimp only at hSw); go_simp; (try first | with_reducible rfl | (rw [if_neg (by omega)])))); (try simp only [Act.put, List.setIfInBounds_toArray, List.set_cons_zero, List.set_cons_succ])); (refine wpAnyH_take (i := 2) (oi := _) (v := ?_) (ops_at rfl) (by kernel_rfl) (by kernel_rfl) (by kernel_rfl) (fun _ _ _ h => h) (Or.inl ⟨by rfl, ?_⟩) (by assumption) ?_; rotate_left; (focus (intro w hSw; (try dsimp only at hSw); go_simp; (try first | with_reducible rfl | (rw [if_neg (by omega)])))); (try simp only [Act.put, List.setIfInBounds_toArray, List.set_cons_zero, List.set_cons_succ]))
      (refine wpAnyH_take (i := 3) (oi := _) (v := ?_) (ops_at rfl) (by kernel_rfl) (by kernel_rfl) (by kernel_rfl) (fun _ _ _ h => h) (Or.inl ⟨by rfl, ?_⟩) (by assumption) ?_; rotate_left; (focus (intro w hSw; (try dsimp only at hSw); go_simp; (try first | with_reducible rfl | (rw [if_neg (by omega)])))); (try simp only [Act.put, List.setIfInBounds_toArray, List.set_cons_zero, List.set_cons_succ]))
      (refine wpAnyH_take (i := 4) (oi := _) (v := ?_) (ops_at rfl) (by kernel_rfl) (by kernel_rfl) (by kernel_rfl) (fun _ _ _ h => h) (Or.inl ⟨by rfl, ?_⟩) (by assumption) ?_; rotate_left; (focus (intro w hSw; (try dsimp only at hSw); go_simp; (try first | with_reducible rfl | (rw [if_neg (by omega)])))); (try simp only [Act.put, List.setIfInBounds_toArray, List.set_cons_zero, List.set_cons_succ])); (refine wpAnyH_take (i := 5) (oi := _) (v := ?_) (ops_at rfl) (by kernel_rfl) (by kernel_rfl) (by kernel_rfl) (fun _ _ _ h => h) (Or.inl ⟨by rfl, ?_⟩) (by assumption) ?_; rotate_left; (focus (intro w hSw; (try dsimp only at hSw); go_simp; (try first | with_reducible rfl | (rw [if_neg (by omega)])))); (try simp only [Act.put, List.setIfInBounds_toArray, List.set_cons_zero, List.set_cons_succ])); (refine wpAnyH_take (i := 6) (oi := _) (v := ?_) (ops_at rfl) (by kernel_rfl) (by kernel_rfl) (by kernel_rfl) (fun _ _ _ h => h) (Or.inl ⟨by rfl, ?_⟩) (by assumption) ?_; rotate_left; (focus (intro w hSw; (try dsimp only at hSw); go_simp; (try first | with_reducible rfl | (rw [if_neg (by omega)])))); (try simp only [Act.put, List.setIfInBounds_toArray, List.set_cons_zero, List.set_cons_succ]))
      have hkl : k < l.length := by rw [HL.out]; exact hlt
      have hxk : l[k] = x := by rw [← ix_get hkl]; exact HX.out
      have hb2 : w.heap.size ≤ wr.heap.size := HB.out.size
      (refine wpAnyH_ready (rs := [7]) (by kernel_rfl) (by simp) (AllReadyH.cons (ops_at rfl) (fun K hK => ?_) AllReadyH.nil); go_simp; skip; refine hK.out _ _ (((HB.out.alloc hb2 _).drew)) (fun hHeld => ?_); clear hK K; (try simp only [Act.put, List.setIfInBounds_toArray, List.set_cons_zero, List.set_cons_succ]))
      (refine wpAnyH_ready (rs := [8]) (by kernel_rfl) (by simp) (AllReadyH.cons (ops_at rfl) (fun K hK => ?_) AllReadyH.nil); rw [if_pos (by rfl)]; refine wp_app (.tmp 15) (.tmp 22) 33 rfl Tryd.underlying33 u8i rfl (by decide) rfl (HO.out.alloc _).drew rfl ((Rd.lit wr _ 5 (0, 0) 1 2 rfl).drew) (two_one _ _) (by omega) (by omega) (by simp; omega) rfl (hex_step l k hkl _ _ (by rw [hxk, show x.toNat / 16 = (x / 16).toNat by omega]; exact dig_ix (by omega) _) (by rw [hxk, show x.toNat % 16 = (x % 16).toNat by omega]; exact dig_ix (by omega) _)) ?_; intro B2 d2 w5 hown5 hg5 _; refine hK.out _ _ ((hHeld.grown hg5 (by simp; omega) (fun j hj => (HO.out.blk j hj).1))) (fun hHeld => ?_); clear hK K; (try simp only [Act.put, List.setIfInBounds_toArray, List.set_cons_zero, List.set_cons_succ]))
      have HO5 := Lib.hid hown5
      clear hown5 hg5
      (refine wpAnyH_take (i := 9) (oi := _) (v := ?_) (ops_at rfl) (by kernel_rfl) (by kernel_rfl) (by kernel_rfl) (fun _ _ _ h => h) (Or.inl ⟨by rfl, ?_⟩) (by assumption) ?_; rotate_left; (focus (intro w hSw; (try dsimp only at hSw); go_simp; (try first | with_reducible rfl | (rw [if_neg (by omega)])))); (try simp only [Act.put, List.setIfInBounds_toArray, List.set_cons_zero, List.set_cons_succ]))
      (refine wpAnyH_done (by kernel_rfl) ?_ _)
      have HB5 := Lib.hid hHeld
      clear hHeld
      go_wp2_with fail
      refine ⟨⟨k + 1, B2, d2, by omega, by go_num, rfl, HO5.out, HB5.out⟩, by simp [intOf]; omega⟩
    · have hkn : k = n := by omega
      subst hkn
      rw [show l.take k = l from List.take_of_length_le (by rw [HL.out]; exact Nat.le_refl _)] at ho
      have HO := Lib.hid ho
      have HB := Lib.hid hb
      have hcap := ho.cap
      have HT := Lib.hid (show T (Rep.hexT l) = str (u8s_ (Rep.hexL l)) by unfold Rep.hexT; rw [if_neg (fun e => hn (by rw [← HL.out, e]; rfl)), str_u8s])
      have hbs := Bs.mk (w := wr) (A := B) (n := 2 * k) (l := u8s_ (Rep.hexL l)) ho.rd (u8s_bytes _) (by omega)
      have hcv := @conv_str Tryd.prog _ _ _ Tryd.underlying33 Tryd.underlying5 Tryd.underlying9 wr B (2 * k) d (u8s_ (Rep.hexL l)) hbs
      clear ho hb hbs
      go_wp2_with fail
      go_ret
      exact ⟨by rw [HT.out]; rfl, HB.out⟩
end Go.Proofs.YtkbgedaogfcdnaaDoor
