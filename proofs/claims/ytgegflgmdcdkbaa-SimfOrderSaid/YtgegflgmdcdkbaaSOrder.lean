/- SimfOrder: plain law and walk. -/
import Derived.Test.YtgegflgmdcdkbaaSCut
namespace Go.Proofs.Ytgegflgmdcdkbaa
set_option linter.unusedSimpArgs false
set_option linter.unusedVariables false
open Go.RowKit
open Crc (Bytes)

theorem Grd.only {w w' : World} {bs : List Nat} {g n : Nat} {gs : List (ByteArray × Int)} (h : Grd w (some ⟨g, 0, none⟩) n gs) (ho : Only bs w w') (hg : g ∉ bs) : Grd w' (some ⟨g, 0, none⟩) n gs :=
  ⟨h.rd.only ho (fun ad hA _ => by cases hA; exact hg), h.len, h.nm, h.le, h.frm⟩
def oA : ByteArray := ⟨#[65]⟩
def ob_ : ByteArray := ⟨#[98]⟩
def oz : ByteArray := ⟨#[122, 122]⟩
def big : List Int := [49, 50, 51, 52, 53, 54]
def badG : List (ByteArray × Int) := [(nA, 99)]
def os1 : Fs := ((fs0 5).putF nA [49, 50, 51, 52, 53]).2
theorem os1_eq : (fs0 5).putF nA [49, 50, 51, 52, 53] = ((1, 0), os1) := rfl
theorem o1 : os1.makeF oA big = ((0, 1), os1) := by rfl
theorem o2 : os1.makeF nA big = ((0, 3), os1) := by rfl
theorem o3 : os1.makeF ob_ big = ((0, 2), os1) := by rfl
theorem o4 : os1.putF oA big = ((0, 1), os1) := by rfl
theorem o5 : os1.putF nA big = ((0, 2), os1) := by rfl
theorem o6 : os1.appF oA big badG = ((0, 1), os1) := by rfl
theorem o7 : os1.appF nA big badG = ((0, 5), os1) := by rfl
theorem o8 : os1.appF nA big [] = ((0, 2), os1) := by rfl
theorem o9 : os1.moveF oA nA badG = ((0, 1), os1) := by rfl
theorem o10 : os1.moveF nA nA badG = ((0, 1), os1) := by rfl
theorem o11 : os1.moveF oz nA badG = ((0, 5), os1) := by rfl
theorem o12 : os1.moveF oz nA [] = ((0, 4), os1) := by rfl
theorem o13 : os1.dropF oA badG = (1, os1) := by rfl
theorem o14 : os1.dropF oz badG = (5, os1) := by rfl
theorem o15 : os1.dropF oz [] = (4, os1) := by rfl
theorem os1_used : os1.used = 5 := by rfl
theorem os1_st : os1.st nA = 1 := by rfl
def codes : List Int := [1, 3, 2, 1, 2, 1, 5, 2, 1, 1, 5, 4, 1, 5, 4]
theorem codes_at {W : World} {g k : Nat} {t : TypeId} (h : Blk W g t (ints .i64 codes)) (hk : k < 15) : W.cell? ⟨g, k, none⟩ = some (.int .i64 (codes.getD k 0)) := by
  rw [h.cell k, ints_get .i64 codes (show k < codes.length from hk)]
  have : codes[k]'(show k < codes.length from hk) = codes.getD k 0 := by simp [List.getD, show k < codes.length from hk]
  rw [this]
/-- What stays through the row of calls. -/
structure Ord (w0 w : World) (fb mb k g1 g2 : Nat) : Prop where
  h : FsH w0 w fb mb os1 k
  b : Bs w (some ⟨g2, 0, none⟩) 6 big
  u : U8 w (some ⟨g2, 0, none⟩) 6
  g : Grd w (some ⟨g1, 0, none⟩) 1 badG
  n1 : g1 ∉ [fb, mb]
theorem Ord.next {w0 w w' : World} {fb mb k k' g1 g2 : Nat} (h : Ord w0 w fb mb k g1 g2) (hn : FsH w0 w' fb mb os1 k') (ho : Only [fb, mb] w w') : Ord w0 w' fb mb k' g1 g2 :=
  ⟨hn, h.h.bs h.b h.u ho, h.h.u8 h.u ho, h.g.only ho h.n1, h.n1⟩
set_option maxHeartbeats 400000 in
theorem code_any (a b : Int) (w : World) : Calls Try.prog 23 #[.int .i64 a, .int .i64 b] w fun e w' => e = .returned (.int .i64 b) ∧ w = w' := by
  go_enter Try.func23, Try.ntmps23
  go_wp2_with fail
  go_ret
  exact ⟨rfl, rfl⟩
set_option maxRecDepth 100000 in
set_option maxHeartbeats 8000000 in
theorem simforder_any (which : Int) (w : World) : Calls Try.prog 5 #[.int .i64 which] w fun e w' => e = .returned (.bool true) ∧ Below w.heap.size w w' := by
  obtain ⟨p, hp, hp1⟩ := maskN 8 (by decide) which 255 (by decide)
  obtain ⟨k, hk1, hk2⟩ : ∃ k : Nat, (p : Int) % 15 = (k : Int) ∧ k < 15 := ⟨p % 15, by omega, by omega⟩
  have kc := @conv_const Try.prog _ _ Try.underlying22 Try.underlying5
  go_enter Try.func5, Try.ntmps5
  go_wp2_with fail
  refine (new_h w 5).mono ?_
  rintro e w1 ⟨fb, mb, rfl, h0⟩
  have H0 := Lib.hid h0
  clear h0
  go_wp2_with fail
  refine (put_h H0.out.alloc (by omega) nA [49, 50, 51, 52, 53] (some ⟨w1.heap.size, 0, none⟩) 5 5 (by decide) (by omega) (bs_lit (l := [49, 50, 51, 52, 53]) (by intro x hx; simp at hx; omega) (by decide) rfl)).mono ?_
  rintro e w2 ⟨rfl, h1, o1_⟩
  rw [os1_eq] at h1 ⊢
  have H1 := Lib.hid h1
  clear h1 o1_ H0
  go_wp2_with fail
  have HO := Lib.hid (show Ord w ((w2.alloc (.cells #[.string nA, .int .i64 99] 33)).alloc (.cells (ints .u8 big).toArray 5 (6, 7))) fb mb 1 w2.heap.size (w2.heap.size + 1) from
    ⟨H1.out.alloc.alloc, bs_lit (l := big) (by intro x hx; simp [big] at hx; omega) (by decide) (by simp), U8.lit (by simp), (Grd.one rfl nA (by decide) 99).below (bl_alloc (Below.refl _ _)), by
      have := H1.out.lt; simp; omega⟩)
  refine (make_h HO.out.h (by omega) oA big (some ⟨w2.heap.size + 1, 0, none⟩) 6 6 (by decide) (by omega) HO.out.b).mono ?_
  rintro e w3 ⟨rfl, h1, on⟩
  rw [o1] at h1 ⊢
  replace HO := Lib.hid (HO.out.next h1 on)
  clear h1 on
  go_wp2_with (go_at_call 23; refine (code_any _ _ _).mono ?_; rintro e w' ⟨rfl, rfl⟩)
  refine (make_h HO.out.h (by omega) nA big (some ⟨w2.heap.size + 1, 0, none⟩) 6 6 (by decide) (by omega) HO.out.b).mono ?_
  rintro e w4 ⟨rfl, h1, on⟩
  rw [o2] at h1 ⊢
  replace HO := Lib.hid (HO.out.next h1 on)
  clear h1 on
  go_wp2_with (go_at_call 23; refine (code_any _ _ _).mono ?_; rintro e w' ⟨rfl, rfl⟩)
  refine (make_h HO.out.h (by omega) ob_ big (some ⟨w2.heap.size + 1, 0, none⟩) 6 6 (by decide) (by omega) HO.out.b).mono ?_
  rintro e w5 ⟨rfl, h1, on⟩
  rw [o3] at h1 ⊢
  replace HO := Lib.hid (HO.out.next h1 on)
  clear h1 on
  go_wp2_with (go_at_call 23; refine (code_any _ _ _).mono ?_; rintro e w' ⟨rfl, rfl⟩)
  refine (put_h HO.out.h (by omega) oA big (some ⟨w2.heap.size + 1, 0, none⟩) 6 6 (by decide) (by omega) HO.out.b).mono ?_
  rintro e w6 ⟨rfl, h1, on⟩
  rw [o4] at h1 ⊢
  replace HO := Lib.hid (HO.out.next h1 on)
  clear h1 on
  go_wp2_with (go_at_call 23; refine (code_any _ _ _).mono ?_; rintro e w' ⟨rfl, rfl⟩)
  refine (put_h HO.out.h (by omega) nA big (some ⟨w2.heap.size + 1, 0, none⟩) 6 6 (by decide) (by omega) HO.out.b).mono ?_
  rintro e w7 ⟨rfl, h1, on⟩
  rw [o5] at h1 ⊢
  replace HO := Lib.hid (HO.out.next h1 on)
  clear h1 on
  go_wp2_with (go_at_call 23; refine (code_any _ _ _).mono ?_; rintro e w' ⟨rfl, rfl⟩)
  refine (append_h HO.out.h (by omega) oA big badG (some ⟨w2.heap.size + 1, 0, none⟩) 6 6 (some ⟨w2.heap.size, 0, none⟩) 1 1 (by decide) (by omega) (by omega) HO.out.b HO.out.u HO.out.g).mono ?_
  rintro e w8 ⟨rfl, h1, on⟩
  rw [o6] at h1 ⊢
  replace HO := Lib.hid (HO.out.next h1 on)
  clear h1 on
  go_wp2_with (go_at_call 23; refine (code_any _ _ _).mono ?_; rintro e w' ⟨rfl, rfl⟩)
  refine (append_h HO.out.h (by omega) nA big badG (some ⟨w2.heap.size + 1, 0, none⟩) 6 6 (some ⟨w2.heap.size, 0, none⟩) 1 1 (by decide) (by omega) (by omega) HO.out.b HO.out.u HO.out.g).mono ?_
  rintro e w9 ⟨rfl, h1, on⟩
  rw [o7] at h1 ⊢
  replace HO := Lib.hid (HO.out.next h1 on)
  clear h1 on
  go_wp2_with (go_at_call 23; refine (code_any _ _ _).mono ?_; rintro e w' ⟨rfl, rfl⟩)
  refine (append_h HO.out.h (by omega) nA big [] (some ⟨w2.heap.size + 1, 0, none⟩) 6 6 none 0 0 (by decide) (by omega) (by omega) HO.out.b HO.out.u (Grd.nil _)).mono ?_
  rintro e w10 ⟨rfl, h1, on⟩
  rw [o8] at h1 ⊢
  replace HO := Lib.hid (HO.out.next h1 on)
  clear h1 on
  go_wp2_with (go_at_call 23; refine (code_any _ _ _).mono ?_; rintro e w' ⟨rfl, rfl⟩)
  refine (move_h HO.out.h (by omega) oA nA badG (some ⟨w2.heap.size, 0, none⟩) 1 1 (by decide) (by decide) HO.out.g).mono ?_
  rintro e w11 ⟨rfl, h1, on⟩
  rw [o9] at h1 ⊢
  replace HO := Lib.hid (HO.out.next h1 on)
  clear h1 on
  go_wp2_with (go_at_call 23; refine (code_any _ _ _).mono ?_; rintro e w' ⟨rfl, rfl⟩)
  refine (move_h HO.out.h (by omega) nA nA badG (some ⟨w2.heap.size, 0, none⟩) 1 1 (by decide) (by decide) HO.out.g).mono ?_
  rintro e w12 ⟨rfl, h1, on⟩
  rw [o10] at h1 ⊢
  replace HO := Lib.hid (HO.out.next h1 on)
  clear h1 on
  go_wp2_with (go_at_call 23; refine (code_any _ _ _).mono ?_; rintro e w' ⟨rfl, rfl⟩)
  refine (move_h HO.out.h (by omega) oz nA badG (some ⟨w2.heap.size, 0, none⟩) 1 1 (by decide) (by decide) HO.out.g).mono ?_
  rintro e w13 ⟨rfl, h1, on⟩
  rw [o11] at h1 ⊢
  replace HO := Lib.hid (HO.out.next h1 on)
  clear h1 on
  go_wp2_with (go_at_call 23; refine (code_any _ _ _).mono ?_; rintro e w' ⟨rfl, rfl⟩)
  refine (move_h HO.out.h (by omega) oz nA [] none 0 0 (by decide) (by decide) (Grd.nil _)).mono ?_
  rintro e w14 ⟨rfl, h1, on⟩
  rw [o12] at h1 ⊢
  replace HO := Lib.hid (HO.out.next h1 on)
  clear h1 on
  go_wp2_with (go_at_call 23; refine (code_any _ _ _).mono ?_; rintro e w' ⟨rfl, rfl⟩)
  refine (drop_h HO.out.h (by omega) oA badG (some ⟨w2.heap.size, 0, none⟩) 1 1 (by decide) HO.out.g).mono ?_
  rintro e w15 ⟨rfl, h1, on⟩
  rw [o13] at h1 ⊢
  replace HO := Lib.hid (HO.out.next h1 on)
  clear h1 on
  go_wp2_with (go_at_call 23; refine (code_any _ _ _).mono ?_; rintro e w' ⟨rfl, rfl⟩)
  refine (drop_h HO.out.h (by omega) oz badG (some ⟨w2.heap.size, 0, none⟩) 1 1 (by decide) HO.out.g).mono ?_
  rintro e w16 ⟨rfl, h1, on⟩
  rw [o14] at h1 ⊢
  replace HO := Lib.hid (HO.out.next h1 on)
  clear h1 on
  go_wp2_with (go_at_call 23; refine (code_any _ _ _).mono ?_; rintro e w' ⟨rfl, rfl⟩)
  refine (drop_h HO.out.h (by omega) oz [] none 0 0 (by decide) (Grd.nil _)).mono ?_
  rintro e w17 ⟨rfl, h1, on⟩
  rw [o15] at h1 ⊢
  replace HO := Lib.hid (HO.out.next h1 on)
  clear h1 on
  go_wp2_with (go_at_call 23; refine (code_any _ _ _).mono ?_; rintro e w' ⟨rfl, rfl⟩)
  refine at_world (fun W => FsH w W fb mb os1 (0 + 1 + 1 + 1 + 1 + 1 + 1 + 1 + 1 + 1 + 1 + 1 + 1 + 1 + 1 + 1 + 1) ∧ Blk W w17.heap.size 26 (ints .i64 codes) ∧ Blk W (w17.heap.size + 1) 26 (ints .i64 codes)) ⟨HO.out.h.alloc.alloc, (Blk.new w17 26 (ints .i64 codes)).alloc _, blk_new (by simp)⟩ ?_
  rintro W ⟨hF, hb1, hb2⟩
  have hk3 : (k : Int) < 15 := by omega
  have q1 := codes_at hb1.drew hk2
  have q2 := codes_at hb2.drew hk2
  obtain ⟨g1, hg1⟩ : ∃ g, g = w17.heap.size := ⟨_, rfl⟩
  rw [← hg1] at q1 q2 hb1 hb2 ⊢
  obtain ⟨v, hv⟩ : ∃ v, codes.getD k 0 = v := ⟨_, rfl⟩
  rw [hv] at q1 q2
  have HF := Lib.hid hF
  have Q := Lib.hid (fun (w' : World) (hb : Below W.heap.size W w') => (show w'.cell? ⟨g1, k, none⟩ = some (.int .i64 v) ∧ w'.cell? ⟨g1 + 1, k, none⟩ = some (.int .i64 v) ∧ Below W.heap.size W w' from ⟨(hb.cell (p := ⟨g1, k, none⟩) hb1.lt).trans q1, (hb.cell (p := ⟨g1 + 1, k, none⟩) hb2.lt).trans q2, hb⟩))
  clear hF hb1 hb2 HO hg1 hv
  (refine wp_region_held_drew (S := fun w' => w'.cell? ⟨g1, k, none⟩ = some (.int .i64 v) ∧ w'.cell? ⟨g1 + 1, k, none⟩ = some (.int .i64 v) ∧ Below W.heap.size W w') (by kernel_rfl) (Q.out _ (by (repeat (first | assumption | exact Below.refl _ _ | (with_reducible apply Below.drew) | (with_reducible apply bl_drewN) | (with_reducible apply bl_alloc) | (with_reducible refine bl_then ?_ (by assumption)))))) (fun hHeld => ?_))
  (refine wpAnyH_take (i := 0) (oi := _) (v := ?_) (ops_at rfl) (by kernel_rfl) (by kernel_rfl) (by kernel_rfl) (fun _ _ _ h => h) (Or.inl ⟨by rfl, ?_⟩) (by assumption) ?_; rotate_left; (focus (intro w hSw; (try dsimp only at hSw); go_simp; (try with_reducible rfl))); (try simp only [Act.put, List.setIfInBounds_toArray, List.set_cons_zero, List.set_cons_succ])); (refine wpAnyH_take (i := 1) (oi := _) (v := ?_) (ops_at rfl) (by kernel_rfl) (by kernel_rfl) (by kernel_rfl) (fun _ _ _ h => h) (Or.inl ⟨by rfl, ?_⟩) (by assumption) ?_; rotate_left; (focus (intro w hSw; (try dsimp only at hSw); go_simp; (try with_reducible rfl))); (try simp only [Act.put, List.setIfInBounds_toArray, List.set_cons_zero, List.set_cons_succ])); (refine wpAnyH_take (i := 2) (oi := _) (v := ?_) (ops_at rfl) (by kernel_rfl) (by kernel_rfl) (by kernel_rfl) (fun _ _ _ h => h) (Or.inl ⟨by rfl, ?_⟩) (by assumption) ?_; rotate_left; (focus (intro w hSw; (try dsimp only at hSw); go_simp; (try with_reducible rfl))); (try simp only [Act.put, List.setIfInBounds_toArray, List.set_cons_zero, List.set_cons_succ])); (refine wpAnyH_take (i := 3) (oi := _) (v := ?_) (ops_at rfl) (by kernel_rfl) (by kernel_rfl) (by kernel_rfl) (fun _ _ _ h => h) (Or.inl ⟨by rfl, ?_⟩) (by assumption) ?_; rotate_left; (focus (intro w hSw; (try dsimp only at hSw); go_simp; (try with_reducible rfl))); (try simp only [Act.put, List.setIfInBounds_toArray, List.set_cons_zero, List.set_cons_succ])); (refine wpAnyH_take (i := 4) (oi := _) (v := ?_) (ops_at rfl) (by kernel_rfl) (by kernel_rfl) (by kernel_rfl) (fun _ _ _ h => h) (Or.inl ⟨by rfl, ?_⟩) (by assumption) ?_; rotate_left; (focus (intro w hSw; (try dsimp only at hSw); go_simp; (try with_reducible rfl))); (try simp only [Act.put, List.setIfInBounds_toArray, List.set_cons_zero, List.set_cons_succ])); (refine wpAnyH_take (i := 5) (oi := _) (v := ?_) (ops_at rfl) (by kernel_rfl) (by kernel_rfl) (by kernel_rfl) (fun _ _ _ h => h) (Or.inl ⟨by rfl, ?_⟩) (by assumption) ?_; rotate_left; (focus (intro w hSw; (try dsimp only at hSw); go_simp; (try with_reducible rfl))); (try simp only [Act.put, List.setIfInBounds_toArray, List.set_cons_zero, List.set_cons_succ])); (refine wpAnyH_take (i := 6) (oi := _) (v := ?_) (ops_at rfl) (by kernel_rfl) (by kernel_rfl) (by kernel_rfl) (fun _ _ _ h => h) (Or.inl ⟨by rfl, ?_⟩) (by assumption) ?_; rotate_left; (focus (intro w hSw; (try dsimp only at hSw); go_simp; (try with_reducible rfl))); (try simp only [Act.put, List.setIfInBounds_toArray, List.set_cons_zero, List.set_cons_succ])); (refine wpAnyH_take (i := 7) (oi := _) (v := ?_) (ops_at rfl) (by kernel_rfl) (by kernel_rfl) (by kernel_rfl) (fun _ _ _ h => h) (Or.inl ⟨by rfl, ?_⟩) (by assumption) ?_; rotate_left; (focus (intro w hSw; (try dsimp only at hSw); go_simp; (try with_reducible rfl))); (try simp only [Act.put, List.setIfInBounds_toArray, List.set_cons_zero, List.set_cons_succ])); (refine wpAnyH_take (i := 8) (oi := _) (v := ?_) (ops_at rfl) (by kernel_rfl) (by kernel_rfl) (by kernel_rfl) (fun _ _ _ h => h) (Or.inl ⟨by rfl, ?_⟩) (by assumption) ?_; rotate_left; (focus (intro w hSw; (try dsimp only at hSw); go_simp; (try with_reducible rfl))); (try simp only [Act.put, List.setIfInBounds_toArray, List.set_cons_zero, List.set_cons_succ])); (refine wpAnyH_take (i := 9) (oi := _) (v := ?_) (ops_at rfl) (by kernel_rfl) (by kernel_rfl) (by kernel_rfl) (fun _ _ _ h => h) (Or.inl ⟨by rfl, ?_⟩) (by assumption) ?_; rotate_left; (focus (intro w hSw; (try dsimp only at hSw); go_simp; (try with_reducible rfl))); (try simp only [Act.put, List.setIfInBounds_toArray, List.set_cons_zero, List.set_cons_succ])); (refine wpAnyH_take (i := 10) (oi := _) (v := ?_) (ops_at rfl) (by kernel_rfl) (by kernel_rfl) (by kernel_rfl) (fun _ _ _ h => h) (Or.inl ⟨by rfl, ?_⟩) (by assumption) ?_; rotate_left; (focus (intro w hSw; (try dsimp only at hSw); go_simp; (try with_reducible rfl))); (try simp only [Act.put, List.setIfInBounds_toArray, List.set_cons_zero, List.set_cons_succ]))
  (refine wpAnyH_ready (rs := [11]) (by kernel_rfl) (by simp) (AllReadyH.cons (ops_at rfl) (fun K hK => ?_) AllReadyH.nil); go_simp; (refine (used_h HF.out.drew).mono ?_; rintro e w2 ⟨rfl, rfl⟩; rw [os1_used]); refine hK.out _ _ (Q.out _ (by (repeat (first | assumption | exact Below.refl _ _ | (with_reducible apply Below.drew) | (with_reducible apply bl_drewN) | (with_reducible apply bl_alloc) | (with_reducible refine bl_then ?_ (by assumption)))))) (fun hHeld => ?_); clear hK K; (try simp only [Act.put, List.setIfInBounds_toArray, List.set_cons_zero, List.set_cons_succ]))
  (refine wpAnyH_take (i := 12) (oi := _) (v := ?_) (ops_at rfl) (by kernel_rfl) (by kernel_rfl) (by kernel_rfl) (fun _ _ _ h => h) (Or.inl ⟨by rfl, ?_⟩) (by assumption) ?_; rotate_left; (focus (intro w hSw; (try dsimp only at hSw); go_simp; (try with_reducible rfl))); (try simp only [Act.put, List.setIfInBounds_toArray, List.set_cons_zero, List.set_cons_succ])); (refine wpAnyH_take (i := 13) (oi := _) (v := ?_) (ops_at rfl) (by kernel_rfl) (by kernel_rfl) (by kernel_rfl) (fun _ _ _ h => h) (Or.inl ⟨by rfl, ?_⟩) (by assumption) ?_; rotate_left; (focus (intro w hSw; (try dsimp only at hSw); go_simp; (try with_reducible rfl))); (try simp only [Act.put, List.setIfInBounds_toArray, List.set_cons_zero, List.set_cons_succ])); (refine wpAnyH_take (i := 14) (oi := _) (v := ?_) (ops_at rfl) (by kernel_rfl) (by kernel_rfl) (by kernel_rfl) (fun _ _ _ h => h) (Or.inl ⟨by rfl, ?_⟩) (by assumption) ?_; rotate_left; (focus (intro w hSw; (try dsimp only at hSw); go_simp; (try with_reducible rfl))); (try simp only [Act.put, List.setIfInBounds_toArray, List.set_cons_zero, List.set_cons_succ])); (refine wpAnyH_take (i := 15) (oi := _) (v := ?_) (ops_at rfl) (by kernel_rfl) (by kernel_rfl) (by kernel_rfl) (fun _ _ _ h => h) (Or.inl ⟨by rfl, ?_⟩) (by assumption) ?_; rotate_left; (focus (intro w hSw; (try dsimp only at hSw); go_simp; (try with_reducible rfl))); (try simp only [Act.put, List.setIfInBounds_toArray, List.set_cons_zero, List.set_cons_succ]))
  (refine wpAnyH_ready (rs := [16]) (by kernel_rfl) (by simp) (AllReadyH.cons (ops_at rfl) (fun K hK => ?_) AllReadyH.nil); go_simp; (refine (stamp_h HF.out.drew nA (by decide)).mono ?_; rintro e w2 ⟨rfl, rfl⟩; rw [os1_st]); refine hK.out _ _ (Q.out _ (by (repeat (first | assumption | exact Below.refl _ _ | (with_reducible apply Below.drew) | (with_reducible apply bl_drewN) | (with_reducible apply bl_alloc) | (with_reducible refine bl_then ?_ (by assumption)))))) (fun hHeld => ?_); clear hK K; (try simp only [Act.put, List.setIfInBounds_toArray, List.set_cons_zero, List.set_cons_succ]))
  (refine wpAnyH_take (i := 17) (oi := _) (v := ?_) (ops_at rfl) (by kernel_rfl) (by kernel_rfl) (by kernel_rfl) (fun _ _ _ h => h) (Or.inl ⟨by rfl, ?_⟩) (by assumption) ?_; rotate_left; (focus (intro w hSw; (try dsimp only at hSw); go_simp; (try with_reducible rfl))); (try simp only [Act.put, List.setIfInBounds_toArray, List.set_cons_zero, List.set_cons_succ])); (refine wpAnyH_take (i := 18) (oi := _) (v := ?_) (ops_at rfl) (by kernel_rfl) (by kernel_rfl) (by kernel_rfl) (fun _ _ _ h => h) (Or.inl ⟨by rfl, ?_⟩) (by assumption) ?_; rotate_left; (focus (intro w hSw; (try dsimp only at hSw); go_simp; (try with_reducible rfl))); (try simp only [Act.put, List.setIfInBounds_toArray, List.set_cons_zero, List.set_cons_succ])); (refine wpAnyH_take (i := 19) (oi := _) (v := ?_) (ops_at rfl) (by kernel_rfl) (by kernel_rfl) (by kernel_rfl) (fun _ _ _ h => h) (Or.inl ⟨by rfl, ?_⟩) (by assumption) ?_; rotate_left; (focus (intro w hSw; (try dsimp only at hSw); go_simp; (try with_reducible rfl))); (try simp only [Act.put, List.setIfInBounds_toArray, List.set_cons_zero, List.set_cons_succ]))
  (refine wpAnyH_ready (rs := [20]) (by kernel_rfl) (by simp) (AllReadyH.cons (ops_at rfl) (fun K hK => ?_) AllReadyH.nil); go_simp; (refine (awake9_any _).mono ?_; rintro e w18 ⟨rfl, hb18⟩); refine hK.out _ _ (Q.out _ (by (repeat (first | assumption | exact Below.refl _ _ | (with_reducible apply Below.drew) | (with_reducible apply bl_drewN) | (with_reducible apply bl_alloc) | (with_reducible refine bl_then ?_ (by assumption)))))) (fun hHeld => ?_); clear hK K; (try simp only [Act.put, List.setIfInBounds_toArray, List.set_cons_zero, List.set_cons_succ]))
  (refine wpAnyH_take (i := 21) (oi := _) (v := ?_) (ops_at rfl) (by kernel_rfl) (by kernel_rfl) (by kernel_rfl) (fun _ _ _ h => h) (Or.inl ⟨by rfl, ?_⟩) (by assumption) ?_; rotate_left; (focus (intro w hSw; (try dsimp only at hSw); go_simp; (try with_reducible rfl))); (try simp only [Act.put, List.setIfInBounds_toArray, List.set_cons_zero, List.set_cons_succ])); (refine wpAnyH_take (i := 22) (oi := _) (v := ?_) (ops_at rfl) (by kernel_rfl) (by kernel_rfl) (by kernel_rfl) (fun _ _ _ h => h) (Or.inl ⟨by rfl, ?_⟩) (by assumption) ?_; rotate_left; (focus (intro w hSw; (try dsimp only at hSw); go_simp; (try with_reducible rfl))); (try simp only [Act.put, List.setIfInBounds_toArray, List.set_cons_zero, List.set_cons_succ]))
  (refine wpAnyH_done (by kernel_rfl) ?_ _)
  have Hb := Lib.hid (HF.out.bel.trans (hHeld.2.2.mono HF.out.bel.size))
  go_wp2_with fail
  go_ret
  exact ⟨rfl, Hb.out⟩
theorem simforder_row {a : Int} (_ : (Lit.int .i64 a).wf = true) (w : World) : Calls Try.prog 5 #[.int .i64 a] w fun e w' => e = .returned (.bool true) ∧ Below w.heap.size w w' := simforder_any a w
end Go.Proofs.Ytgegflgmdcdkbaa
