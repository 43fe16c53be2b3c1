/- The reference's Done. -/
import Derived.Test.YtahdeighocmijaaGreatRdone
import Derived.Test.YtahdeighocmijaaGreatRfram
namespace Go.Proofs.YtahdeighocmijaaGreat
set_option linter.unusedSimpArgs false
set_option linter.unusedVariables false
open Go.RowKit
open Crc (Bytes)
open Cod (six held dig far numOf)

set_option maxRecDepth 100000 in
set_option maxHeartbeats 4000000 in
/-- The reference's bytes of a commit that may be. -/
theorem rdone_any (d : Dn) (A : Option Addr) (k c : Nat) (w : World) (hr : d.right = true) (hp : Bs w A k d.p) :
    Calls Tryz.prog 7 #[dnV d A k c] w (Gives w d.raw) := by
  have HP := Lib.hid hp
  have Hkk := hp.len
  obtain ⟨r1, r2, r3, r4, r5, r6⟩ := Dn.right_bd hr
  have Hok := Lib.hid r6
  obtain ⟨a1, a2⟩ : 0 ≤ d.who ∧ d.who ≤ 1099511627776 := by unfold numB at r4; simpa using r4
  obtain ⟨b1, b2⟩ : 0 ≤ d.inc ∧ d.inc ≤ 1099511627776 := by unfold numB at r5; simpa using r5
  have hts : d.t.size ≤ 140737488355328 := by omega
  have htl : (bl d.t).length = d.t.size := bl_len _
  have hk4 : (k : Int) ≤ 4000 := by omega
  clear hr hp r4 r5 r6
  unfold dnV
  go_enter Tryz.func7, Tryz.ntmps7
  go_wp2_with fail
  refine (qok_any d.t _ hts).mono ?_
  rintro e w1 ⟨rfl, rfl⟩
  rw [Hok.out]
  have HB := Lib.hid (Blk.new w 30 [.string d.t, .int .i64 d.who, .int .i64 d.inc, .slice A k c])
  have HP1 := Lib.hid (HP.out.alloc (Obj.cells #[.string d.t, .int .i64 d.who, .int .i64 d.inc, .slice A k c] 30))
  have Hb := Lib.hid (bl_alloc (o := Obj.cells #[.string d.t, .int .i64 d.who, .int .i64 d.inc, .slice A k c] 30) (Below.refl w.heap.size w))
  obtain ⟨w1, hw1⟩ : ∃ w1, w1 = w.alloc (Obj.cells #[.string d.t, .int .i64 d.who, .int .i64 d.inc, .slice A k c] 30) := ⟨_, rfl⟩
  obtain ⟨g, hg⟩ : ∃ g, g = w.heap.size := ⟨_, rfl⟩
  go_upto_region 3 with fail
  rw [← hw1] at HB HP1 Hb ⊢
  rw [← hg] at HB ⊢
  clear hw1 hg
  obtain ⟨q0, q1, q2, q3, -⟩ := keep4 HB.out (Below.refl _ _).drew
  have kb := fun (w : World) (s : ByteArray) => run_bytes_of_string (P := Tryz.prog) w 9 23 5 s Tryz.underlying9 Tryz.underlying23 Tryz.underlying5
  (refine wp_region_held_drew (S := fun w' => w'.cell? ⟨g, 0, none⟩ = some (.string d.t) ∧ w'.cell? ⟨g, 1, none⟩ = some (.int .i64 d.who) ∧ w'.cell? ⟨g, 2, none⟩ = some (.int .i64 d.inc) ∧ w'.cell? ⟨g, 3, none⟩ = some (.slice A k c) ∧ Below w1.heap.size w1 w') (by kernel_rfl) (keep4 HB.out (by (repeat (first | assumption | exact Below.refl _ _ | (with_reducible apply Below.drew) | (with_reducible apply bl_drewN) | (with_reducible apply bl_alloc) | (with_reducible refine bl_then ?_ (by assumption)))))) (fun hHeld => ?_))
  (refine wpAnyH_take (i := 0) (oi := _) (v := ?_) (ops_at rfl) (by kernel_rfl) (by kernel_rfl) (by kernel_rfl) (fun _ _ _ h => h) (Or.inl ⟨by rfl, ?_⟩) (by assumption) ?_; rotate_left; (focus (intro w hSw; (try dsimp only at hSw); go_simp; (try with_reducible rfl))); (try simp only [Act.put, List.setIfInBounds_toArray, List.set_cons_zero, List.set_cons_succ])); (refine wpAnyH_take (i := 1) (oi := _) (v := ?_) (ops_at rfl) (by kernel_rfl) (by kernel_rfl) (by kernel_rfl) (fun _ _ _ h => h) (Or.inl ⟨by rfl, ?_⟩) (by assumption) ?_; rotate_left; (focus (intro w hSw; (try dsimp only at hSw); go_simp; (try with_reducible rfl))); (try simp only [Act.put, List.setIfInBounds_toArray, List.set_cons_zero, List.set_cons_succ])); (refine wpAnyH_take (i := 4) (oi := _) (v := ?_) (ops_at rfl) (by kernel_rfl) (by kernel_rfl) (by kernel_rfl) (fun _ _ _ h => h) (Or.inl ⟨by rfl, ?_⟩) (by assumption) ?_; rotate_left; (focus (intro w hSw; (try dsimp only at hSw); go_simp; (try with_reducible rfl))); (try simp only [Act.put, List.setIfInBounds_toArray, List.set_cons_zero, List.set_cons_succ])); (refine wpAnyH_take (i := 5) (oi := _) (v := ?_) (ops_at rfl) (by kernel_rfl) (by kernel_rfl) (by kernel_rfl) (fun _ _ _ h => h) (Or.inl ⟨by rfl, ?_⟩) (by assumption) ?_; rotate_left; (focus (intro w hSw; (try dsimp only at hSw); go_simp; (try with_reducible rfl))); (try simp only [Act.put, List.setIfInBounds_toArray, List.set_cons_zero, List.set_cons_succ]))
  (refine wpAnyH_ready (rs := [2]) (by kernel_rfl) (by simp) (AllReadyH.cons (ops_at rfl) (fun K hK => ?_) AllReadyH.nil); go_simp; skip; refine hK.out _ _ (keep4 HB.out (by (repeat (first | assumption | exact Below.refl _ _ | (with_reducible apply Below.drew) | (with_reducible apply bl_drewN) | (with_reducible apply bl_alloc) | (with_reducible refine bl_then ?_ (by assumption)))))) (fun hHeld => ?_); clear hK K; (try simp only [Act.put, List.setIfInBounds_toArray, List.set_cons_zero, List.set_cons_succ]))
  (refine wpAnyH_ready (rs := [3]) (by kernel_rfl) (by simp) (AllReadyH.cons (ops_at rfl) (fun K hK => ?_) AllReadyH.nil); go_simp; (refine (qbytesw_any none (some ⟨w1.heap.size, 0, none⟩) 0 d.t.size 0 (grownCap w1.drew d.t.size 0 5) [] (bl d.t) _ (Bs.nil _ _) (Bs.drew (Bs.drew (bs_conv (by omega) rfl))) (by omega)).mono ?_; rintro e w3 ⟨X, nx, xc, rfl, hnx, hox, hnox, hbx⟩); refine hK.out _ _ (keep4 HB.out (by (repeat (first | assumption | exact Below.refl _ _ | (with_reducible apply Below.drew) | (with_reducible apply bl_drewN) | (with_reducible apply bl_alloc) | (with_reducible refine bl_then ?_ (by assumption)))))) (fun hHeld => ?_); clear hK K; (try simp only [Act.put, List.setIfInBounds_toArray, List.set_cons_zero, List.set_cons_succ]))
  have hW3 := Lib.hid hHeld.2.2.2.2
  have hnx' := hnx.out
  rw [show ([] ++ six ((bl d.t).length : Int) ++ bl d.t : List Int) = six (bl d.t).length ++ bl d.t from rfl] at hnx' hox
  have hx1 : nx = 6 + d.t.size := by rw [← hnx']; rw [List.length_append, Cod.six_len, htl]
  subst hx1
  have HX := Lib.hid (own_bs hox (bytes_app (Cod.six_bytes _) (bl_bytes _)) (by omega))
  clear hnx hnx' hox hnox hbx
  (refine wpAnyH_ready (rs := [6]) (by kernel_rfl) (by simp) (AllReadyH.cons (ops_at rfl) (fun K hK => ?_) AllReadyH.nil); go_simp; (refine (qbytesw_any X A (6 + d.t.size) k xc c (six (bl d.t).length ++ bl d.t) d.p _ HX.out (HP1.out.below hW3.out) (by omega)).mono ?_; rintro e w4 ⟨Y, ny, yc, rfl, hny, hoy, hnoy, hby⟩); refine hK.out _ _ (keep4 HB.out (hW3.out.trans (hby.mono hW3.out.size))) (fun hHeld => ?_); clear hK K; (try simp only [Act.put, List.setIfInBounds_toArray, List.set_cons_zero, List.set_cons_succ]))
  (refine wpAnyH_take (i := 7) (oi := _) (v := ?_) (ops_at rfl) (by kernel_rfl) (by kernel_rfl) (by kernel_rfl) (fun _ _ _ h => h) (Or.inl ⟨by rfl, ?_⟩) (by assumption) ?_; rotate_left; (focus (intro w hSw; (try dsimp only at hSw); go_simp; (try with_reducible rfl))); (try simp only [Act.put, List.setIfInBounds_toArray, List.set_cons_zero, List.set_cons_succ]))
  (refine wpAnyH_done (by kernel_rfl) ?_ _)
  have hW4 := Lib.hid hHeld.2.2.2.2
  have hny' := hny.out
  have hy1 : ny = 12 + d.t.size + k := by
    rw [← hny']
    simp only [List.length_append, Cod.six_len, htl, Hkk]
    omega
  subst hy1
  have HY := Lib.hid (own_bs hoy (bytes_app (bytes_app (bytes_app (Cod.six_bytes _) (bl_bytes _)) (Cod.six_bytes _)) HP.out.by_) (by omega))
  clear hny hny' hoy hnoy hby HX hHeld
  go_upto_region 4 with fail
  obtain ⟨r0, r1, r2, r3, -⟩ := keep4 HB.out (hW4.out.drew)
  (refine wp_region_held_drew (S := fun w' => w'.cell? ⟨g, 0, none⟩ = some (.string d.t) ∧ w'.cell? ⟨g, 1, none⟩ = some (.int .i64 d.who) ∧ w'.cell? ⟨g, 2, none⟩ = some (.int .i64 d.inc) ∧ w'.cell? ⟨g, 3, none⟩ = some (.slice A k c) ∧ Below w1.heap.size w1 w') (by kernel_rfl) (keep4 HB.out (hW4.out.drew)) (fun hHeld => ?_))
  (refine wpAnyH_take (i := 0) (oi := _) (v := ?_) (ops_at rfl) (by kernel_rfl) (by kernel_rfl) (by kernel_rfl) (fun _ _ _ h => h) (Or.inl ⟨by rfl, ?_⟩) (by assumption) ?_; rotate_left; (focus (intro w hSw; (try dsimp only at hSw); go_simp; (try with_reducible rfl))); (try simp only [Act.put, List.setIfInBounds_toArray, List.set_cons_zero, List.set_cons_succ])); (refine wpAnyH_take (i := 1) (oi := _) (v := ?_) (ops_at rfl) (by kernel_rfl) (by kernel_rfl) (by kernel_rfl) (fun _ _ _ h => h) (Or.inl ⟨by rfl, ?_⟩) (by assumption) ?_; rotate_left; (focus (intro w hSw; (try dsimp only at hSw); go_simp; (try with_reducible rfl))); (try simp only [Act.put, List.setIfInBounds_toArray, List.set_cons_zero, List.set_cons_succ])); (refine wpAnyH_take (i := 2) (oi := _) (v := ?_) (ops_at rfl) (by kernel_rfl) (by kernel_rfl) (by kernel_rfl) (fun _ _ _ h => h) (Or.inl ⟨by rfl, ?_⟩) (by assumption) ?_; rotate_left; (focus (intro w hSw; (try dsimp only at hSw); go_simp; (try with_reducible rfl))); (try simp only [Act.put, List.setIfInBounds_toArray, List.set_cons_zero, List.set_cons_succ])); (refine wpAnyH_take (i := 4) (oi := _) (v := ?_) (ops_at rfl) (by kernel_rfl) (by kernel_rfl) (by kernel_rfl) (fun _ _ _ h => h) (Or.inl ⟨by rfl, ?_⟩) (by assumption) ?_; rotate_left; (focus (intro w hSw; (try dsimp only at hSw); go_simp; (try with_reducible rfl))); (try simp only [Act.put, List.setIfInBounds_toArray, List.set_cons_zero, List.set_cons_succ])); (refine wpAnyH_take (i := 5) (oi := _) (v := ?_) (ops_at rfl) (by kernel_rfl) (by kernel_rfl) (by kernel_rfl) (fun _ _ _ h => h) (Or.inl ⟨by rfl, ?_⟩) (by assumption) ?_; rotate_left; (focus (intro w hSw; (try dsimp only at hSw); go_simp; (try with_reducible rfl))); (try simp only [Act.put, List.setIfInBounds_toArray, List.set_cons_zero, List.set_cons_succ]))
  (refine wpAnyH_ready (rs := [3]) (by kernel_rfl) (by simp) (AllReadyH.cons (ops_at rfl) (fun K hK => ?_) AllReadyH.nil); go_simp; (refine (qnumw_any Y (12 + d.t.size + k) yc _ d.who _ HY.out.drew (by omega)).mono ?_; rintro e w5 ⟨Z, nz, zc, rfl, hnz, hoz, hnoz, hbz⟩); refine hK.out _ _ (keep4 HB.out (hW4.out.drew.trans (hbz.mono hW4.out.drew.size))) (fun hHeld => ?_); clear hK K; (try simp only [Act.put, List.setIfInBounds_toArray, List.set_cons_zero, List.set_cons_succ]))
  have hW5 := Lib.hid hHeld.2.2.2.2
  have hnz' := hnz.out
  have hz1 : nz = 18 + d.t.size + k := by
    rw [← hnz']
    simp only [List.length_append, Cod.six_len, htl, Hkk]
    omega
  subst hz1
  have HZ := Lib.hid (own_bs hoz (bytes_app HY.out.by_ (Cod.six_bytes _)) (by omega))
  clear hnz hnz' hoz hnoz hbz HY
  (refine wpAnyH_ready (rs := [6]) (by kernel_rfl) (by simp) (AllReadyH.cons (ops_at rfl) (fun K hK => ?_) AllReadyH.nil); go_simp; (refine (qnumw_any Z (18 + d.t.size + k) zc _ d.inc _ HZ.out (by omega)).mono ?_; rintro e w6 ⟨U, nu, uc, rfl, hnu, hou, hnou, hbu⟩); refine hK.out _ _ (keep4 HB.out (hW5.out.trans (hbu.mono hW5.out.size))) (fun hHeld => ?_); clear hK K; (try simp only [Act.put, List.setIfInBounds_toArray, List.set_cons_zero, List.set_cons_succ]))
  (refine wpAnyH_take (i := 7) (oi := _) (v := ?_) (ops_at rfl) (by kernel_rfl) (by kernel_rfl) (by kernel_rfl) (fun _ _ _ h => h) (Or.inl ⟨by rfl, ?_⟩) (by assumption) ?_; rotate_left; (focus (intro w hSw; (try dsimp only at hSw); go_simp; (try with_reducible rfl))); (try simp only [Act.put, List.setIfInBounds_toArray, List.set_cons_zero, List.set_cons_succ]))
  (refine wpAnyH_done (by kernel_rfl) ?_ _)
  have hW6 := hHeld.2.2.2.2
  have hfin : Below w.heap.size w w6 := Hb.out.trans (hW6.mono Hb.out.size)
  have hsz5 : w.heap.size ≤ w5.heap.size := by have := Hb.out.size; have := hW5.out.size; omega
  have hraw : six ((bl d.t).length : Int) ++ bl d.t ++ six (d.p.length : Int) ++ d.p ++ six d.who ++ six d.inc = d.raw := rfl
  rw [hraw] at hnu hou hnou
  have HU := Lib.hid (hou.more hsz5)
  have HF := Lib.hid hfin
  clear hou hbu hHeld hW6 hfin
  go_wp2_with fail
  go_ret
  exact ⟨U, nu, uc, rfl, hnu, HU.out, hnou, HF.out⟩
end Go.Proofs.YtahdeighocmijaaGreat
