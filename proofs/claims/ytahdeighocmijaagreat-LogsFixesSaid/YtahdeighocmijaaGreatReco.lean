/- Records: num, right, Done, OpenDone. -/
import Derived.Test.YtahdeighocmijaaGreatFrM
namespace Go.Proofs.YtahdeighocmijaaGreat
set_option linter.unusedSimpArgs false
set_option linter.unusedVariables false
open Go.RowKit
open Crc (Bytes)
open Cod (six held dig far numOf)

/-- A commit. -/
structure Dn where
  t : ByteArray
  who : Int
  inc : Int
  p : List Int
def Dn.right (d : Dn) : Bool := okB d.t && decide ((d.p.length : Int) ≤ 4000) && numB d.who && numB d.inc
/-- The value of a commit whose print lies at A. -/
def dnV (d : Dn) (A : Option Addr) (k c : Nat) : Value := .agg #[.string d.t, .int .i64 d.who, .int .i64 d.inc, .slice A k c]
theorem rnumb_any (n : Int) (w : World) : Calls Tryz.prog 75 #[.int .i64 n] w fun e w' => e = .returned (.bool (numB n)) ∧ w = w' := by
  by_cases h0 : 0 ≤ n
  · by_cases h1 : n ≤ 1099511627776
    · have Hn := Lib.hid (show numB n = true by simp [numB, h0, h1])
      go_enter Tryz.func75, Tryz.ntmps75
      go_wp2_with fail
      go_ret
      exact ⟨by rw [Hn.out]; rfl, rfl⟩
    · have Hn := Lib.hid (show numB n = false by simp [numB, h1])
      have hd : decide (n ≤ 1099511627776) = false := decide_eq_false h1
      go_enter Tryz.func75, Tryz.ntmps75
      go_wp2_with fail
      go_ret
      exact ⟨by rw [Hn.out]; first | rfl | (rw [hd]; rfl), rfl⟩
  · have Hn := Lib.hid (show numB n = false by simp [numB, h0])
    have hd : decide (0 ≤ n) = false := decide_eq_false h0
    go_enter Tryz.func75, Tryz.ntmps75
    go_wp2_with fail
    go_ret
    exact ⟨by rw [Hn.out]; rfl, rfl⟩
set_option maxRecDepth 100000 in
set_option maxHeartbeats 1000000 in
theorem right_any (d : Dn) (A : Option Addr) (k c : Nat) (w : World) (ht : d.t.size ≤ 140737488355328) (hk : d.p.length = k) :
    Calls Tryz.prog 59 #[dnV d A k c] w fun e w' => e = .returned (.bool d.right) ∧ Below w.heap.size w w' := by
  obtain ⟨b1, hb1⟩ : ∃ b, okB d.t = b := ⟨_, rfl⟩
  obtain ⟨b2, hb2⟩ : ∃ b, decide ((k : Int) ≤ 4000) = b := ⟨_, rfl⟩
  obtain ⟨b3, hb3⟩ : ∃ b, numB d.who = b := ⟨_, rfl⟩
  obtain ⟨b4, hb4⟩ : ∃ b, numB d.inc = b := ⟨_, rfl⟩
  have Hr := Lib.hid (show d.right = (b1 && b2 && b3 && b4) by unfold Dn.right; rw [hk, hb1, hb2, hb3, hb4])
  have H1 := Lib.hid hb1
  have H3 := Lib.hid hb3
  have H4 := Lib.hid hb4
  have Ht := Lib.hid ht
  have hbel : Below w.heap.size w (w.alloc (Obj.cells #[.string d.t, .int .i64 d.who, .int .i64 d.inc, .slice A k c] 30)) := bl_alloc (Below.refl _ _)
  have Hb := Lib.hid hbel
  unfold dnV
  clear hb1 hb3 hb4 hk ht hbel
  cases b1
  · go_enter Tryz.func59, Tryz.ntmps59
    go_wp2_with (go_at_call 45; refine (ok_any d.t _ Ht.out).mono ?_; rintro e w1 ⟨rfl, rfl⟩; rw [H1.out])
    go_ret
    exact ⟨by rw [Hr.out]; rfl, Hb.out⟩
  cases b2
  · have hk4 : ¬ (k : Int) ≤ 4000 := of_decide_eq_false hb2
    go_enter Tryz.func59, Tryz.ntmps59
    go_wp2_with (go_at_call 45; refine (ok_any d.t _ Ht.out).mono ?_; rintro e w1 ⟨rfl, rfl⟩; rw [H1.out])
    go_ret
    exact ⟨by rw [Hr.out]; rfl, Hb.out⟩
  have hk4 : (k : Int) ≤ 4000 := of_decide_eq_true hb2
  cases b3
  · go_enter Tryz.func59, Tryz.ntmps59
    go_wp2_with (first | (go_at_call 45; refine (ok_any d.t _ Ht.out).mono ?_; rintro e w1 ⟨rfl, rfl⟩; rw [H1.out]) | (go_at_call 75; with_reducible refine (rnumb_any d.who _).mono ?_; rintro e w1 ⟨rfl, rfl⟩; rw [H3.out]))
    go_ret
    exact ⟨by rw [Hr.out]; rfl, Hb.out⟩
  · go_enter Tryz.func59, Tryz.ntmps59
    go_wp2_with fail
    refine (ok_any d.t _ Ht.out).mono ?_
    rintro e w1 ⟨rfl, rfl⟩
    rw [H1.out]
    go_wp2_with fail
    refine (rnumb_any d.who _).mono ?_
    rintro e w1 ⟨rfl, rfl⟩
    rw [H3.out]
    go_wp2_with fail
    refine (rnumb_any d.inc _).mono ?_
    rintro e w1 ⟨rfl, rfl⟩
    rw [H4.out]
    go_wp2_with fail
    go_ret
    exact ⟨by rw [Hr.out]; cases b4 <;> rfl, Hb.out⟩
/-- A commit's bytes. -/
def Dn.raw (d : Dn) : List Int := six (bl d.t).length ++ bl d.t ++ six d.p.length ++ d.p ++ six d.who ++ six d.inc
def Dn.bytes (d : Dn) : List Int := if d.right = true then d.raw else []
theorem okB_size {s : ByteArray} (h : okB s = true) : 1 ≤ s.size ∧ s.size ≤ 16 := by
  unfold okB at h
  simp only [Bool.and_eq_true, decide_eq_true_eq] at h
  omega
theorem Dn.right_bd {d : Dn} (h : d.right = true) : 1 ≤ d.t.size ∧ d.t.size ≤ 16 ∧ d.p.length ≤ 4000 ∧ numB d.who = true ∧ numB d.inc = true ∧ okB d.t = true := by
  unfold Dn.right at h
  simp only [Bool.and_eq_true, decide_eq_true_eq] at h
  obtain ⟨⟨⟨h1, h2⟩, h3⟩, h4⟩ := h
  have := okB_size h1
  exact ⟨this.1, this.2, by omega, h3, h4, h1⟩
theorem Dn.raw_len (d : Dn) : d.raw.length = 24 + d.t.size + d.p.length := by
  unfold Dn.raw
  simp only [List.length_append, Cod.six_len, bl_len]
  omega
theorem Dn.raw_bytes {d : Dn} (hp : Bytes d.p) : Bytes d.raw :=
  bytes_app (bytes_app (bytes_app (bytes_app (bytes_app (Cod.six_bytes _) (bl_bytes _)) (Cod.six_bytes _)) hp) (Cod.six_bytes _)) (Cod.six_bytes _)
theorem keep4 {W w' : World} {g : Nat} {t : TypeId} {v0 v1 v2 v3 : Value} (h : Blk W g t [v0, v1, v2, v3]) (hb : Below W.heap.size W w') : w'.cell? ⟨g, 0, none⟩ = some v0 ∧ w'.cell? ⟨g, 1, none⟩ = some v1 ∧ w'.cell? ⟨g, 2, none⟩ = some v2 ∧ w'.cell? ⟨g, 3, none⟩ = some v3 ∧ Below W.heap.size W w' :=
  ⟨(hb.cell (p := ⟨g, 0, none⟩) h.lt).trans (h.cell 0), (hb.cell (p := ⟨g, 1, none⟩) h.lt).trans (h.cell 1), (hb.cell (p := ⟨g, 2, none⟩) h.lt).trans (h.cell 2), (hb.cell (p := ⟨g, 3, none⟩) h.lt).trans (h.cell 3), hb⟩
set_option maxRecDepth 100000 in
set_option maxHeartbeats 2000000 in
theorem done_any (d : Dn) (A : Option Addr) (k c : Nat) (w : World) (ht : d.t.size ≤ 140737488355328) (hp : Bs w A k d.p) :
    Calls Tryz.prog 40 #[dnV d A k c] w (Gives w d.bytes) := by
  have HP := Lib.hid hp
  have Ht := Lib.hid ht
  have hk := hp.len
  obtain ⟨v, hv⟩ : ∃ v, v = dnV d A k c := ⟨_, rfl⟩
  have Hk := Lib.hid hk
  clear hp ht hk hv
  cases hr : d.right
  · have Hr := Lib.hid hr
    have Hd := Lib.hid (show d.bytes = [] by simp [Dn.bytes, hr])
    clear hr
    go_enter Tryz.func40, Tryz.ntmps40
    unfold dnV
    go_wp2_with fail
    refine (right_any d A k c _ Ht.out Hk.out).mono ?_
    rintro e w1 ⟨rfl, hb1⟩
    rw [Hr.out]
    have Hb := Lib.hid (bl_then (bl_alloc (Below.refl _ _)) hb1)
    clear hb1
    go_wp2_with fail
    go_ret
    exact ⟨none, 0, 0, rfl, Lib.hid (by rw [Hd.out]; rfl), by rw [Hd.out]; exact Own.nil _ _ _ _, fun _ => Hd.out, Hb.out⟩
  · have Hr := Lib.hid hr
    have hrb := Dn.right_bd hr
    have Hd := Lib.hid (show d.bytes = d.raw by simp [Dn.bytes, hr])
    clear hr
    go_enter Tryz.func40, Tryz.ntmps40
    unfold dnV
    go_wp2_with fail
    refine (right_any d A k c _ Ht.out Hk.out).mono ?_
    rintro e w1 ⟨rfl, hb1⟩
    rw [Hr.out]
    have HB := Lib.hid ((Blk.new w 30 [.string d.t, .int .i64 d.who, .int .i64 d.inc, .slice A k c]).below hb1)
    have HP1 := Lib.hid ((HP.out.alloc (Obj.cells #[.string d.t, .int .i64 d.who, .int .i64 d.inc, .slice A k c] 30)).below hb1)
    have Hb := Lib.hid (bl_then (bl_alloc (Below.refl _ _)) hb1)
    obtain ⟨g, hg⟩ : ∃ g, g = w.heap.size := ⟨_, rfl⟩
    rw [← hg] at HB ⊢
    clear hb1 hg
    go_upto_region 3 with fail
    obtain ⟨q0, q1, q2, q3, -⟩ := keep4 HB.out (Below.refl _ _).drew
    have kb := fun (w : World) (s : ByteArray) => run_bytes_of_string (P := Tryz.prog) w 9 23 5 s Tryz.underlying9 Tryz.underlying23 Tryz.underlying5
    have hts : d.t.size ≤ 16 := hrb.2.1
    have htl : (bl d.t).length = d.t.size := bl_len _
    have hpl := hrb.2.2.1
    have Hkk := Hk.out
    (refine wp_region_held_drew (S := fun w' => w'.cell? ⟨g, 0, none⟩ = some (.string d.t) ∧ w'.cell? ⟨g, 1, none⟩ = some (.int .i64 d.who) ∧ w'.cell? ⟨g, 2, none⟩ = some (.int .i64 d.inc) ∧ w'.cell? ⟨g, 3, none⟩ = some (.slice A k c) ∧ Below w1.heap.size w1 w') (by kernel_rfl) (keep4 HB.out (by (repeat (first | assumption | exact Below.refl _ _ | (with_reducible apply Below.drew) | (with_reducible apply bl_drewN) | (with_reducible apply bl_alloc) | (with_reducible refine bl_then ?_ (by assumption)))))) (fun hHeld => ?_))
    (refine wpAnyH_take (i := 0) (oi := _) (v := ?_) (ops_at rfl) (by kernel_rfl) (by kernel_rfl) (by kernel_rfl) (fun _ _ _ h => h) (Or.inl ⟨by rfl, ?_⟩) (by assumption) ?_; rotate_left; (focus (intro w hSw; (try dsimp only at hSw); go_simp; (try with_reducible rfl))); (try simp only [Act.put, List.setIfInBounds_toArray, List.set_cons_zero, List.set_cons_succ])); (refine wpAnyH_take (i := 1) (oi := _) (v := ?_) (ops_at rfl) (by kernel_rfl) (by kernel_rfl) (by kernel_rfl) (fun _ _ _ h => h) (Or.inl ⟨by rfl, ?_⟩) (by assumption) ?_; rotate_left; (focus (intro w hSw; (try dsimp only at hSw); go_simp; (try with_reducible rfl))); (try simp only [Act.put, List.setIfInBounds_toArray, List.set_cons_zero, List.set_cons_succ])); (refine wpAnyH_take (i := 4) (oi := _) (v := ?_) (ops_at rfl) (by kernel_rfl) (by kernel_rfl) (by kernel_rfl) (fun _ _ _ h => h) (Or.inl ⟨by rfl, ?_⟩) (by assumption) ?_; rotate_left; (focus (intro w hSw; (try dsimp only at hSw); go_simp; (try with_reducible rfl))); (try simp only [Act.put, List.setIfInBounds_toArray, List.set_cons_zero, List.set_cons_succ])); (refine wpAnyH_take (i := 5) (oi := _) (v := ?_) (ops_at rfl) (by kernel_rfl) (by kernel_rfl) (by kernel_rfl) (fun _ _ _ h => h) (Or.inl ⟨by rfl, ?_⟩) (by assumption) ?_; rotate_left; (focus (intro w hSw; (try dsimp only at hSw); go_simp; (try with_reducible rfl))); (try simp only [Act.put, List.setIfInBounds_toArray, List.set_cons_zero, List.set_cons_succ]))
    (refine wpAnyH_ready (rs := [2]) (by kernel_rfl) (by simp) (AllReadyH.cons (ops_at rfl) (fun K hK => ?_) AllReadyH.nil); go_simp; skip; refine hK.out _ _ (keep4 HB.out (by (repeat (first | assumption | exact Below.refl _ _ | (with_reducible apply Below.drew) | (with_reducible apply bl_drewN) | (with_reducible apply bl_alloc) | (with_reducible refine bl_then ?_ (by assumption)))))) (fun hHeld => ?_); clear hK K; (try simp only [Act.put, List.setIfInBounds_toArray, List.set_cons_zero, List.set_cons_succ]))
    (refine wpAnyH_ready (rs := [3]) (by kernel_rfl) (by simp) (AllReadyH.cons (ops_at rfl) (fun K hK => ?_) AllReadyH.nil); go_simp; (refine (bytes_any none (some ⟨w1.heap.size, 0, none⟩) 0 d.t.size 0 (grownCap w1.drew d.t.size 0 5) [] (bl d.t) _ (Bs.nil _ _) (Bs.drew (Bs.drew (bs_conv (by omega) rfl))) (by omega)).mono ?_; rintro e w3 ⟨X, nx, xc, rfl, hnx, hox, hnox, hbx⟩); refine hK.out _ _ (keep4 HB.out (by (repeat (first | assumption | exact Below.refl _ _ | (with_reducible apply Below.drew) | (with_reducible apply bl_drewN) | (with_reducible apply bl_alloc) | (with_reducible refine bl_then ?_ (by assumption)))))) (fun hHeld => ?_); clear hK K; (try simp only [Act.put, List.setIfInBounds_toArray, List.set_cons_zero, List.set_cons_succ]))
    have hW3 := Lib.hid hHeld.2.2.2.2
    have hnx' := hnx.out
    rw [show ([] ++ six ((bl d.t).length : Int) ++ bl d.t : List Int) = six (bl d.t).length ++ bl d.t from rfl] at hnx' hox
    have hx1 : nx = 6 + d.t.size := by rw [← hnx']; rw [List.length_append, Cod.six_len, htl]
    subst hx1
    have HX := Lib.hid (own_bs hox (bytes_app (Cod.six_bytes _) (bl_bytes _)) (by omega))
    clear hnx hnx' hox hnox hbx
    (refine wpAnyH_ready (rs := [6]) (by kernel_rfl) (by simp) (AllReadyH.cons (ops_at rfl) (fun K hK => ?_) AllReadyH.nil); go_simp; (refine (bytes_any X A (6 + d.t.size) k xc c (six (bl d.t).length ++ bl d.t) d.p _ HX.out (HP1.out.below hW3.out) (by omega)).mono ?_; rintro e w4 ⟨Y, ny, yc, rfl, hny, hoy, hnoy, hby⟩); refine hK.out _ _ (keep4 HB.out (hW3.out.trans (hby.mono hW3.out.size))) (fun hHeld => ?_); clear hK K; (try simp only [Act.put, List.setIfInBounds_toArray, List.set_cons_zero, List.set_cons_succ]))
    (refine wpAnyH_take (i := 7) (oi := _) (v := ?_) (ops_at rfl) (by kernel_rfl) (by kernel_rfl) (by kernel_rfl) (fun _ _ _ h => h) (Or.inl ⟨by rfl, ?_⟩) (by assumption) ?_; rotate_left; (focus (intro w hSw; (try dsimp only at hSw); go_simp; (try with_reducible rfl))); (try simp only [Act.put, List.setIfInBounds_toArray, List.set_cons_zero, List.set_cons_succ]))
    (refine wpAnyH_done (by kernel_rfl) ?_ _)
    have hW4 := Lib.hid hHeld.2.2.2.2
    have hny' := hny.out
    have hy1 : ny = 12 + d.t.size + k := by
      rw [← hny']
      simp only [List.length_append, Cod.six_len, htl, Hkk]
      omega
    subst hy1
    have HY := Lib.hid (own_bs hoy (bytes_app (bytes_app (bytes_app (Cod.six_bytes _) (bl_bytes _)) (Cod.six_bytes _)) HP.out.by_) (by omega))
    clear hny hny' hoy hnoy hby HX hHeld
    go_upto_region 4 with fail
    obtain ⟨r0, r1, r2, r3, -⟩ := keep4 HB.out (hW4.out.drew)
    (refine wp_region_held_drew (S := fun w' => w'.cell? ⟨g, 0, none⟩ = some (.string d.t) ∧ w'.cell? ⟨g, 1, none⟩ = some (.int .i64 d.who) ∧ w'.cell? ⟨g, 2, none⟩ = some (.int .i64 d.inc) ∧ w'.cell? ⟨g, 3, none⟩ = some (.slice A k c) ∧ Below w1.heap.size w1 w') (by kernel_rfl) (keep4 HB.out (hW4.out.drew)) (fun hHeld => ?_))
    (refine wpAnyH_take (i := 0) (oi := _) (v := ?_) (ops_at rfl) (by kernel_rfl) (by kernel_rfl) (by kernel_rfl) (fun _ _ _ h => h) (Or.inl ⟨by rfl, ?_⟩) (by assumption) ?_; rotate_left; (focus (intro w hSw; (try dsimp only at hSw); go_simp; (try with_reducible rfl))); (try simp only [Act.put, List.setIfInBounds_toArray, List.set_cons_zero, List.set_cons_succ])); (refine wpAnyH_take (i := 1) (oi := _) (v := ?_) (ops_at rfl) (by kernel_rfl) (by kernel_rfl) (by kernel_rfl) (fun _ _ _ h => h) (Or.inl ⟨by rfl, ?_⟩) (by assumption) ?_; rotate_left; (focus (intro w hSw; (try dsimp only at hSw); go_simp; (try with_reducible rfl))); (try simp only [Act.put, List.setIfInBounds_toArray, List.set_cons_zero, List.set_cons_succ])); (refine wpAnyH_take (i := 2) (oi := _) (v := ?_) (ops_at rfl) (by kernel_rfl) (by kernel_rfl) (by kernel_rfl) (fun _ _ _ h => h) (Or.inl ⟨by rfl, ?_⟩) (by assumption) ?_; rotate_left; (focus (intro w hSw; (try dsimp only at hSw); go_simp; (try with_reducible rfl))); (try simp only [Act.put, List.setIfInBounds_toArray, List.set_cons_zero, List.set_cons_succ])); (refine wpAnyH_take (i := 4) (oi := _) (v := ?_) (ops_at rfl) (by kernel_rfl) (by kernel_rfl) (by kernel_rfl) (fun _ _ _ h => h) (Or.inl ⟨by rfl, ?_⟩) (by assumption) ?_; rotate_left; (focus (intro w hSw; (try dsimp only at hSw); go_simp; (try with_reducible rfl))); (try simp only [Act.put, List.setIfInBounds_toArray, List.set_cons_zero, List.set_cons_succ])); (refine wpAnyH_take (i := 5) (oi := _) (v := ?_) (ops_at rfl) (by kernel_rfl) (by kernel_rfl) (by kernel_rfl) (fun _ _ _ h => h) (Or.inl ⟨by rfl, ?_⟩) (by assumption) ?_; rotate_left; (focus (intro w hSw; (try dsimp only at hSw); go_simp; (try with_reducible rfl))); (try simp only [Act.put, List.setIfInBounds_toArray, List.set_cons_zero, List.set_cons_succ]))
    (refine wpAnyH_ready (rs := [3]) (by kernel_rfl) (by simp) (AllReadyH.cons (ops_at rfl) (fun K hK => ?_) AllReadyH.nil); go_simp; (refine (num_any Y (12 + d.t.size + k) yc _ d.who _ HY.out.drew (by omega)).mono ?_; rintro e w5 ⟨Z, nz, zc, rfl, hnz, hoz, hnoz, hbz⟩); refine hK.out _ _ (keep4 HB.out (hW4.out.drew.trans (hbz.mono hW4.out.drew.size))) (fun hHeld => ?_); clear hK K; (try simp only [Act.put, List.setIfInBounds_toArray, List.set_cons_zero, List.set_cons_succ]))
    have hW5 := Lib.hid hHeld.2.2.2.2
    have hnz' := hnz.out
    have hz1 : nz = 18 + d.t.size + k := by
      rw [← hnz']
      simp only [List.length_append, Cod.six_len, htl, Hkk]
      omega
    subst hz1
    have HZ := Lib.hid (own_bs hoz (bytes_app HY.out.by_ (Cod.six_bytes _)) (by omega))
    clear hnz hnz' hoz hnoz hbz HY
    (refine wpAnyH_ready (rs := [6]) (by kernel_rfl) (by simp) (AllReadyH.cons (ops_at rfl) (fun K hK => ?_) AllReadyH.nil); go_simp; (refine (num_any Z (18 + d.t.size + k) zc _ d.inc _ HZ.out (by omega)).mono ?_; rintro e w6 ⟨U, nu, uc, rfl, hnu, hou, hnou, hbu⟩); refine hK.out _ _ (keep4 HB.out (hW5.out.trans (hbu.mono hW5.out.size))) (fun hHeld => ?_); clear hK K; (try simp only [Act.put, List.setIfInBounds_toArray, List.set_cons_zero, List.set_cons_succ]))
    (refine wpAnyH_take (i := 7) (oi := _) (v := ?_) (ops_at rfl) (by kernel_rfl) (by kernel_rfl) (by kernel_rfl) (fun _ _ _ h => h) (Or.inl ⟨by rfl, ?_⟩) (by assumption) ?_; rotate_left; (focus (intro w hSw; (try dsimp only at hSw); go_simp; (try with_reducible rfl))); (try simp only [Act.put, List.setIfInBounds_toArray, List.set_cons_zero, List.set_cons_succ]))
    (refine wpAnyH_done (by kernel_rfl) ?_ _)
    have hW6 := hHeld.2.2.2.2
    have hfin : Below w.heap.size w w6 := Hb.out.trans (hW6.mono Hb.out.size)
    have hsz5 : w.heap.size ≤ w5.heap.size := by have := Hb.out.size; have := hW5.out.size; omega
    have hraw : six ((bl d.t).length : Int) ++ bl d.t ++ six (d.p.length : Int) ++ d.p ++ six d.who ++ six d.inc = d.raw := rfl
    rw [hraw] at hnu hou hnou
    have HU := Lib.hid (hou.more hsz5)
    have HF := Lib.hid hfin
    clear hou hbu hHeld hW6 hfin
    go_wp2_with fail
    go_ret
    rw [Hd.out]
    exact ⟨U, nu, uc, rfl, hnu, HU.out, hnou, HF.out⟩
end Go.Proofs.YtahdeighocmijaaGreat
