/- logs: Step, Trace, Tell. -/
import Derived.Test.YtahdeighocmijaaGreatLogs
namespace Go.Proofs.YtahdeighocmijaaGreat
set_option linter.unusedSimpArgs false
set_option linter.unusedVariables false
open Go.RowKit
open Crc (Bytes)

set_option maxRecDepth 100000 in
set_option maxHeartbeats 2000000 in
theorem fixstep0_any {w0 w : World} {base fb mb xb k : Nat} {S : Fs} {s : Fix} (ds : List Dn) (r : List Int) (hH : FsH w0 w fb mb S k) (hX : FixAt w base xb s) (hw : w0.heap.size ≤ base) (hbw : base ≤ w.heap.size) (hat : s.at_ = 0) (hg : s.gs.length ≤ 3)
    (ht : (S.readF nmT).1 = 0 → (S.readF nmT).2.1 = tr ds ++ r ∧ Dns ds ∧ NoD r ∧ (tr ds ++ r).length ≤ 100000) :
    Calls Tryz.prog 13 #[.pointer (some ⟨xb, 0, none⟩), .pointer (some ⟨fb, 0, none⟩)] w fun e w' => XDid w0 base fb mb xb w w' e (readX S s ds r).1 S k (readX S s ds r).2 := by
  have HC := Lib.hid (fixread_any ds r hH hX hw hbw hg ht)
  obtain ⟨⟨GA, gn, gc, BA, bn, bc, hblk, hgo, hbb, hbu⟩, hxb, hnm, hg4, htz, hbz⟩ := hX
  have c2 : w.cell? ⟨xb, 2, none⟩ = some (.int .i64 0) := by rw [← hat]; exact hblk.cell 2
  clear hblk hgo hbb hbu hnm ht hat hH
  go_enter Tryz.func13, Tryz.ntmps13
  go_wp2_with fail
  refine HC.out.mono ?_
  rintro e w' h
  obtain rfl := h.ret
  have HH := Lib.hid h
  clear h
  go_wp2_with fail
  go_ret
  exact HH.out
set_option maxRecDepth 100000 in
set_option maxHeartbeats 2000000 in
theorem fixstep4_any {w : World} {base xb : Nat} {s : Fix} (hX : FixAt w base xb s) (p : Value) (hat : s.at_ = 4) :
    Calls Tryz.prog 13 #[.pointer (some ⟨xb, 0, none⟩), p] w fun e w' => e = .returned (.int .i64 s.told) ∧ w = w' := by
  obtain ⟨⟨GA, gn, gc, BA, bn, bc, hblk, hgo, hbb, hbu⟩, hxb, hnm, hg4, htz, hbz⟩ := hX
  have c2 : w.cell? ⟨xb, 2, none⟩ = some (.int .i64 4) := by rw [← hat]; exact hblk.cell 2
  have c3 : w.cell? ⟨xb, 3, none⟩ = some (.int .i64 s.told) := hblk.cell 3
  clear hblk hgo hbb hbu hnm hat
  go_enter Tryz.func13, Tryz.ntmps13
  go_wp2_with fail
  go_ret
  exact ⟨rfl, rfl⟩
set_option maxRecDepth 100000 in
set_option maxHeartbeats 2000000 in
theorem fixstep3_any {w0 w : World} {base fb mb xb k : Nat} {S : Fs} {s : Fix} (hH : FsH w0 w fb mb S k) (hX : FixAt w base xb s) (hw : w0.heap.size ≤ base) (hbw : base ≤ w.heap.size) (hat : s.at_ = 3) (hk : k ≤ 4999) :
    Calls Tryz.prog 13 #[.pointer (some ⟨xb, 0, none⟩), .pointer (some ⟨fb, 0, none⟩)] w fun e w' => XDid w0 base fb mb xb w w' e 2 (S.dropF s.temp []).2 (k + 1) { s with at_ := 4, told := 2 } := by
  have HH := Lib.hid hH
  have HX := Lib.hid hX
  obtain ⟨⟨GA, gn, gc, BA, bn, bc, hblk, hgo, hbb, hbu⟩, hxb, hnm, hg4, htz, hbz⟩ := hX
  have c2 : w.cell? ⟨xb, 2, none⟩ = some (.int .i64 3) := by rw [← hat]; exact hblk.cell 2
  have c1 : w.cell? ⟨xb, 1, none⟩ = some (.string s.temp) := hblk.cell 1
  clear hblk hgo hbb hbu hnm hat hH
  go_enter Tryz.func13, Tryz.ntmps13
  go_wp2_with fail
  refine (drop_h HH.out hk s.temp [] none 0 0 htz (Grd.nil _)).mono ?_
  rintro e w1 ⟨rfl, h1, o1⟩
  have HX1 := Lib.hid (HX.out.fs HH.out o1)
  have HO := Lib.hid (OnlyB.fs o1 hbw)
  have HH1 := Lib.hid h1
  have hsz := o1.size
  clear h1 o1 c1 c2
  go_wp2_with fail
  refine (end_x HH1.out HX1.out hw (by omega) 2).mono ?_
  rintro e w2 h
  obtain rfl := h.ret
  have HD := Lib.hid (h.after HO.out)
  clear h
  go_wp2_with fail
  go_ret
  exact HD.out
set_option maxRecDepth 100000 in
set_option maxHeartbeats 2000000 in
theorem fixstep1_any {w0 w : World} {base fb mb xb k : Nat} {S : Fs} {s : Fix} (ds : List Dn) (r : List Int) (hH : FsH w0 w fb mb S k) (hX : FixAt w base xb s) (hw : w0.heap.size ≤ base) (hbw : base ≤ w.heap.size) (hat : s.at_ = 1) (hk : k ≤ 4999) :
    Calls Tryz.prog 13 #[.pointer (some ⟨xb, 0, none⟩), .pointer (some ⟨fb, 0, none⟩)] w fun e w' => XDid w0 base fb mb xb w w' e (stepX ds r S s).1 (stepX ds r S s).2.2 (k + 1) (stepX ds r S s).2.1 := by
  have HH := Lib.hid hH
  have HX := Lib.hid hX
  obtain ⟨⟨GA, gn, gc, BA, bn, bc, hblk, hgo, hbb, hbu⟩, hxb, hnm, hg4, htz, hbz⟩ := hX
  have hbl := hbb.len
  have HBB := Lib.hid hbb
  have c2 : w.cell? ⟨xb, 2, none⟩ = some (.int .i64 1) := by rw [← hat]; exact hblk.cell 2
  obtain ⟨⟨⟨st, e0⟩, S'⟩, hp⟩ : ∃ p, S.putF s.temp s.b = p := ⟨_, rfl⟩
  have HS := Lib.hid (show stepX ds r S s = if e0 = 0 then (0, { s with at_ := 2 }, S') else if e0 = 2 then (4, { s with at_ := 4, told := 4 }, S') else (3, { s with at_ := 4, told := 3 }, S') by
    unfold stepX; rw [hat, if_neg (by decide), if_pos rfl, hp])
  have HP := Lib.hid hp
  have HKc := Lib.hid (fun (w' : World) (hh : w'.heap[xb]? = w.heap[xb]?) => (show w'.cell? ⟨xb, 1, none⟩ = some (.string s.temp) ∧ w'.cell? ⟨xb, 4, none⟩ = some (.slice BA bn bc) from ⟨(hblk.keep hh).cell 1, (hblk.keep hh).cell 4⟩))
  have hne := hH.ne hblk.at_ (by decide)
  have hxw := hblk.lt
  clear hblk hgo hbb hbu hnm hat hH hp
  go_enter Tryz.func13, Tryz.ntmps13
  go_upto_region 5 with fail
  (refine wp_region_held_drew (S := fun w' => w'.cell? ⟨xb, 1, none⟩ = some (.string s.temp) ∧ w'.cell? ⟨xb, 4, none⟩ = some (.slice BA bn bc)) (by kernel_rfl) (HKc.out _ rfl) (fun hHeld => ?_))
  (refine wpAnyH_take (i := 0) (oi := _) (v := ?_) (ops_at rfl) (by kernel_rfl) (by kernel_rfl) (by kernel_rfl) (fun _ _ _ h => h) (Or.inl ⟨by rfl, ?_⟩) (by assumption) ?_; rotate_left; (focus (intro w hSw; (try dsimp only at hSw); go_simp; (try with_reducible rfl))); (try simp only [Act.put, List.setIfInBounds_toArray, List.set_cons_zero, List.set_cons_succ])); (refine wpAnyH_take (i := 1) (oi := _) (v := ?_) (ops_at rfl) (by kernel_rfl) (by kernel_rfl) (by kernel_rfl) (fun _ _ _ h => h) (Or.inl ⟨by rfl, ?_⟩) (by assumption) ?_; rotate_left; (focus (intro w hSw; (try dsimp only at hSw); go_simp; (try with_reducible rfl))); (try simp only [Act.put, List.setIfInBounds_toArray, List.set_cons_zero, List.set_cons_succ])); (refine wpAnyH_take (i := 2) (oi := _) (v := ?_) (ops_at rfl) (by kernel_rfl) (by kernel_rfl) (by kernel_rfl) (fun _ _ _ h => h) (Or.inl ⟨by rfl, ?_⟩) (by assumption) ?_; rotate_left; (focus (intro w hSw; (try dsimp only at hSw); go_simp; (try with_reducible rfl))); (try simp only [Act.put, List.setIfInBounds_toArray, List.set_cons_zero, List.set_cons_succ])); (refine wpAnyH_take (i := 3) (oi := _) (v := ?_) (ops_at rfl) (by kernel_rfl) (by kernel_rfl) (by kernel_rfl) (fun _ _ _ h => h) (Or.inl ⟨by rfl, ?_⟩) (by assumption) ?_; rotate_left; (focus (intro w hSw; (try dsimp only at hSw); go_simp; (try with_reducible rfl))); (try simp only [Act.put, List.setIfInBounds_toArray, List.set_cons_zero, List.set_cons_succ])); (refine wpAnyH_take (i := 4) (oi := _) (v := ?_) (ops_at rfl) (by kernel_rfl) (by kernel_rfl) (by kernel_rfl) (fun _ _ _ h => h) (Or.inl ⟨by rfl, ?_⟩) (by assumption) ?_; rotate_left; (focus (intro w hSw; (try dsimp only at hSw); go_simp; (try with_reducible rfl))); (try simp only [Act.put, List.setIfInBounds_toArray, List.set_cons_zero, List.set_cons_succ])); (refine wpAnyH_take (i := 5) (oi := _) (v := ?_) (ops_at rfl) (by kernel_rfl) (by kernel_rfl) (by kernel_rfl) (fun _ _ _ h => h) (Or.inl ⟨by rfl, ?_⟩) (by assumption) ?_; rotate_left; (focus (intro w hSw; (try dsimp only at hSw); go_simp; (try with_reducible rfl))); (try simp only [Act.put, List.setIfInBounds_toArray, List.set_cons_zero, List.set_cons_succ])); (refine wpAnyH_take (i := 6) (oi := _) (v := ?_) (ops_at rfl) (by kernel_rfl) (by kernel_rfl) (by kernel_rfl) (fun _ _ _ h => h) (Or.inl ⟨by rfl, ?_⟩) (by assumption) ?_; rotate_left; (focus (intro w hSw; (try dsimp only at hSw); go_simp; (try with_reducible rfl))); (try simp only [Act.put, List.setIfInBounds_toArray, List.set_cons_zero, List.set_cons_succ])); (refine wpAnyH_take (i := 7) (oi := _) (v := ?_) (ops_at rfl) (by kernel_rfl) (by kernel_rfl) (by kernel_rfl) (fun _ _ _ h => h) (Or.inl ⟨by rfl, ?_⟩) (by assumption) ?_; rotate_left; (focus (intro w hSw; (try dsimp only at hSw); go_simp; (try with_reducible rfl))); (try simp only [Act.put, List.setIfInBounds_toArray, List.set_cons_zero, List.set_cons_succ])); (refine wpAnyH_take (i := 8) (oi := _) (v := ?_) (ops_at rfl) (by kernel_rfl) (by kernel_rfl) (by kernel_rfl) (fun _ _ _ h => h) (Or.inl ⟨by rfl, ?_⟩) (by assumption) ?_; rotate_left; (focus (intro w hSw; (try dsimp only at hSw); go_simp; (try with_reducible rfl))); (try simp only [Act.put, List.setIfInBounds_toArray, List.set_cons_zero, List.set_cons_succ]))
  (refine wpAnyH_ready (rs := [9]) (by kernel_rfl) (by simp) (AllReadyH.cons (ops_at rfl) (fun K hK => ?_) AllReadyH.nil); go_simp; (refine (put_h HH.out.drew hk s.temp s.b BA bn bc htz (by omega) HBB.out.drew).mono ?_; rintro e w1 ⟨rfl, h1, o1⟩; rw [HP.out] at h1 ⊢); refine hK.out _ _ (HKc.out _ (o1.block xb hxw hne)) (fun hHeld => ?_); clear hK K; (try simp only [Act.put, List.setIfInBounds_toArray, List.set_cons_zero, List.set_cons_succ]))
  (refine wpAnyH_take (i := 10) (oi := _) (v := ?_) (ops_at rfl) (by kernel_rfl) (by kernel_rfl) (by kernel_rfl) (fun _ _ _ h => h) (Or.inl ⟨by rfl, ?_⟩) (by assumption) ?_; rotate_left; (focus (intro w hSw; (try dsimp only at hSw); go_simp; (try with_reducible rfl))); (try simp only [Act.put, List.setIfInBounds_toArray, List.set_cons_zero, List.set_cons_succ])); (refine wpAnyH_take (i := 11) (oi := _) (v := ?_) (ops_at rfl) (by kernel_rfl) (by kernel_rfl) (by kernel_rfl) (fun _ _ _ h => h) (Or.inl ⟨by rfl, ?_⟩) (by assumption) ?_; rotate_left; (focus (intro w hSw; (try dsimp only at hSw); go_simp; (try with_reducible rfl))); (try simp only [Act.put, List.setIfInBounds_toArray, List.set_cons_zero, List.set_cons_succ])); (refine wpAnyH_take (i := 12) (oi := _) (v := ?_) (ops_at rfl) (by kernel_rfl) (by kernel_rfl) (by kernel_rfl) (fun _ _ _ h => h) (Or.inl ⟨by rfl, ?_⟩) (by assumption) ?_; rotate_left; (focus (intro w hSw; (try dsimp only at hSw); go_simp; (try with_reducible rfl))); (try simp only [Act.put, List.setIfInBounds_toArray, List.set_cons_zero, List.set_cons_succ])); (refine wpAnyH_take (i := 13) (oi := _) (v := ?_) (ops_at rfl) (by kernel_rfl) (by kernel_rfl) (by kernel_rfl) (fun _ _ _ h => h) (Or.inl ⟨by rfl, ?_⟩) (by assumption) ?_; rotate_left; (focus (intro w hSw; (try dsimp only at hSw); go_simp; (try with_reducible rfl))); (try simp only [Act.put, List.setIfInBounds_toArray, List.set_cons_zero, List.set_cons_succ])); (refine wpAnyH_take (i := 14) (oi := _) (v := ?_) (ops_at rfl) (by kernel_rfl) (by kernel_rfl) (by kernel_rfl) (fun _ _ _ h => h) (Or.inl ⟨by rfl, ?_⟩) (by assumption) ?_; rotate_left; (focus (intro w hSw; (try dsimp only at hSw); go_simp; (try with_reducible rfl))); (try simp only [Act.put, List.setIfInBounds_toArray, List.set_cons_zero, List.set_cons_succ]))
  (refine wpAnyH_done (by kernel_rfl) ?_ _)
  have o2 : Only [fb, mb] w w1 := ⟨o1.os, o1.tape, o1.output, o1.size, o1.block⟩
  have HX1 := Lib.hid (HX.out.fs HH.out o2)
  have HO := Lib.hid (OnlyB.fs o2 hbw)
  have HH1 := Lib.hid h1
  have hsz := o2.size
  clear hHeld h1 o1 o2 c2
  by_cases h0 : e0 = 0
  · subst h0
    rw [if_pos rfl] at HS
    go_wp2_with fail
    refine (to_x HH1.out HX1.out hw (by omega) 2).mono ?_
    rintro e w2 h
    obtain rfl := h.ret
    have HD := Lib.hid (h.after HO.out)
    clear h
    go_wp2_with fail
    go_ret
    rw [HS.out]
    exact HD.out
  have hb0 : (e0 == 0) = false := by rw [beq_eq_false_iff_ne]; exact h0
  rw [if_neg h0] at HS
  by_cases h2 : e0 = 2
  · subst h2
    rw [if_pos rfl] at HS
    go_wp2_with fail
    refine (end_x HH1.out HX1.out hw (by omega) 4).mono ?_
    rintro e w2 h
    obtain rfl := h.ret
    have HD := Lib.hid (h.after HO.out)
    clear h
    go_wp2_with fail
    go_ret
    rw [HS.out]
    exact HD.out
  have hb2 : (e0 == 2) = false := by rw [beq_eq_false_iff_ne]; exact h2
  rw [if_neg h2] at HS
  go_wp2_with fail
  refine (end_x HH1.out HX1.out hw (by omega) 3).mono ?_
  rintro e w2 h
  obtain rfl := h.ret
  have HD := Lib.hid (h.after HO.out)
  clear h
  go_wp2_with fail
  go_ret
  rw [HS.out]
  exact HD.out
set_option maxRecDepth 100000 in
set_option maxHeartbeats 2000000 in
theorem fixstep2_any {w0 w : World} {base fb mb xb k : Nat} {S : Fs} {s : Fix} (ds : List Dn) (r : List Int) (hH : FsH w0 w fb mb S k) (hX : FixAt w base xb s) (hw : w0.heap.size ≤ base) (hbw : base ≤ w.heap.size) (hat : s.at_ = 2) (hk : k ≤ 4999) :
    Calls Tryz.prog 13 #[.pointer (some ⟨xb, 0, none⟩), .pointer (some ⟨fb, 0, none⟩)] w fun e w' => XDid w0 base fb mb xb w w' e (stepX ds r S s).1 (stepX ds r S s).2.2 (k + 1) (stepX ds r S s).2.1 := by
  have HH := Lib.hid hH
  have HX := Lib.hid hX
  obtain ⟨⟨GA, gn, gc, BA, bn, bc, hblk, hgo, hbb, hbu⟩, hxb, hnm, hg4, htz, hbz⟩ := hX
  have HG := Lib.hid (grd_own hgo hnm hg4)
  have c2 : w.cell? ⟨xb, 2, none⟩ = some (.int .i64 2) := by rw [← hat]; exact hblk.cell 2
  obtain ⟨⟨⟨st, e0⟩, S'⟩, hp⟩ : ∃ p, S.moveF s.temp nmT s.gs = p := ⟨_, rfl⟩
  have HS := Lib.hid (show stepX ds r S s = if e0 ≠ 0 then (0, { s with at_ := 3 }, S') else (1, { s with at_ := 4, told := 1, tn := nmT, ts := st }, S') by
    unfold stepX; rw [hat, if_neg (by decide), if_neg (by decide), if_pos rfl, hp])
  have HP := Lib.hid hp
  have HKc := Lib.hid (fun (w' : World) (hh : w'.heap[xb]? = w.heap[xb]?) => (show w'.cell? ⟨xb, 1, none⟩ = some (.string s.temp) ∧ w'.cell? ⟨xb, 0, none⟩ = some (.slice GA gn gc) from ⟨(hblk.keep hh).cell 1, (hblk.keep hh).cell 0⟩))
  have hne := hH.ne hblk.at_ (by decide)
  have hxw := hblk.lt
  clear hblk hgo hbb hbu hnm hat hH hp
  go_enter Tryz.func13, Tryz.ntmps13
  go_upto_region 13 with fail
  (refine wp_region_held_drew (S := fun w' => w'.cell? ⟨xb, 1, none⟩ = some (.string s.temp) ∧ w'.cell? ⟨xb, 0, none⟩ = some (.slice GA gn gc)) (by kernel_rfl) (HKc.out _ rfl) (fun hHeld => ?_))
  (refine wpAnyH_take (i := 0) (oi := _) (v := ?_) (ops_at rfl) (by kernel_rfl) (by kernel_rfl) (by kernel_rfl) (fun _ _ _ h => h) (Or.inl ⟨by rfl, ?_⟩) (by assumption) ?_; rotate_left; (focus (intro w hSw; (try dsimp only at hSw); go_simp; (try with_reducible rfl))); (try simp only [Act.put, List.setIfInBounds_toArray, List.set_cons_zero, List.set_cons_succ])); (refine wpAnyH_take (i := 1) (oi := _) (v := ?_) (ops_at rfl) (by kernel_rfl) (by kernel_rfl) (by kernel_rfl) (fun _ _ _ h => h) (Or.inl ⟨by rfl, ?_⟩) (by assumption) ?_; rotate_left; (focus (intro w hSw; (try dsimp only at hSw); go_simp; (try with_reducible rfl))); (try simp only [Act.put, List.setIfInBounds_toArray, List.set_cons_zero, List.set_cons_succ])); (refine wpAnyH_take (i := 2) (oi := _) (v := ?_) (ops_at rfl) (by kernel_rfl) (by kernel_rfl) (by kernel_rfl) (fun _ _ _ h => h) (Or.inl ⟨by rfl, ?_⟩) (by assumption) ?_; rotate_left; (focus (intro w hSw; (try dsimp only at hSw); go_simp; (try with_reducible rfl))); (try simp only [Act.put, List.setIfInBounds_toArray, List.set_cons_zero, List.set_cons_succ])); (refine wpAnyH_take (i := 3) (oi := _) (v := ?_) (ops_at rfl) (by kernel_rfl) (by kernel_rfl) (by kernel_rfl) (fun _ _ _ h => h) (Or.inl ⟨by rfl, ?_⟩) (by assumption) ?_; rotate_left; (focus (intro w hSw; (try dsimp only at hSw); go_simp; (try with_reducible rfl))); (try simp only [Act.put, List.setIfInBounds_toArray, List.set_cons_zero, List.set_cons_succ])); (refine wpAnyH_take (i := 4) (oi := _) (v := ?_) (ops_at rfl) (by kernel_rfl) (by kernel_rfl) (by kernel_rfl) (fun _ _ _ h => h) (Or.inl ⟨by rfl, ?_⟩) (by assumption) ?_; rotate_left; (focus (intro w hSw; (try dsimp only at hSw); go_simp; (try with_reducible rfl))); (try simp only [Act.put, List.setIfInBounds_toArray, List.set_cons_zero, List.set_cons_succ])); (refine wpAnyH_take (i := 5) (oi := _) (v := ?_) (ops_at rfl) (by kernel_rfl) (by kernel_rfl) (by kernel_rfl) (fun _ _ _ h => h) (Or.inl ⟨by rfl, ?_⟩) (by assumption) ?_; rotate_left; (focus (intro w hSw; (try dsimp only at hSw); go_simp; (try with_reducible rfl))); (try simp only [Act.put, List.setIfInBounds_toArray, List.set_cons_zero, List.set_cons_succ])); (refine wpAnyH_take (i := 6) (oi := _) (v := ?_) (ops_at rfl) (by kernel_rfl) (by kernel_rfl) (by kernel_rfl) (fun _ _ _ h => h) (Or.inl ⟨by rfl, ?_⟩) (by assumption) ?_; rotate_left; (focus (intro w hSw; (try dsimp only at hSw); go_simp; (try with_reducible rfl))); (try simp only [Act.put, List.setIfInBounds_toArray, List.set_cons_zero, List.set_cons_succ])); (refine wpAnyH_take (i := 7) (oi := _) (v := ?_) (ops_at rfl) (by kernel_rfl) (by kernel_rfl) (by kernel_rfl) (fun _ _ _ h => h) (Or.inl ⟨by rfl, ?_⟩) (by assumption) ?_; rotate_left; (focus (intro w hSw; (try dsimp only at hSw); go_simp; (try with_reducible rfl))); (try simp only [Act.put, List.setIfInBounds_toArray, List.set_cons_zero, List.set_cons_succ])); (refine wpAnyH_take (i := 8) (oi := _) (v := ?_) (ops_at rfl) (by kernel_rfl) (by kernel_rfl) (by kernel_rfl) (fun _ _ _ h => h) (Or.inl ⟨by rfl, ?_⟩) (by assumption) ?_; rotate_left; (focus (intro w hSw; (try dsimp only at hSw); go_simp; (try with_reducible rfl))); (try simp only [Act.put, List.setIfInBounds_toArray, List.set_cons_zero, List.set_cons_succ]))
  (refine wpAnyH_ready (rs := [9]) (by kernel_rfl) (by simp) (AllReadyH.cons (ops_at rfl) (fun K hK => ?_) AllReadyH.nil); go_simp; (refine (move_h HH.out.drew hk s.temp nmT s.gs GA gn gc htz (by decide) (HG.out.below (Below.refl _ _).drew)).mono ?_; rintro e w1 ⟨rfl, h1, o1⟩; rw [HP.out] at h1 ⊢); refine hK.out _ _ (HKc.out _ (o1.block xb hxw hne)) (fun hHeld => ?_); clear hK K; (try simp only [Act.put, List.setIfInBounds_toArray, List.set_cons_zero, List.set_cons_succ]))
  (refine wpAnyH_take (i := 10) (oi := _) (v := ?_) (ops_at rfl) (by kernel_rfl) (by kernel_rfl) (by kernel_rfl) (fun _ _ _ h => h) (Or.inl ⟨by rfl, ?_⟩) (by assumption) ?_; rotate_left; (focus (intro w hSw; (try dsimp only at hSw); go_simp; (try with_reducible rfl))); (try simp only [Act.put, List.setIfInBounds_toArray, List.set_cons_zero, List.set_cons_succ])); (refine wpAnyH_take (i := 11) (oi := _) (v := ?_) (ops_at rfl) (by kernel_rfl) (by kernel_rfl) (by kernel_rfl) (fun _ _ _ h => h) (Or.inl ⟨by rfl, ?_⟩) (by assumption) ?_; rotate_left; (focus (intro w hSw; (try dsimp only at hSw); go_simp; (try with_reducible rfl))); (try simp only [Act.put, List.setIfInBounds_toArray, List.set_cons_zero, List.set_cons_succ])); (refine wpAnyH_take (i := 12) (oi := _) (v := ?_) (ops_at rfl) (by kernel_rfl) (by kernel_rfl) (by kernel_rfl) (fun _ _ _ h => h) (Or.inl ⟨by rfl, ?_⟩) (by assumption) ?_; rotate_left; (focus (intro w hSw; (try dsimp only at hSw); go_simp; (try with_reducible rfl))); (try simp only [Act.put, List.setIfInBounds_toArray, List.set_cons_zero, List.set_cons_succ])); (refine wpAnyH_take (i := 13) (oi := _) (v := ?_) (ops_at rfl) (by kernel_rfl) (by kernel_rfl) (by kernel_rfl) (fun _ _ _ h => h) (Or.inl ⟨by rfl, ?_⟩) (by assumption) ?_; rotate_left; (focus (intro w hSw; (try dsimp only at hSw); go_simp; (try with_reducible rfl))); (try simp only [Act.put, List.setIfInBounds_toArray, List.set_cons_zero, List.set_cons_succ])); (refine wpAnyH_take (i := 14) (oi := _) (v := ?_) (ops_at rfl) (by kernel_rfl) (by kernel_rfl) (by kernel_rfl) (fun _ _ _ h => h) (Or.inl ⟨by rfl, ?_⟩) (by assumption) ?_; rotate_left; (focus (intro w hSw; (try dsimp only at hSw); go_simp; (try with_reducible rfl))); (try simp only [Act.put, List.setIfInBounds_toArray, List.set_cons_zero, List.set_cons_succ]))
  (refine wpAnyH_done (by kernel_rfl) ?_ _)
  have o2 : Only [fb, mb] w w1 := ⟨o1.os, o1.tape, o1.output, o1.size, o1.block⟩
  have HX1 := Lib.hid (HX.out.fs HH.out o2)
  have HO := Lib.hid (OnlyB.fs o2 hbw)
  have HH1 := Lib.hid h1
  have hsz := o2.size
  clear hHeld h1 o1 o2 c2
  by_cases h0 : e0 = 0
  · subst h0
    rw [if_neg (by simp)] at HS
    obtain ⟨⟨GA', gn', gc', BA', bn', bc', q1, q2, q3, q4⟩, -, -, -, -, -⟩ := HX1.out
    have c5 : w1.cell? ⟨xb, 5, none⟩ = some (.string s.tn) := q1.cell 5
    have c6 : w1.cell? ⟨xb, 6, none⟩ = some (.int .i64 s.ts) := q1.cell 6
    have z5 := q1.frozen 5
    have z6 := q1.frozen 6
    clear q1 q2 q3 q4
    have HT := Lib.hid (tset_x HH1.out HX1.out hw (show base ≤ w1.heap.size by omega) nmT st)
    go_wp2_with fail
    obtain ⟨t1, t2, t3⟩ := HT.out
    refine (end_x t1 t2 hw (Nat.le_trans (by omega) t3.size) 1).mono ?_
    rintro e w2 h
    obtain rfl := h.ret
    have HD := Lib.hid (h.after (HO.out.trans t3))
    clear h t1 t2 t3
    go_wp2_with fail
    go_ret
    rw [HS.out]
    exact HD.out
  have hb0 : (e0 == 0) = false := by rw [beq_eq_false_iff_ne]; exact h0
  rw [if_pos h0] at HS
  go_wp2_with fail
  refine (to_x HH1.out HX1.out hw (by omega) 3).mono ?_
  rintro e w2 h
  obtain rfl := h.ret
  have HD := Lib.hid (h.after HO.out)
  clear h
  go_wp2_with fail
  go_ret
  rw [HS.out]
  exact HD.out
theorem fixstep_any {w0 w : World} {base fb mb xb k : Nat} {S : Fs} {s : Fix} (ds : List Dn) (r : List Int) (hH : FsH w0 w fb mb S k) (hX : FixAt w base xb s) (hw : w0.heap.size ≤ base) (hbw : base ≤ w.heap.size) (hk : k ≤ 4999)
    (hat : s.at_ = 0 ∨ s.at_ = 1 ∨ s.at_ = 2 ∨ s.at_ = 3) (hg : s.at_ = 0 → s.gs.length ≤ 3)
    (ht : s.at_ = 0 → (S.readF nmT).1 = 0 → (S.readF nmT).2.1 = tr ds ++ r ∧ Dns ds ∧ NoD r ∧ (tr ds ++ r).length ≤ 100000) :
    Calls Tryz.prog 13 #[.pointer (some ⟨xb, 0, none⟩), .pointer (some ⟨fb, 0, none⟩)] w fun e w' => XDid w0 base fb mb xb w w' e (stepX ds r S s).1 (stepX ds r S s).2.2 (k + 1) (stepX ds r S s).2.1 := by
  rcases hat with h | h | h | h
  · refine (fixstep0_any ds r hH hX hw hbw h (hg h) (ht h)).mono fun e w' hx => ?_
    have e : stepX ds r S s = ((readX S s ds r).1, (readX S s ds r).2, S) := by unfold stepX; rw [if_pos h]
    rw [e]
    exact ⟨hx.ret, hx.h.more (by omega) (by omega), hx.x, hx.o⟩
  · exact fixstep1_any ds r hH hX hw hbw h hk
  · exact fixstep2_any ds r hH hX hw hbw h hk
  · refine (fixstep3_any hH hX hw hbw h hk).mono fun e w' hx => ?_
    have e : stepX ds r S s = (2, { s with at_ := 4, told := 2 }, (S.dropF s.temp []).2) := by unfold stepX; rw [if_neg (by rw [h]; decide), if_neg (by rw [h]; decide), if_neg (by rw [h]; decide), if_pos h]
    rw [e]
    exact hx
set_option maxRecDepth 100000 in
theorem fixtrace_any {w : World} {base xb : Nat} {s : Fix} (hX : FixAt w base xb s) (h4 : s.at_ = 4) (h1 : s.told = 1) :
    Calls Tryz.prog 14 #[.pointer (some ⟨xb, 0, none⟩)] w fun e w' => e = .returned (.tuple #[.agg #[.string s.tn, .int .i64 s.ts], .bool true]) ∧ Below w.heap.size w w' := by
  obtain ⟨⟨GA, gn, gc, BA, bn, bc, hblk, hgo, hbb, hbu⟩, hxb, hnm, hg4, htz, hbz⟩ := hX
  have c2 : w.cell? ⟨xb, 2, none⟩ = some (.int .i64 4) := by rw [← h4]; exact hblk.cell 2
  have c3 : w.cell? ⟨xb, 3, none⟩ = some (.int .i64 1) := by rw [← h1]; exact hblk.cell 3
  have c5 : w.cell? ⟨xb, 5, none⟩ = some (.string s.tn) := hblk.cell 5
  have c6 : w.cell? ⟨xb, 6, none⟩ = some (.int .i64 s.ts) := hblk.cell 6
  have hlt := hblk.lt
  clear hblk hgo hbb hbu hnm
  go_enter Tryz.func14, Tryz.ntmps14
  go_wp2_with fail
  refine bodyPost_ret (v := .tuple #[.agg #[.string s.tn, .int .i64 s.ts], .bool true]) ?_ rfl ⟨rfl, by (repeat (first | assumption | exact Below.refl _ _ | (with_reducible apply Below.drew) | (with_reducible apply bl_drewN) | (with_reducible apply bl_alloc) | (with_reducible refine bl_then ?_ (by assumption))))⟩
  rw [results_cell_tmp rfl]
  go_simp
set_option maxHeartbeats 400000 in
theorem gclone_any {w : World} {A : Option Addr} {n c : Nat} {gs : List (ByteArray × Int)} (h : Grd w A n gs) (h0 : 0 < n) (hn : n ≤ 1000) : Calls Tryz.prog 43 #[.slice A n c] w fun e w' => ∃ X xc, e = .returned (.slice X n xc) ∧ Grd w' X n gs ∧ Below w.heap.size w w' := by
  obtain ⟨ad, rfl, -⟩ := h.rd.at_ h0
  have hlen := h.rd.len
  have hle := h.le
  have H := Lib.hid h
  clear h
  have hone : ∀ u ∈ gcells gs, u.oneCell' = true := by
    intro u hu
    unfold gcells at hu
    simp only [List.mem_flatMap] at hu
    obtain ⟨x, _, hx⟩ := hu
    simp at hx
    rcases hx with rfl | rfl <;> rfl
  go_enter Tryz.func43, Tryz.ntmps43
  have hq := @eql_slice_nil Tryz.prog _ _ Tryz.underlying53
  go_wp2_with (first
    | (at_builtin
       refine wpList_app rfl (.tmp 5) (.tmp 6) 53 rfl Tryz.underlying53 guInfo rfl (by decide) rfl (Own.lit w [] 39 2 0 (Nat.le_refl _) rfl (by decide)) rfl (H.out.rd.alloc _) hone (by omega) (by omega) (by simp) (Nat.zero_add _) (List.nil_append _) ?_
       intro X xc w1 hx1 hg1 hx2))
  go_ret
  refine ⟨X, xc, rfl, ⟨hx1.rd, H.out.len, H.out.nm, H.out.le, fun ad hA h0 => ?_⟩, ((Below.refl _ _).alloc (Nat.le_refl _) _).grown hg1 (by simp) (by intro k hk; simp [ob] at hk; omega)⟩
  obtain ⟨g, hg, _⟩ := hx1.some h0
  rw [hg] at hA; injection hA with hA; subst hA; exact ⟨_, _, rfl⟩
set_option maxRecDepth 100000 in
set_option maxHeartbeats 2000000 in
theorem tell_any {w0 w : World} {fb mb k : Nat} {S : Fs} (hH : FsH w0 w fb mb S k) (hk : k ≤ 4999) (d : Dn) (A : Option Addr) (m c : Nat) (hr : d.right = true) (hp : Bs w A m d.p) (gs : List (ByteArray × Int)) (GA : Option Addr) (gn gc : Nat) (hg : Grd w GA gn gs) (h0 : 0 < gn) (hgn : gn ≤ 1000) :
    Calls Tryz.prog 18 #[.pointer (some ⟨fb, 0, none⟩), dnV d A m c, .slice GA gn gc] w fun e w' => e = .returned (.tuple #[.int .i64 (S.appF nmT (framed d.raw) gs).1.1, .int .i64 (S.appF nmT (framed d.raw) gs).1.2]) ∧ FsH w0 w' fb mb (S.appF nmT (framed d.raw) gs).2 (k + 1) ∧ Only [fb, mb] w w' := by
  have HH := Lib.hid hH
  have HP := Lib.hid hp
  have HG := Lib.hid hg
  have hb := Dn.right_bd hr
  have hrl := Dn.raw_len d
  have Hd := Lib.hid (show d.bytes = d.raw by simp [Dn.bytes, hr])
  have HBy := Lib.hid (Dn.raw_bytes hp.by_)
  have htz : d.t.size ≤ 140737488355328 := by omega
  have hdl : d.raw.length ≤ 10000 := by omega
  have hdl0 : 0 < d.raw.length := by omega
  clear hH hp hg hrl
  go_enter Tryz.func18, Tryz.ntmps18
  unfold dnV
  go_wp2_with fail
  refine (done_any d A m c _ htz (HP.out.alloc _)).mono ?_
  rintro e w1 ⟨X, n, xc, rfl, hn, hown, hnone, hb1⟩
  rw [Hd.out] at hn hown hnone
  have hn' := hn.out
  have HB := Lib.hid (bl_then (bl_alloc (Below.refl _ _)) hb1)
  have HX := Lib.hid (own_bs hown HBy.out (by omega))
  have hn0 : ((n : Int) == 0) = false := by rw [beq_eq_false_iff_ne]; omega
  clear hn hown hnone hb1
  go_wp2_with fail
  refine (fput_any none X 0 n 0 xc [] d.raw _ (Bs.nil _ _) HX.out (by omega)).mono ?_
  rintro e w2 ⟨Y, ny, yc, rfl, hny, howny, hnoy, hb2⟩
  rw [List.nil_append] at hny howny hnoy
  have hny' := hny.out
  rw [framed_len] at hny'
  have hcap := howny.cap
  have HY := Lib.hid (own_bs howny (by unfold framed bod; exact bytes_app (bytes_app (Cod.six_bytes _) HBy.out) (sum4_bytes _)) (by omega))
  have HU := Lib.hid (show U8 w2 Y ny from U8.of_own howny)
  have HB2 := Lib.hid (HB.out.trans (hb2.mono HB.out.size))
  clear hny howny hnoy hb2
  go_wp2_with fail
  refine (gclone_any (HG.out.below HB2.out) h0 hgn).mono ?_
  rintro e w3 ⟨Z, zc, rfl, hgz, hb3⟩
  have HB3 := Lib.hid (HB2.out.trans (hb3.mono HB2.out.size))
  have HY3 := Lib.hid (HY.out.below hb3)
  have HU3 := Lib.hid (HU.out.below hb3)
  have HG3 := Lib.hid hgz
  clear hgz hb3
  go_wp2_with fail
  refine (append_h (HH.out.below HB3.out) hk nmT (framed d.raw) gs Y ny yc Z gn zc (by decide) (by omega) hcap HY3.out HU3.out HG3.out).mono ?_
  rintro e w4 ⟨rfl, h4, o4⟩
  have H4 := Lib.hid h4
  have HO := Lib.hid ((Only.of_below HB3.out [fb, mb]).trans o4)
  clear h4 o4
  go_wp2_with fail
  go_ret2
  exact ⟨rfl, H4.out, HO.out⟩
set_option maxRecDepth 100000 in
set_option maxHeartbeats 2000000 in
theorem tell_bad {w : World} (p g : Value) (d : Dn) (A : Option Addr) (m c : Nat) (hr : d.right = false) (htz : d.t.size ≤ 140737488355328) (hp : Bs w A m d.p) :
    Calls Tryz.prog 18 #[p, dnV d A m c, g] w fun e w' => e = .returned (.tuple #[.int .i64 0, .int .i64 6]) ∧ Below w.heap.size w w' := by
  have HP := Lib.hid hp
  have Hd := Lib.hid (show d.bytes = [] by simp [Dn.bytes, hr])
  clear hp hr
  go_enter Tryz.func18, Tryz.ntmps18
  unfold dnV
  go_wp2_with fail
  refine (done_any d A m c _ htz (HP.out.alloc _)).mono ?_
  rintro e w1 ⟨X, n, xc, rfl, hn, hown, hnone, hb1⟩
  rw [Hd.out] at hn
  have hn' := hn.out
  have hn0 : n = 0 := by simpa using hn'.symm
  subst hn0
  have HB := Lib.hid (bl_then (bl_alloc (Below.refl _ _)) hb1)
  clear hn hn' hown hnone hb1
  go_wp2_with fail
  go_ret2
  exact ⟨rfl, HB.out⟩
end Go.Proofs.YtahdeighocmijaaGreat
