/- The document's files (fettleref9): Read. -/
import Derived.Test.YtkbgedaogfcdnaaQninG
namespace Go.Proofs.Ytkbgedaogfcdnaa
set_option linter.unusedSimpArgs false
set_option linter.unusedVariables false
open Go.RowKit
open Crc (Bytes)
section
variable {w : World} {base qb k : Nat} {S : Fs}
set_option maxRecDepth 100000 in
set_option maxHeartbeats 2000000 in
theorem qread_any (h : QAt w base qb S k) (hk : k ≤ 40000) (s : ByteArray) (hsz : s.size ≤ 1000) (hby : (S.by s).length ≤ 100000000) :
    Calls Try.prog 24 #[.pointer (some ⟨qb, 0, none⟩), .string s] w fun e w' => ∃ B m d, e = .returned (.tuple #[.slice B m d, .int .i64 (S.readF s).2.2, .int .i64 (S.readF s).1]) ∧ (S.readF s).2.1.length = m ∧ Own w' w.heap.size 5 1 B m d (ints .u8 (S.readF s).2.1) ∧ Below w.heap.size w w' := by
  obtain ⟨A, n, c, xs, ho⟩ := h.op (by omega)
  have hl := ho.qb_.row.len
  have HO := Lib.hid ho
  have Hsz := Lib.hid (show s.size ≤ 140737488355328 by omega)
  have c0 : w.cell? ⟨qb, 0, none⟩ = some (.slice A n c) := ho.qb_.blk.cell 0
  clear ho h hsz
  go_enter Try.func24, Try.ntmps24
  go_wp2_with fail
  refine (qat_any s HO.out.qb_).mono ?_
  rintro e w' ⟨r, rfl, hr, rfl⟩
  have HR := Lib.hid hr
  clear hr
  go_wp2_with fail
  refine (rfile4_any s _ Hsz.out).mono ?_
  rintro e w' ⟨rfl, rfl⟩
  cases hfb : fileB s
  · have E := Lib.hid (show S.readF s = (1, [], 0) by unfold Fs.readF; rw [if_pos hfb])
    clear hfb
    go_wp2_with fail
    go_ret3
    rw [E.out]
    exact ⟨none, 0, 0, rfl, rfl, Own.nil _ _ _ _, Below.refl _ _⟩
  · have E0 := Lib.hid (show S.readF s = if S.has s = false then (4, [], 0) else (0, S.by s, S.st s) by unfold Fs.readF; rw [if_neg (by rw [hfb]; simp)])
    clear hfb
    rcases HR.out with ⟨rfl, hno⟩ | ⟨i, x, rfl, hx, he⟩
    · have E := Lib.hid (E0.out.trans (if_pos (HO.out.qs.no hno).1))
      clear hno HR
      go_wp2_with fail
      go_ret3
      rw [E.out]
      exact ⟨none, 0, 0, rfl, rfl, Own.nil _ _ _ _, Below.refl _ _⟩
    · have hi := (List.getElem?_eq_some_iff.1 hx).1
      obtain ⟨g, x2, rfl, hg, hx2, q1, q2, q3, hok⟩ := HO.out.qb_.row.get (show i < n by omega)
      rw [hx] at hx2
      injection hx2 with hx2
      subst hx2
      have his := HO.out.qs.is (mem_of_get hx) he
      have E := Lib.hid (E0.out.trans (if_neg (by rw [his.1]; simp)))
      have HI := Lib.hid his
      have hxl := hok.bs.len
      have hxb : x.n ≤ 100000000 := by rw [← hxl, ← his.2.1]; exact hby
      have Hok := Lib.hid hok
      have hii : (i : Int) < (n : Int) := by omega
      have hi0 : ¬ (i : Int) < 0 := by omega
      obtain ⟨st, hst⟩ : ∃ st, x.st = st := ⟨_, rfl⟩
      obtain ⟨XA, hXA⟩ : ∃ XA, x.A = XA := ⟨_, rfl⟩
      obtain ⟨xn, hxn⟩ : ∃ xn, x.n = xn := ⟨_, rfl⟩
      obtain ⟨xc, hxc⟩ : ∃ xc, x.c = xc := ⟨_, rfl⟩
      rw [hst] at q3
      rw [hXA, hxn, hxc] at q2
      have HB := Lib.hid (show Bs w XA xn x.b by rw [← hXA, ← hxn]; exact hok.bs)
      have HSt := Lib.hid hst
      have hxb2 : xn ≤ 100000000 := by rw [← hxn]; exact hxb
      have hxl2 := Lib.hid (show x.b.length = xn by rw [hxl, hxn])
      have HS := Lib.hid (fun (w' : World) (hb : Below w.heap.size w w') => (show w'.cell? ⟨qb, 0, none⟩ = some (.slice (some ⟨g, 0, none⟩) n c) ∧ w'.cell? ⟨g, i * 3 + 1, none⟩ = some (.slice XA xn xc) ∧ w'.cell? ⟨g, i * 3 + 2, none⟩ = some (.int .i64 st) ∧ Below w.heap.size w w' from ⟨(HO.out.qb_.blk.below hb).cell 0, (hb.cell (p := ⟨g, i * 3 + 1, none⟩) hg).trans q2, (hb.cell (p := ⟨g, i * 3 + 2, none⟩) hg).trans q3, hb⟩))
      clear hx he hok his hxl hxb hst hXA hxn hxc q1 q2 q3 c0 HR hby
      go_upto_region 6 with fail
      have h00 := HS.out _ (Below.refl _ _).drew
      (refine wp_region_held_drew (S := fun w' => w'.cell? ⟨qb, 0, none⟩ = some (.slice (some ⟨g, 0, none⟩) n c) ∧ w'.cell? ⟨g, i * 3 + 1, none⟩ = some (.slice XA xn xc) ∧ w'.cell? ⟨g, i * 3 + 2, none⟩ = some (.int .i64 st) ∧ Below w.heap.size w w') (by kernel_rfl) (h00) (fun hHeld => ?_))
      (refine wpAnyH_take (i := 1) (oi := _) (v := ?_) (ops_at rfl) (by kernel_rfl) (by kernel_rfl) (by kernel_rfl) (fun _ _ _ h => h) (Or.inl ⟨by rfl, ?_⟩) (by assumption) ?_; rotate_left; (focus (intro w hSw; (try dsimp only at hSw); go_simp; (try with_reducible rfl))); (try simp only [Act.put, List.setIfInBounds_toArray, List.set_cons_zero, List.set_cons_succ])); (refine wpAnyH_take (i := 2) (oi := _) (v := ?_) (ops_at rfl) (by kernel_rfl) (by kernel_rfl) (by kernel_rfl) (fun _ _ _ h => h) (Or.inl ⟨by rfl, ?_⟩) (by assumption) ?_; rotate_left; (focus (intro w hSw; (try dsimp only at hSw); go_simp; (try with_reducible rfl))); (try simp only [Act.put, List.setIfInBounds_toArray, List.set_cons_zero, List.set_cons_succ])); (refine wpAnyH_take (i := 3) (oi := _) (v := ?_) (ops_at rfl) (by kernel_rfl) (by kernel_rfl) (by kernel_rfl) (fun _ _ _ h => h) (Or.inl ⟨by rfl, ?_⟩) (by assumption) ?_; rotate_left; (focus (intro w hSw; (try dsimp only at hSw); go_simp; (try with_reducible rfl))); (try simp only [Act.put, List.setIfInBounds_toArray, List.set_cons_zero, List.set_cons_succ])); (refine wpAnyH_take (i := 4) (oi := _) (v := ?_) (ops_at rfl) (by kernel_rfl) (by kernel_rfl) (by kernel_rfl) (fun _ _ _ h => h) (Or.inl ⟨by rfl, ?_⟩) (by assumption) ?_; rotate_left; (focus (intro w hSw; (try dsimp only at hSw); go_simp; (try with_reducible rfl))); (try simp only [Act.put, List.setIfInBounds_toArray, List.set_cons_zero, List.set_cons_succ])); (refine wpAnyH_take (i := 5) (oi := _) (v := ?_) (ops_at rfl) (by kernel_rfl) (by kernel_rfl) (by kernel_rfl) (fun _ _ _ h => h) (Or.inl ⟨by rfl, ?_⟩) (by assumption) ?_; rotate_left; (focus (intro w hSw; (try dsimp only at hSw); go_simp; (try with_reducible rfl))); (try simp only [Act.put, List.setIfInBounds_toArray, List.set_cons_zero, List.set_cons_succ])); (refine wpAnyH_take (i := 6) (oi := _) (v := ?_) (ops_at rfl) (by kernel_rfl) (by kernel_rfl) (by kernel_rfl) (fun _ _ _ h => h) (Or.inl ⟨by rfl, ?_⟩) (by assumption) ?_; rotate_left; (focus (intro w hSw; (try dsimp only at hSw); go_simp; (try with_reducible rfl))); (try simp only [Act.put, List.setIfInBounds_toArray, List.set_cons_zero, List.set_cons_succ])); (refine wpAnyH_take (i := 7) (oi := _) (v := ?_) (ops_at rfl) (by kernel_rfl) (by kernel_rfl) (by kernel_rfl) (fun _ _ _ h => h) (Or.inl ⟨by rfl, ?_⟩) (by assumption) ?_; rotate_left; (focus (intro w hSw; (try dsimp only at hSw); go_simp; (try with_reducible rfl))); (try simp only [Act.put, List.setIfInBounds_toArray, List.set_cons_zero, List.set_cons_succ])); (refine wpAnyH_take (i := 8) (oi := _) (v := ?_) (ops_at rfl) (by kernel_rfl) (by kernel_rfl) (by kernel_rfl) (fun _ _ _ h => h) (Or.inl ⟨by rfl, ?_⟩) (by assumption) ?_; rotate_left; (focus (intro w hSw; (try dsimp only at hSw); go_simp; (try with_reducible rfl))); (try simp only [Act.put, List.setIfInBounds_toArray, List.set_cons_zero, List.set_cons_succ])); (refine wpAnyH_take (i := 10) (oi := _) (v := ?_) (ops_at rfl) (by kernel_rfl) (by kernel_rfl) (by kernel_rfl) (fun _ _ _ h => h) (Or.inl ⟨by rfl, ?_⟩) (by assumption) ?_; rotate_left; (focus (intro w hSw; (try dsimp only at hSw); go_simp; (try with_reducible rfl))); (try simp only [Act.put, List.setIfInBounds_toArray, List.set_cons_zero, List.set_cons_succ])); (refine wpAnyH_take (i := 11) (oi := _) (v := ?_) (ops_at rfl) (by kernel_rfl) (by kernel_rfl) (by kernel_rfl) (fun _ _ _ h => h) (Or.inl ⟨by rfl, ?_⟩) (by assumption) ?_; rotate_left; (focus (intro w hSw; (try dsimp only at hSw); go_simp; (try with_reducible rfl))); (try simp only [Act.put, List.setIfInBounds_toArray, List.set_cons_zero, List.set_cons_succ])); (refine wpAnyH_take (i := 12) (oi := _) (v := ?_) (ops_at rfl) (by kernel_rfl) (by kernel_rfl) (by kernel_rfl) (fun _ _ _ h => h) (Or.inl ⟨by rfl, ?_⟩) (by assumption) ?_; rotate_left; (focus (intro w hSw; (try dsimp only at hSw); go_simp; (try with_reducible rfl))); (try simp only [Act.put, List.setIfInBounds_toArray, List.set_cons_zero, List.set_cons_succ])); (refine wpAnyH_take (i := 13) (oi := _) (v := ?_) (ops_at rfl) (by kernel_rfl) (by kernel_rfl) (by kernel_rfl) (fun _ _ _ h => h) (Or.inl ⟨by rfl, ?_⟩) (by assumption) ?_; rotate_left; (focus (intro w hSw; (try dsimp only at hSw); go_simp; (try with_reducible rfl))); (try simp only [Act.put, List.setIfInBounds_toArray, List.set_cons_zero, List.set_cons_succ])); (refine wpAnyH_take (i := 14) (oi := _) (v := ?_) (ops_at rfl) (by kernel_rfl) (by kernel_rfl) (by kernel_rfl) (fun _ _ _ h => h) (Or.inl ⟨by rfl, ?_⟩) (by assumption) ?_; rotate_left; (focus (intro w hSw; (try dsimp only at hSw); go_simp; (try with_reducible rfl))); (try simp only [Act.put, List.setIfInBounds_toArray, List.set_cons_zero, List.set_cons_succ])); (refine wpAnyH_take (i := 15) (oi := _) (v := ?_) (ops_at rfl) (by kernel_rfl) (by kernel_rfl) (by kernel_rfl) (fun _ _ _ h => h) (Or.inl ⟨by rfl, ?_⟩) (by assumption) ?_; rotate_left; (focus (intro w hSw; (try dsimp only at hSw); go_simp; (try with_reducible rfl))); (try simp only [Act.put, List.setIfInBounds_toArray, List.set_cons_zero, List.set_cons_succ])); (refine wpAnyH_take (i := 16) (oi := _) (v := ?_) (ops_at rfl) (by kernel_rfl) (by kernel_rfl) (by kernel_rfl) (fun _ _ _ h => h) (Or.inl ⟨by rfl, ?_⟩) (by assumption) ?_; rotate_left; (focus (intro w hSw; (try dsimp only at hSw); go_simp; (try with_reducible rfl))); (try simp only [Act.put, List.setIfInBounds_toArray, List.set_cons_zero, List.set_cons_succ])); (refine wpAnyH_take (i := 17) (oi := _) (v := ?_) (ops_at rfl) (by kernel_rfl) (by kernel_rfl) (by kernel_rfl) (fun _ _ _ h => h) (Or.inl ⟨by rfl, ?_⟩) (by assumption) ?_; rotate_left; (focus (intro w hSw; (try dsimp only at hSw); go_simp; (try with_reducible rfl))); (try simp only [Act.put, List.setIfInBounds_toArray, List.set_cons_zero, List.set_cons_succ]))
      clear h00
      (refine wpAnyH_ready (rs := [0]) (by kernel_rfl) (by simp) (AllReadyH.cons (ops_at rfl) (fun K hK => ?_) AllReadyH.nil); go_simp; skip; refine hK.out _ _ (HS.out _ (hHeld.2.2.2.alloc hHeld.2.2.2.size _)) (fun hHeld => ?_); clear hK K; (try simp only [Act.put, List.setIfInBounds_toArray, List.set_cons_zero, List.set_cons_succ]))
      (refine wpAnyH_ready (rs := [9]) (by kernel_rfl) (by simp) (AllReadyH.cons (ops_at rfl) (fun K hK => ?_) AllReadyH.nil); rw [if_pos (by rfl)]; refine wp_app (.tmp 18) (.tmp 26) 30 rfl Try.underlying30 u8i rfl (by decide) rfl (Own.lit w.drew [] 5 1 0 (Nat.le_refl _) rfl (by decide)) rfl (HB.out.below hHeld.2.2.2).rd (ints_one _ _) (by omega) (by omega) (by simp) (Nat.zero_add _) (List.nil_append _) ?_; intro Y yc w5 hown5 hg5 _; have HB5 := Lib.hid (hHeld.2.2.2.grown hg5 (by simp) (fun j hj => by cases hj; exact Nat.le_refl _)); have HY5 := Lib.hid (show Own w5 w.heap.size 5 1 Y xn yc (ints .u8 x.b) from hown5); clear hown5 hg5; refine hK.out _ _ (HS.out _ HB5.out) (fun hHeld => ?_); clear hK K; (try simp only [Act.put, List.setIfInBounds_toArray, List.set_cons_zero, List.set_cons_succ]))
      (refine wpAnyH_take (i := 18) (oi := _) (v := ?_) (ops_at rfl) (by kernel_rfl) (by kernel_rfl) (by kernel_rfl) (fun _ _ _ h => h) (Or.inl ⟨by rfl, ?_⟩) (by assumption) ?_; rotate_left; (focus (intro w hSw; (try dsimp only at hSw); go_simp; (try with_reducible rfl))); (try simp only [Act.put, List.setIfInBounds_toArray, List.set_cons_zero, List.set_cons_succ])); (refine wpAnyH_take (i := 19) (oi := _) (v := ?_) (ops_at rfl) (by kernel_rfl) (by kernel_rfl) (by kernel_rfl) (fun _ _ _ h => h) (Or.inl ⟨by rfl, ?_⟩) (by assumption) ?_; rotate_left; (focus (intro w hSw; (try dsimp only at hSw); go_simp; (try with_reducible rfl))); (try simp only [Act.put, List.setIfInBounds_toArray, List.set_cons_zero, List.set_cons_succ])); (refine wpAnyH_take (i := 20) (oi := _) (v := ?_) (ops_at rfl) (by kernel_rfl) (by kernel_rfl) (by kernel_rfl) (fun _ _ _ h => h) (Or.inl ⟨by rfl, ?_⟩) (by assumption) ?_; rotate_left; (focus (intro w hSw; (try dsimp only at hSw); go_simp; (try with_reducible rfl))); (try simp only [Act.put, List.setIfInBounds_toArray, List.set_cons_zero, List.set_cons_succ]))
      (refine wpAnyH_done (by kernel_rfl) ?_ _)
      clear hHeld
      go_wp2_with fail
      go_ret3
      rw [E.out]
      exact ⟨Y, xn, yc, by rw [HI.out.2.2, HSt.out]; rfl, by rw [HI.out.2.1]; exact hxl2.out, by rw [HI.out.2.1]; exact HY5.out, HB5.out⟩
end
end Go.Proofs.Ytkbgedaogfcdnaa
