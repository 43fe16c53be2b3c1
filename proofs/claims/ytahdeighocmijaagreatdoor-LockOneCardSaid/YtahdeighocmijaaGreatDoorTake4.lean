/- Locks: Take.Step, Held, New. -/
import Derived.Test.YtahdeighocmijaaGreatDoorTake3
import Derived.Test.YtahdeighocmijaaGreatDoorTemp
import Derived.Laws.ResultCell
namespace Go.Proofs.YtahdeighocmijaaGreatDoor
set_option linter.unusedSimpArgs false
set_option linter.unusedVariables false
open Go.RowKit
open Crc (Bytes)

theorem results_cell2_tmp {fn : Func} {p q u : Tmp} {ty ty2 : TypeId} (h : fn.results = #[.cell p ty, .cell q ty2, .tmp u]) (tmps : Array Value) (P : Program) (w : World) :
    (results fn tmps).run P w =
      ((asAddr (tmps.getD p undef)).run P w).andThen fun a w₁ => ((loadVar ty a).run P w₁).andThen fun v w₂ => ((asAddr (tmps.getD q undef)).run P w₂).andThen fun b w₃ => ((loadVar ty2 b).run P w₃).andThen fun x w₄ => .ok (.tuple #[v, x, tmps.getD u undef]) w₄ := by
  simp only [results, h]
  simp [Sem.run_bind, Result.andThen]
theorem Grd.oneW {w : World} {t : TypeId} {g : Nat} (hg : g = w.heap.size) (s : ByteArray) (hs : s.size ≤ 1000) (st : Int) : Grd (w.alloc (.cells #[.string s, .int .i64 st] t)) (some ⟨g, 0, none⟩) 1 [(s, st)] := Grd.one hg s (by omega) st
section
variable {w0 w : World} {fb mb tb n : Nat} {S : Fs} {t : Tk}
theorem TDid.more (w' : World) {e : Ending} {k : Int} (h : TDid w0 fb mb tb w w' e k S n t) (hn : n ≤ 4999) : TDid w0 fb mb tb w w' e k S (n + 1) t := ⟨h.ret, h.h.more (by omega) (by omega), h.x, h.o⟩
set_option maxRecDepth 100000 in
set_option maxHeartbeats 4000000 in
theorem tstep3_any (hH : FsH w0 w fb mb S n) (hX : TkAt w tb t) (hw : w0.heap.size ≤ tb) (hf : t.file.size ≤ 1000) (hp : t.temp.size ≤ 1000) (hg : t.gn.size ≤ 1000) (now : Int) (hn : n ≤ 4999) (hat : t.at_ = 3) :
    Calls Tryz.prog 18 #[.pointer (some ⟨tb, 0, none⟩), .pointer (some ⟨fb, 0, none⟩), .int .i64 now] w fun e w' => TDid w0 fb mb tb w w' e (stepT now S t).1 (stepT now S t).2.2 (n + 1) (stepT now S t).2.1 := by
  have hb : Blk w tb 85 t.cells := hX
  have c5 : w.cell? ⟨tb, 5, none⟩ = some (.int .i64 3) := by rw [← hat]; exact hb.cell 5
  obtain ⟨⟨⟨st, e0⟩, S'⟩, hpq⟩ : ∃ p, S.moveF t.temp t.file [(t.gn, t.gs)] = p := ⟨_, rfl⟩
  have HP := Lib.hid hpq
  have HM := Lib.hid (show stepT now S t = if e0 ≠ 0 then (0, { t with at_ := 4 }, S') else (1, t.held st, S') by rw [stepT_3 hat, hpq])
  have HKc := Lib.hid (fun (w' : World) (hh : w'.heap[tb]? = w.heap[tb]?) => (show w'.cell? ⟨tb, 0, none⟩ = some (.string t.file) ∧ w'.cell? ⟨tb, 1, none⟩ = some (.string t.temp) ∧ w'.cell? ⟨tb, 7, none⟩ = some (.string t.gn) ∧ w'.cell? ⟨tb, 8, none⟩ = some (.int .i64 t.gs) from ⟨(hb.keep hh).cell 0, (hb.keep hh).cell 1, (hb.keep hh).cell 7, (hb.keep hh).cell 8⟩))
  have htb := hb.lt
  have hne := hH.ne hb.at_ (by decide)
  have HX := Lib.hid hb
  have HH := Lib.hid hH
  clear hH hX hb hpq hat
  obtain ⟨mx, hmx⟩ : ∃ mx, (if now < 0 then (0 : Int) else now) = mx := ⟨_, rfl⟩
  obtain ⟨cn, hcn⟩ : ∃ cn, (if 549755813888 < mx then (549755813888 : Int) else mx) = cn := ⟨_, rfl⟩
  go_enter Tryz.func18, Tryz.ntmps18
  go_upto_region 10 with fail
  clear hmx hcn
  have hal := fun o => Below.heap_alloc w o tb htb
  (refine wp_region_held_drew (S := fun w' => w'.cell? ⟨tb, 0, none⟩ = some (.string t.file) ∧ w'.cell? ⟨tb, 1, none⟩ = some (.string t.temp) ∧ w'.cell? ⟨tb, 7, none⟩ = some (.string t.gn) ∧ w'.cell? ⟨tb, 8, none⟩ = some (.int .i64 t.gs)) (by kernel_rfl) (HKc.out _ rfl) (fun hHeld => ?_))
  (refine wpAnyH_take (i := 0) (oi := _) (v := ?_) (ops_at rfl) (by kernel_rfl) (by kernel_rfl) (by kernel_rfl) (fun _ _ _ h => h) (Or.inl ⟨by rfl, ?_⟩) (by assumption) ?_; rotate_left; (focus (intro w hSw; (try dsimp only at hSw); go_simp; (try with_reducible rfl))); (try simp only [Act.put, List.setIfInBounds_toArray, List.set_cons_zero, List.set_cons_succ])); (refine wpAnyH_take (i := 1) (oi := _) (v := ?_) (ops_at rfl) (by kernel_rfl) (by kernel_rfl) (by kernel_rfl) (fun _ _ _ h => h) (Or.inl ⟨by rfl, ?_⟩) (by assumption) ?_; rotate_left; (focus (intro w hSw; (try dsimp only at hSw); go_simp; (try with_reducible rfl))); (try simp only [Act.put, List.setIfInBounds_toArray, List.set_cons_zero, List.set_cons_succ])); (refine wpAnyH_take (i := 2) (oi := _) (v := ?_) (ops_at rfl) (by kernel_rfl) (by kernel_rfl) (by kernel_rfl) (fun _ _ _ h => h) (Or.inl ⟨by rfl, ?_⟩) (by assumption) ?_; rotate_left; (focus (intro w hSw; (try dsimp only at hSw); go_simp; (try with_reducible rfl))); (try simp only [Act.put, List.setIfInBounds_toArray, List.set_cons_zero, List.set_cons_succ])); (refine wpAnyH_take (i := 3) (oi := _) (v := ?_) (ops_at rfl) (by kernel_rfl) (by kernel_rfl) (by kernel_rfl) (fun _ _ _ h => h) (Or.inl ⟨by rfl, ?_⟩) (by assumption) ?_; rotate_left; (focus (intro w hSw; (try dsimp only at hSw); go_simp; (try with_reducible rfl))); (try simp only [Act.put, List.setIfInBounds_toArray, List.set_cons_zero, List.set_cons_succ])); (refine wpAnyH_take (i := 4) (oi := _) (v := ?_) (ops_at rfl) (by kernel_rfl) (by kernel_rfl) (by kernel_rfl) (fun _ _ _ h => h) (Or.inl ⟨by rfl, ?_⟩) (by assumption) ?_; rotate_left; (focus (intro w hSw; (try dsimp only at hSw); go_simp; (try with_reducible rfl))); (try simp only [Act.put, List.setIfInBounds_toArray, List.set_cons_zero, List.set_cons_succ])); (refine wpAnyH_take (i := 5) (oi := _) (v := ?_) (ops_at rfl) (by kernel_rfl) (by kernel_rfl) (by kernel_rfl) (fun _ _ _ h => h) (Or.inl ⟨by rfl, ?_⟩) (by assumption) ?_; rotate_left; (focus (intro w hSw; (try dsimp only at hSw); go_simp; (try with_reducible rfl))); (try simp only [Act.put, List.setIfInBounds_toArray, List.set_cons_zero, List.set_cons_succ])); (refine wpAnyH_take (i := 6) (oi := _) (v := ?_) (ops_at rfl) (by kernel_rfl) (by kernel_rfl) (by kernel_rfl) (fun _ _ _ h => h) (Or.inl ⟨by rfl, ?_⟩) (by assumption) ?_; rotate_left; (focus (intro w hSw; (try dsimp only at hSw); go_simp; (try with_reducible rfl))); (try simp only [Act.put, List.setIfInBounds_toArray, List.set_cons_zero, List.set_cons_succ])); (refine wpAnyH_take (i := 7) (oi := _) (v := ?_) (ops_at rfl) (by kernel_rfl) (by kernel_rfl) (by kernel_rfl) (fun _ _ _ h => h) (Or.inl ⟨by rfl, ?_⟩) (by assumption) ?_; rotate_left; (focus (intro w hSw; (try dsimp only at hSw); go_simp; (try with_reducible rfl))); (try simp only [Act.put, List.setIfInBounds_toArray, List.set_cons_zero, List.set_cons_succ])); (refine wpAnyH_take (i := 8) (oi := _) (v := ?_) (ops_at rfl) (by kernel_rfl) (by kernel_rfl) (by kernel_rfl) (fun _ _ _ h => h) (Or.inl ⟨by rfl, ?_⟩) (by assumption) ?_; rotate_left; (focus (intro w hSw; (try dsimp only at hSw); go_simp; (try with_reducible rfl))); (try simp only [Act.put, List.setIfInBounds_toArray, List.set_cons_zero, List.set_cons_succ])); (refine wpAnyH_take (i := 9) (oi := _) (v := ?_) (ops_at rfl) (by kernel_rfl) (by kernel_rfl) (by kernel_rfl) (fun _ _ _ h => h) (Or.inl ⟨by rfl, ?_⟩) (by assumption) ?_; rotate_left; (focus (intro w hSw; (try dsimp only at hSw); go_simp; (try with_reducible rfl))); (try simp only [Act.put, List.setIfInBounds_toArray, List.set_cons_zero, List.set_cons_succ])); (refine wpAnyH_take (i := 10) (oi := _) (v := ?_) (ops_at rfl) (by kernel_rfl) (by kernel_rfl) (by kernel_rfl) (fun _ _ _ h => h) (Or.inl ⟨by rfl, ?_⟩) (by assumption) ?_; rotate_left; (focus (intro w hSw; (try dsimp only at hSw); go_simp; (try with_reducible rfl))); (try simp only [Act.put, List.setIfInBounds_toArray, List.set_cons_zero, List.set_cons_succ])); (refine wpAnyH_take (i := 11) (oi := _) (v := ?_) (ops_at rfl) (by kernel_rfl) (by kernel_rfl) (by kernel_rfl) (fun _ _ _ h => h) (Or.inl ⟨by rfl, ?_⟩) (by assumption) ?_; rotate_left; (focus (intro w hSw; (try dsimp only at hSw); go_simp; (try with_reducible rfl))); (try simp only [Act.put, List.setIfInBounds_toArray, List.set_cons_zero, List.set_cons_succ])); (refine wpAnyH_take (i := 12) (oi := _) (v := ?_) (ops_at rfl) (by kernel_rfl) (by kernel_rfl) (by kernel_rfl) (fun _ _ _ h => h) (Or.inl ⟨by rfl, ?_⟩) (by assumption) ?_; rotate_left; (focus (intro w hSw; (try dsimp only at hSw); go_simp; (try with_reducible rfl))); (try simp only [Act.put, List.setIfInBounds_toArray, List.set_cons_zero, List.set_cons_succ]))
  (refine wpAnyH_ready (rs := [13]) (by kernel_rfl) (by simp) (AllReadyH.cons (ops_at rfl) (fun K hK => ?_) AllReadyH.nil); go_simp; skip; refine hK.out _ _ (HKc.out _ (hal _)) (fun hHeld => ?_); clear hK K; (try simp only [Act.put, List.setIfInBounds_toArray, List.set_cons_zero, List.set_cons_succ]))
  (refine wpAnyH_ready (rs := [14]) (by kernel_rfl) (by simp) (AllReadyH.cons (ops_at rfl) (fun K hK => ?_) AllReadyH.nil); go_simp; (refine (move_h (HH.out.drew.alloc) hn t.temp t.file [(t.gn, t.gs)] _ 1 1 hp hf (Grd.oneW rfl t.gn hg t.gs)).mono ?_; rintro e w1 ⟨rfl, h1, o1⟩; rw [HP.out] at h1 ⊢); refine hK.out _ _ (HKc.out _ ((o1.block tb (by simp; omega) hne).trans (hal _))) (fun hHeld => ?_); clear hK K; (try simp only [Act.put, List.setIfInBounds_toArray, List.set_cons_zero, List.set_cons_succ]))
  (refine wpAnyH_take (i := 15) (oi := _) (v := ?_) (ops_at rfl) (by kernel_rfl) (by kernel_rfl) (by kernel_rfl) (fun _ _ _ h => h) (Or.inl ⟨by rfl, ?_⟩) (by assumption) ?_; rotate_left; (focus (intro w hSw; (try dsimp only at hSw); go_simp; (try with_reducible rfl))); (try simp only [Act.put, List.setIfInBounds_toArray, List.set_cons_zero, List.set_cons_succ])); (refine wpAnyH_take (i := 16) (oi := _) (v := ?_) (ops_at rfl) (by kernel_rfl) (by kernel_rfl) (by kernel_rfl) (fun _ _ _ h => h) (Or.inl ⟨by rfl, ?_⟩) (by assumption) ?_; rotate_left; (focus (intro w hSw; (try dsimp only at hSw); go_simp; (try with_reducible rfl))); (try simp only [Act.put, List.setIfInBounds_toArray, List.set_cons_zero, List.set_cons_succ])); (refine wpAnyH_take (i := 17) (oi := _) (v := ?_) (ops_at rfl) (by kernel_rfl) (by kernel_rfl) (by kernel_rfl) (fun _ _ _ h => h) (Or.inl ⟨by rfl, ?_⟩) (by assumption) ?_; rotate_left; (focus (intro w hSw; (try dsimp only at hSw); go_simp; (try with_reducible rfl))); (try simp only [Act.put, List.setIfInBounds_toArray, List.set_cons_zero, List.set_cons_succ])); (refine wpAnyH_take (i := 18) (oi := _) (v := ?_) (ops_at rfl) (by kernel_rfl) (by kernel_rfl) (by kernel_rfl) (fun _ _ _ h => h) (Or.inl ⟨by rfl, ?_⟩) (by assumption) ?_; rotate_left; (focus (intro w hSw; (try dsimp only at hSw); go_simp; (try with_reducible rfl))); (try simp only [Act.put, List.setIfInBounds_toArray, List.set_cons_zero, List.set_cons_succ])); (refine wpAnyH_take (i := 19) (oi := _) (v := ?_) (ops_at rfl) (by kernel_rfl) (by kernel_rfl) (by kernel_rfl) (fun _ _ _ h => h) (Or.inl ⟨by rfl, ?_⟩) (by assumption) ?_; rotate_left; (focus (intro w hSw; (try dsimp only at hSw); go_simp; (try with_reducible rfl))); (try simp only [Act.put, List.setIfInBounds_toArray, List.set_cons_zero, List.set_cons_succ]))
  (refine wpAnyH_done (by kernel_rfl) ?_ _)
  clear hHeld
  have o2 : Only [fb, mb] w w1 := (Only.of_below (bl_alloc (Below.refl _ _).drew) [fb, mb]).trans o1
  have HX1 := Lib.hid (show TkAt w1 tb t from HX.out.only o2 hne)
  have HO3 := Lib.hid (o2.more (cs := [fb, mb, tb]) (fun b hb => .inl (by simp at hb ⊢; rcases hb with h | h <;> simp [h])))
  have HH1 := Lib.hid h1
  clear h1 o1 o2 c5 HX HH hal
  by_cases h0 : e0 = 0
  · subst h0
    rw [if_neg (by simp)] at HM
    go_wp2_with fail
    refine (theld_any HH1.out HX1.out hw st).mono ?_
    (rintro e w' hd; obtain rfl := hd.ret; have HD := Lib.hid (hd.after HO3.out); clear hd; go_wp2_with fail; go_ret; rw [HM.out]; exact HD.out)
  · have hb0 : (e0 == 0) = false := by rw [beq_eq_false_iff_ne]; exact h0
    rw [if_pos h0] at HM
    go_wp2_with fail
    refine (tto_any HH1.out HX1.out hw 4).mono ?_
    (rintro e w' hd; obtain rfl := hd.ret; have HD := Lib.hid (hd.after HO3.out); clear hd; go_wp2_with fail; go_ret; rw [HM.out]; exact HD.out)
end
end Go.Proofs.YtahdeighocmijaaGreatDoor
