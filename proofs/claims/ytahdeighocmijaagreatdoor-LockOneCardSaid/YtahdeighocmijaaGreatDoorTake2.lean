/- Locks: Take.read, made, put. -/
import Derived.Test.YtahdeighocmijaaGreatDoorTake
namespace Go.Proofs.YtahdeighocmijaaGreatDoor
set_option linter.unusedSimpArgs false
set_option linter.unusedVariables false
open Go.RowKit
open Crc (Bytes)

theorem rnum_bd (s : List Int × Bool) (hb : Bytes s.1) : 0 ≤ (rnum s lkTop).1 ∧ (rnum s lkTop).1 ≤ lkTop ∧ Bytes (rnum s lkTop).2.1 := by
  obtain ⟨l, b⟩ := s
  have h0 := (rnum_lo l b lkTop hb).1
  refine ⟨h0, ?_, ?_⟩
  · unfold rnum
    split
    · show (0 : Int) ≤ lkTop; decide
    · rename_i h
      simp only [not_or] at h
      show Cod.numOf l ≤ lkTop
      have := h.2.2
      omega
  · unfold rnum
    split
    · intro x hx; cases hx
    · intro x hx; exact hb x (List.mem_of_mem_drop hx)
theorem rbytes_by (s : List Int × Bool) (top : Int) (hb : Bytes s.1) : Bytes (rbytes s top).1 := by
  have h : ∀ x ∈ (rnum s top).2.1, x ∈ s.1 := by
    unfold rnum
    split
    · intro x hx; cases hx
    · intro x hx; exact List.mem_of_mem_drop hx
  unfold rbytes
  split
  · intro x hx; cases hx
  · intro x hx; exact hb x (h x (List.mem_of_mem_take hx))
theorem oneF_by {b x : List Int} {s : Nat} (hb : Bytes b) (h : oneF b = some (x, s)) : Bytes x := by
  unfold oneF at h
  split at h
  · cases h
  · split at h
    · cases h
    · split at h
      · injection h with h
        have := (Prod.mk.inj h).1
        rw [← this]
        exact rbytes_by _ _ (fun y hy => hb y (List.mem_of_mem_take hy))
      · cases h
theorem aloneF_by {b x : List Int} (hb : Bytes b) (h : aloneF b = some x) : Bytes x := by
  unfold aloneF at h
  cases ho : oneF b with
  | none => rw [ho] at h; cases h
  | some p =>
    rw [ho] at h
    simp only at h
    split at h
    · injection h with h
      subst h
      obtain ⟨x, s⟩ := p
      exact oneF_by hb ho
    · cases h
theorem openLk_bd {b : List Int} {l : Lk} (hb : Bytes b) (h : openLk b = some l) : 0 ≤ l.epoch ∧ l.epoch ≤ lkTop := by
  unfold openLk at h
  cases ha : aloneF b with
  | none => rw [ha] at h; cases h
  | some x =>
    rw [ha] at h
    simp only at h
    have hx := aloneF_by hb ha
    unfold fourL at h
    split at h
    · injection h with h
      have h1 := rnum_bd (x, false) hx
      have h2 := rnum_bd _ h1.2.2
      have h3 := rnum_bd _ h2.2.2
      rw [← h]
      exact ⟨h3.1, h3.2.1⟩
    · cases h
theorem lookL_bd {b : List Int} {who inc now : Int} {l : Lk} {k : Int} (hb : Bytes b) (h : lookL (openLk b) who inc now = (l, k)) (hk : k = 3) : 0 ≤ l.epoch ∧ l.epoch ≤ lkTop := by
  cases ho : openLk b with
  | none => rw [ho] at h; unfold lookL at h; simp only [Prod.mk.injEq] at h; omega
  | some m =>
    have := openLk_bd hb ho
    rw [ho] at h
    unfold lookL at h
    simp only at h
    have hm : m = l := by
      split at h
      · exact (Prod.mk.inj h).1
      · split at h
        · exact (Prod.mk.inj h).1
        · split at h
          · exact (Prod.mk.inj h).1
          · exact (Prod.mk.inj h).1
    rw [← hm]; exact this
theorem keepG {W : World} {gl tb : Nat} {tg tt : TypeId} {v0 v1 v2 v3 v : Value} {cs : List Value} (h : Blk W gl tg [v0, v1, v2, v3]) (hx : Blk W tb tt cs) (hc : cs[0]? = some v) : W.cell? ⟨gl, 0, none⟩ = some v0 ∧ W.cell? ⟨gl, 1, none⟩ = some v1 ∧ W.cell? ⟨gl, 2, none⟩ = some v2 ∧ W.cell? ⟨gl, 3, none⟩ = some v3 ∧ W.cell? ⟨tb, 0, none⟩ = some v :=
  ⟨h.cell 0, h.cell 1, h.cell 2, h.cell 3, (hx.cell 0).trans hc⟩
section
variable {w0 w : World} {fb mb tb n : Nat} {S : Fs} {t : Tk}
set_option maxRecDepth 100000 in
set_option maxHeartbeats 4000000 in
theorem tread_any (hH : FsH w0 w fb mb S n) (hX : TkAt w tb t) (hw : w0.heap.size ≤ tb) (hf : t.file.size ≤ 1000) (now : Int) (hlen : (S.readF t.file).2.1.length ≤ 100000) :
    Calls Tryz.prog 34 #[.pointer (some ⟨tb, 0, none⟩), .pointer (some ⟨fb, 0, none⟩), .int .i64 (clampN now)] w fun e w' => TDid w0 fb mb tb w w' e (readT now S t).1 S n (readT now S t).2 := by
  have hb : Blk w tb 85 t.cells := hX
  have c0 : w.cell? ⟨tb, 0, none⟩ = some (.string t.file) := hb.cell 0
  obtain ⟨⟨e0, c, st⟩, hr⟩ : ∃ r, S.readF t.file = r := ⟨_, rfl⟩
  have hby : Bytes c := by have := hH.bytes t.file; rw [hr] at this; exact this
  rw [hr] at hlen
  obtain ⟨cn, hcn⟩ : ∃ cn, clampN now = cn := ⟨_, rfl⟩
  rw [hcn]
  have HCN := Lib.hid hcn
  have HR := Lib.hid hr
  have HH := Lib.hid hH
  have HX := Lib.hid hX
  have HB := Lib.hid hb
  have HBY := Lib.hid hby
  have hlen2 : c.length ≤ 100000 := hlen
  clear hH hX hb hr hby hlen hcn
  go_enter Tryz.func34, Tryz.ntmps34
  go_wp2_with fail
  refine (read_h HH.out t.file hf).mono ?_
  rintro e w1 ⟨A, m, ac, rfl, hm, hown, hb1⟩
  rw [HR.out] at hm hown ⊢
  have hm' : c.length = m := hm
  have hm2 : m ≤ 100000 := by omega
  have HA := Lib.hid (own_bs (l := c) hown HBY.out (by omega))
  have HH1 := Lib.hid (HH.out.below hb1)
  have HX1 := Lib.hid (show TkAt w1 tb t from HB.out.below hb1)
  have HO1 := Lib.hid (Only.of_below hb1 [fb, mb, tb])
  clear hm hown hb1 HH HX HB c0
  by_cases h4 : e0 = 4
  · subst h4
    have hq := Lib.hid (show readT now S t = (0, { t with at_ := 1 }) by unfold readT; rw [HR.out, if_pos rfl])
    go_wp2_with fail
    refine (tto_any HH1.out HX1.out hw 1).mono ?_
    rintro e w' hd
    obtain rfl := hd.ret
    have HD := Lib.hid (hd.after HO1.out)
    clear hd
    go_wp2_with fail
    go_ret
    rw [hq.out]
    exact HD.out
  have hb4 : (e0 == 4) = false := by rw [beq_eq_false_iff_ne]; exact h4
  by_cases h0 : e0 = 0
  rotate_left
  · have hb0 : (e0 == 0) = false := by rw [beq_eq_false_iff_ne]; exact h0
    have hq := Lib.hid (show readT now S t = (failQ e0, t.end_ (failQ e0)) by unfold readT; rw [HR.out, if_neg h4, if_pos h0])
    go_wp2_with fail
    refine (tfails_any HH1.out HX1.out hw e0).mono ?_
    rintro e w' hd
    obtain rfl := hd.ret
    have HD := Lib.hid (hd.after HO1.out)
    clear hd
    go_wp2_with fail
    go_ret
    rw [hq.out]
    exact HD.out
  subst h0
  clear hb4 h4
  obtain ⟨⟨l, k⟩, ho⟩ : ∃ r, lookL (openLk c) t.who t.inc cn = r := ⟨_, rfl⟩
  have HQ := Lib.hid (readT_look (now := now) (t := t) (l := l) (k := k) HR.out (by rw [HCN.out]; exact ho))
  have Ho := Lib.hid ho
  clear ho
  have HKc := Lib.hid (fun (w' : World) (hh : w'.heap[tb]? = w1.heap[tb]?) => (show w'.cell? ⟨tb, 2, none⟩ = some (.int .i64 t.who) ∧ w'.cell? ⟨tb, 3, none⟩ = some (.int .i64 t.inc) from ⟨(Blk.keep HX1.out hh).cell 2, (Blk.keep HX1.out hh).cell 3⟩))
  have htl : tb < w1.heap.size := Blk.lt HX1.out
  go_upto_region 7 with fail
  go_cut [10, 11] (fun v10 v11 wx => ∃ gl, v10 = .pointer (some ⟨gl, 0, none⟩) ∧ v11 = .int .i64 k ∧ w1.heap.size ≤ gl ∧ Blk wx gl 28 [.int .i64 l.who, .int .i64 l.inc, .int .i64 l.epoch, .int .i64 l.till] ∧ Below w1.heap.size w1 wx)
  case first =>
    (refine wp_region_held_drew (S := fun w' => w'.cell? ⟨tb, 2, none⟩ = some (.int .i64 t.who) ∧ w'.cell? ⟨tb, 3, none⟩ = some (.int .i64 t.inc)) (by kernel_rfl) (HKc.out _ rfl) (fun hHeld => ?_))
    (refine wpAnyH_take (i := 0) (oi := _) (v := ?_) (ops_at rfl) (by kernel_rfl) (by kernel_rfl) (by kernel_rfl) (fun _ _ _ h => h) (Or.inl ⟨by rfl, ?_⟩) (by assumption) ?_; rotate_left; (focus (intro w hSw; (try dsimp only at hSw); go_simp; (try with_reducible rfl))); (try simp only [Act.put, List.setIfInBounds_toArray, List.set_cons_zero, List.set_cons_succ])); (refine wpAnyH_take (i := 1) (oi := _) (v := ?_) (ops_at rfl) (by kernel_rfl) (by kernel_rfl) (by kernel_rfl) (fun _ _ _ h => h) (Or.inl ⟨by rfl, ?_⟩) (by assumption) ?_; rotate_left; (focus (intro w hSw; (try dsimp only at hSw); go_simp; (try with_reducible rfl))); (try simp only [Act.put, List.setIfInBounds_toArray, List.set_cons_zero, List.set_cons_succ])); (refine wpAnyH_take (i := 2) (oi := _) (v := ?_) (ops_at rfl) (by kernel_rfl) (by kernel_rfl) (by kernel_rfl) (fun _ _ _ h => h) (Or.inl ⟨by rfl, ?_⟩) (by assumption) ?_; rotate_left; (focus (intro w hSw; (try dsimp only at hSw); go_simp; (try with_reducible rfl))); (try simp only [Act.put, List.setIfInBounds_toArray, List.set_cons_zero, List.set_cons_succ])); (refine wpAnyH_take (i := 3) (oi := _) (v := ?_) (ops_at rfl) (by kernel_rfl) (by kernel_rfl) (by kernel_rfl) (fun _ _ _ h => h) (Or.inl ⟨by rfl, ?_⟩) (by assumption) ?_; rotate_left; (focus (intro w hSw; (try dsimp only at hSw); go_simp; (try with_reducible rfl))); (try simp only [Act.put, List.setIfInBounds_toArray, List.set_cons_zero, List.set_cons_succ])); (refine wpAnyH_take (i := 4) (oi := _) (v := ?_) (ops_at rfl) (by kernel_rfl) (by kernel_rfl) (by kernel_rfl) (fun _ _ _ h => h) (Or.inl ⟨by rfl, ?_⟩) (by assumption) ?_; rotate_left; (focus (intro w hSw; (try dsimp only at hSw); go_simp; (try with_reducible rfl))); (try simp only [Act.put, List.setIfInBounds_toArray, List.set_cons_zero, List.set_cons_succ])); (refine wpAnyH_take (i := 5) (oi := _) (v := ?_) (ops_at rfl) (by kernel_rfl) (by kernel_rfl) (by kernel_rfl) (fun _ _ _ h => h) (Or.inl ⟨by rfl, ?_⟩) (by assumption) ?_; rotate_left; (focus (intro w hSw; (try dsimp only at hSw); go_simp; (try with_reducible rfl))); (try simp only [Act.put, List.setIfInBounds_toArray, List.set_cons_zero, List.set_cons_succ])); (refine wpAnyH_take (i := 6) (oi := _) (v := ?_) (ops_at rfl) (by kernel_rfl) (by kernel_rfl) (by kernel_rfl) (fun _ _ _ h => h) (Or.inl ⟨by rfl, ?_⟩) (by assumption) ?_; rotate_left; (focus (intro w hSw; (try dsimp only at hSw); go_simp; (try with_reducible rfl))); (try simp only [Act.put, List.setIfInBounds_toArray, List.set_cons_zero, List.set_cons_succ])); (refine wpAnyH_take (i := 7) (oi := _) (v := ?_) (ops_at rfl) (by kernel_rfl) (by kernel_rfl) (by kernel_rfl) (fun _ _ _ h => h) (Or.inl ⟨by rfl, ?_⟩) (by assumption) ?_; rotate_left; (focus (intro w hSw; (try dsimp only at hSw); go_simp; (try with_reducible rfl))); (try simp only [Act.put, List.setIfInBounds_toArray, List.set_cons_zero, List.set_cons_succ])); (refine wpAnyH_take (i := 8) (oi := _) (v := ?_) (ops_at rfl) (by kernel_rfl) (by kernel_rfl) (by kernel_rfl) (fun _ _ _ h => h) (Or.inl ⟨by rfl, ?_⟩) (by assumption) ?_; rotate_left; (focus (intro w hSw; (try dsimp only at hSw); go_simp; (try with_reducible rfl))); (try simp only [Act.put, List.setIfInBounds_toArray, List.set_cons_zero, List.set_cons_succ])); (refine wpAnyH_take (i := 9) (oi := _) (v := ?_) (ops_at rfl) (by kernel_rfl) (by kernel_rfl) (by kernel_rfl) (fun _ _ _ h => h) (Or.inl ⟨by rfl, ?_⟩) (by assumption) ?_; rotate_left; (focus (intro w hSw; (try dsimp only at hSw); go_simp; (try with_reducible rfl))); (try simp only [Act.put, List.setIfInBounds_toArray, List.set_cons_zero, List.set_cons_succ]))
    (refine wpAnyH_ready (rs := [10, 14]) (by kernel_rfl) (by simp) (AllReadyH.cons (ops_at rfl) (fun K hK => ?_) (AllReadyH.cons (ops_at rfl) (fun K hK => ?_) AllReadyH.nil)))
    · (go_simp; (refine (look_any A m ac c t.who t.inc cn _ HA.out.drew (by omega)).mono ?_; rintro e w2 ⟨rfl, hb2⟩; rw [Ho.out]; unfold lkV); refine hK.out _ _ (HKc.out _ (hb2.block tb htl)) (fun hHeld => ?_); clear hK K; (try simp only [Act.put, List.setIfInBounds_toArray, List.set_cons_zero, List.set_cons_succ]))
      have hb2' : Below w1.heap.size w1 w2 := ⟨hb2.os, hb2.tape, hb2.output, hb2.size, hb2.block⟩
      have hsz2 : w1.heap.size ≤ w2.heap.size := hb2'.size
      (refine wpAnyH_take (i := 11) (oi := _) (v := ?_) (ops_at rfl) (by kernel_rfl) (by kernel_rfl) (by kernel_rfl) (fun _ _ _ h => h) (Or.inl ⟨by rfl, ?_⟩) (by assumption) ?_; rotate_left; (focus (intro w hSw; (try dsimp only at hSw); go_simp; (try with_reducible rfl))); (try simp only [Act.put, List.setIfInBounds_toArray, List.set_cons_zero, List.set_cons_succ])); (refine wpAnyH_take (i := 12) (oi := _) (v := ?_) (ops_at rfl) (by kernel_rfl) (by kernel_rfl) (by kernel_rfl) (fun _ _ _ h => h) (Or.inl ⟨by rfl, ?_⟩) (by assumption) ?_; rotate_left; (focus (intro w hSw; (try dsimp only at hSw); go_simp; (try with_reducible rfl))); (try simp only [Act.put, List.setIfInBounds_toArray, List.set_cons_zero, List.set_cons_succ])); (refine wpAnyH_take (i := 13) (oi := _) (v := ?_) (ops_at rfl) (by kernel_rfl) (by kernel_rfl) (by kernel_rfl) (fun _ _ _ h => h) (Or.inl ⟨by rfl, ?_⟩) (by assumption) ?_; rotate_left; (focus (intro w hSw; (try dsimp only at hSw); go_simp; (try with_reducible rfl))); (try simp only [Act.put, List.setIfInBounds_toArray, List.set_cons_zero, List.set_cons_succ]))
      have hal := fun o => Below.heap_alloc w2 o tb (by omega)
      (refine wpAnyH_ready (rs := [14]) (by kernel_rfl) (by simp) (AllReadyH.cons (ops_at rfl) (fun K hK => ?_) AllReadyH.nil); go_simp; skip; refine hK.out _ _ (HKc.out _ ((hal _).trans (hb2'.block tb htl))) (fun hHeld => ?_); clear hK K; (try simp only [Act.put, List.setIfInBounds_toArray, List.set_cons_zero, List.set_cons_succ]))
      (refine wpAnyH_ready (rs := [15]) (by kernel_rfl) (by simp) (AllReadyH.cons (ops_at rfl) (fun K hK => ?_) AllReadyH.nil); go_simp; skip; refine hK.out _ _ (HKc.out _ ((hal _).trans (hb2'.block tb htl))) (fun hHeld => ?_); clear hK K; (try simp only [Act.put, List.setIfInBounds_toArray, List.set_cons_zero, List.set_cons_succ]))
      (refine wpAnyH_take (i := 16) (oi := _) (v := ?_) (ops_at rfl) (by kernel_rfl) (by kernel_rfl) (by kernel_rfl) (fun _ _ _ h => h) (Or.inl ⟨by rfl, ?_⟩) (by assumption) ?_; rotate_left; (focus (intro w hSw; (try dsimp only at hSw); go_simp; (try with_reducible rfl))); (try simp only [Act.put, List.setIfInBounds_toArray, List.set_cons_zero, List.set_cons_succ]))
      (refine wpAnyH_done (by kernel_rfl) ?_ _)
      go_wp2_with fail
      go_meet
      exact ⟨w2.heap.size, rfl, rfl, hsz2, Blk.new w2 _ _, hb2'.alloc hsz2 _⟩
    · (go_simp; skip; refine hK.out _ _ (HKc.out _ (Below.heap_alloc w1 _ tb htl)) (fun hHeld => ?_); clear hK K; (try simp only [Act.put, List.setIfInBounds_toArray, List.set_cons_zero, List.set_cons_succ]))
      (refine wpAnyH_ready (rs := [10]) (by kernel_rfl) (by simp) (AllReadyH.cons (ops_at rfl) (fun K hK => ?_) AllReadyH.nil); go_simp; (refine (look_any A m ac c t.who t.inc cn _ ((HA.out.alloc (Obj.cells #[.int .i64 0, .int .i64 0, .int .i64 0, .int .i64 0] 28)).drew) (by omega)).mono ?_; rintro e w2 ⟨rfl, hb2⟩; rw [Ho.out]; unfold lkV); refine hK.out _ _ (HKc.out _ ((bl_then (bl_alloc (Below.refl _ _)).drew hb2).block tb htl)) (fun hHeld => ?_); clear hK K; (try simp only [Act.put, List.setIfInBounds_toArray, List.set_cons_zero, List.set_cons_succ]))
      have hb2' : Below w1.heap.size w1 w2 := bl_then (bl_alloc (Below.refl _ _)).drew hb2
      have hz := ((Blk.new w1 28 [.int .i64 0, .int .i64 0, .int .i64 0, .int .i64 0]).drew).below hb2
      have k0 : w2.cell? ⟨w1.heap.size, 0, none⟩ = some (.int .i64 0) := hz.cell 0
      have k1 : w2.cell? ⟨w1.heap.size, 1, none⟩ = some (.int .i64 0) := hz.cell 1
      have k2 : w2.cell? ⟨w1.heap.size, 2, none⟩ = some (.int .i64 0) := hz.cell 2
      have k3 : w2.cell? ⟨w1.heap.size, 3, none⟩ = some (.int .i64 0) := hz.cell 3
      have z0 := hz.frozen 0
      have z1 := hz.frozen 1
      have z2 := hz.frozen 2
      have z3 := hz.frozen 3
      have hbel : Below w1.heap.size w1 ((((w2.setCell ⟨w1.heap.size, 0, none⟩ (.int .i64 l.who)).setCell ⟨w1.heap.size, 1, none⟩ (.int .i64 l.inc)).setCell ⟨w1.heap.size, 2, none⟩ (.int .i64 l.epoch)).setCell ⟨w1.heap.size, 3, none⟩ (.int .i64 l.till)) := bl_setq hb2' (Nat.le_refl _) _ _ _ _
      have hl := (((hz.set_ 0 (.int .i64 l.who)).set_ 1 (.int .i64 l.inc)).set_ 2 (.int .i64 l.epoch)).set_ 3 (.int .i64 l.till)
      (refine wpAnyH_take (i := 11) (oi := _) (v := ?_) (ops_at rfl) (by kernel_rfl) (by kernel_rfl) (by kernel_rfl) (fun _ _ _ h => h) (Or.inl ⟨by rfl, ?_⟩) (by assumption) ?_; rotate_left; (focus (intro w hSw; (try dsimp only at hSw); go_simp; (try with_reducible rfl))); (try simp only [Act.put, List.setIfInBounds_toArray, List.set_cons_zero, List.set_cons_succ])); (refine wpAnyH_take (i := 12) (oi := _) (v := ?_) (ops_at rfl) (by kernel_rfl) (by kernel_rfl) (by kernel_rfl) (fun _ _ _ h => h) (Or.inl ⟨by rfl, ?_⟩) (by assumption) ?_; rotate_left; (focus (intro w hSw; (try dsimp only at hSw); go_simp; (try with_reducible rfl))); (try simp only [Act.put, List.setIfInBounds_toArray, List.set_cons_zero, List.set_cons_succ])); (refine wpAnyH_take (i := 13) (oi := _) (v := ?_) (ops_at rfl) (by kernel_rfl) (by kernel_rfl) (by kernel_rfl) (fun _ _ _ h => h) (Or.inl ⟨by rfl, ?_⟩) (by assumption) ?_; rotate_left; (focus (intro w hSw; (try dsimp only at hSw); go_simp; (try with_reducible rfl))); (try simp only [Act.put, List.setIfInBounds_toArray, List.set_cons_zero, List.set_cons_succ]))
      (refine wpAnyH_ready (rs := [15]) (by kernel_rfl) (by simp) (AllReadyH.cons (ops_at rfl) (fun K hK => ?_) AllReadyH.nil); go_simp; skip; refine hK.out _ _ (HKc.out _ (hbel.block tb htl)) (fun hHeld => ?_); clear hK K; (try simp only [Act.put, List.setIfInBounds_toArray, List.set_cons_zero, List.set_cons_succ]))
      (refine wpAnyH_take (i := 16) (oi := _) (v := ?_) (ops_at rfl) (by kernel_rfl) (by kernel_rfl) (by kernel_rfl) (fun _ _ _ h => h) (Or.inl ⟨by rfl, ?_⟩) (by assumption) ?_; rotate_left; (focus (intro w hSw; (try dsimp only at hSw); go_simp; (try with_reducible rfl))); (try simp only [Act.put, List.setIfInBounds_toArray, List.set_cons_zero, List.set_cons_succ]))
      (refine wpAnyH_done (by kernel_rfl) ?_ _)
      go_wp2_with fail
      go_meet
      exact ⟨w1.heap.size, rfl, rfl, Nat.le_refl _, hl, hbel⟩
  case rest =>
    obtain ⟨gl, rfl, rfl, hgl, hbl, hbel⟩ := hcut
    have HH2 := Lib.hid (HH1.out.below hbel)
    have hX2 : Blk wc tb 85 t.cells := Blk.below HX1.out hbel
    have HX2 := Lib.hid hX2
    have HO2 := Lib.hid (HO1.out.trans (Only.of_below hbel [fb, mb, tb]))
    have q0 : wc.cell? ⟨gl, 0, none⟩ = some (.int .i64 l.who) := hbl.cell 0
    have q1 : wc.cell? ⟨gl, 1, none⟩ = some (.int .i64 l.inc) := hbl.cell 1
    have q2 : wc.cell? ⟨gl, 2, none⟩ = some (.int .i64 l.epoch) := hbl.cell 2
    have q3 : wc.cell? ⟨gl, 3, none⟩ = some (.int .i64 l.till) := hbl.cell 3
    have c0 : wc.cell? ⟨tb, 0, none⟩ = some (.string t.file) := hX2.cell 0
    have c7 : wc.cell? ⟨tb, 7, none⟩ = some (.string t.gn) := hX2.cell 7
    have c8 : wc.cell? ⟨tb, 8, none⟩ = some (.int .i64 t.gs) := hX2.cell 8
    have c9 : wc.cell? ⟨tb, 9, none⟩ = some (.int .i64 t.l.who) := hX2.cell 9
    have c10 : wc.cell? ⟨tb, 10, none⟩ = some (.int .i64 t.l.inc) := hX2.cell 10
    have c11 : wc.cell? ⟨tb, 11, none⟩ = some (.int .i64 t.l.epoch) := hX2.cell 11
    have c12 : wc.cell? ⟨tb, 12, none⟩ = some (.int .i64 t.l.till) := hX2.cell 12
    have z7 := hX2.frozen 7
    have z8 := hX2.frozen 8
    have z9 := hX2.frozen 9
    have z10 := hX2.frozen 10
    have z11 := hX2.frozen 11
    have z12 := hX2.frozen 12
    have HGL := Lib.hid hbl
    have hne : gl ≠ tb := by omega
    clear hbl hbel hX2 HH1 HX1 HO1 HKc htl HA
    by_cases k2 : k = 2
    · subst k2
      rw [if_pos rfl] at HQ
      go_upto_region 11 with fail
      obtain ⟨h1, h2, h3⟩ := tk_set HH2.out HX2.out hw (t' := { t with l := l }) (((((Only.refl _ _).setCell (.inl (by simp)) (.int .i64 l.who)).setCell (.inl (by simp)) (.int .i64 l.inc)).setCell (.inl (by simp)) (.int .i64 l.epoch)).setCell (.inl (by simp)) (.int .i64 l.till)) ((((Blk.set_ HX2.out 9 (.int .i64 l.who)).set_ 10 (.int .i64 l.inc)).set_ 11 (.int .i64 l.epoch)).set_ 12 (.int .i64 l.till))
      generalize hw1 : (((wc.setCell ⟨tb, 9, none⟩ (.int .i64 l.who)).setCell ⟨tb, 10, none⟩ (.int .i64 l.inc)).setCell ⟨tb, 11, none⟩ (.int .i64 l.epoch)).setCell ⟨tb, 12, none⟩ (.int .i64 l.till) = w5 at *
      have H1 := Lib.hid h1
      have H2 := Lib.hid h2
      have H3 := Lib.hid (HO2.out.trans h3)
      clear hw1 h1 h2 h3 q0 q1 q2 q3 c0 c7 c8 c9 c10 c11 c12 z7 z8 z9 z10 z11 z12
      go_wp2_with fail
      refine (theld_any H1.out H2.out hw st).mono ?_
      rintro e w' hd
      obtain rfl := hd.ret
      have HD := Lib.hid (hd.after H3.out)
      clear hd
      go_wp2_with fail
      go_ret
      rw [HQ.out]
      exact HD.out
    have k2b : (k == 2) = false := by rw [beq_eq_false_iff_ne]; exact k2
    rw [if_neg k2] at HQ
    clear k2
    by_cases k3 : k = 3
    · subst k3
      rw [if_pos rfl] at HQ
      go_upto_region 13 with fail
      have HGD := Lib.hid HGL.out.drew
      have HXD := Lib.hid (show Blk wc.drew tb 85 t.cells from Blk.drew HX2.out)
      (refine wp_region_held_drew (S := fun w' => w'.cell? ⟨gl, 0, none⟩ = some (.int .i64 l.who) ∧ w'.cell? ⟨gl, 1, none⟩ = some (.int .i64 l.inc) ∧ w'.cell? ⟨gl, 2, none⟩ = some (.int .i64 l.epoch) ∧ w'.cell? ⟨gl, 3, none⟩ = some (.int .i64 l.till) ∧ w'.cell? ⟨tb, 0, none⟩ = some (.string t.file)) (by kernel_rfl) (keepG HGD.out HXD.out rfl) (fun hHeld => ?_))
      (refine wpAnyH_take (i := 0) (oi := _) (v := ?_) (ops_at rfl) (by kernel_rfl) (by kernel_rfl) (by kernel_rfl) (fun _ _ _ h => h) (Or.inl ⟨by rfl, ?_⟩) (by assumption) ?_; rotate_left; (focus (intro w hSw; (try dsimp only at hSw); go_simp; (try with_reducible rfl))); (try simp only [Act.put, List.setIfInBounds_toArray, List.set_cons_zero, List.set_cons_succ])); (refine wpAnyH_take (i := 1) (oi := _) (v := ?_) (ops_at rfl) (by kernel_rfl) (by kernel_rfl) (by kernel_rfl) (fun _ _ _ h => h) (Or.inl ⟨by rfl, ?_⟩) (by assumption) ?_; rotate_left; (focus (intro w hSw; (try dsimp only at hSw); go_simp; (try with_reducible rfl))); (try simp only [Act.put, List.setIfInBounds_toArray, List.set_cons_zero, List.set_cons_succ])); (refine wpAnyH_take (i := 2) (oi := _) (v := ?_) (ops_at rfl) (by kernel_rfl) (by kernel_rfl) (by kernel_rfl) (fun _ _ _ h => h) (Or.inl ⟨by rfl, ?_⟩) (by assumption) ?_; rotate_left; (focus (intro w hSw; (try dsimp only at hSw); go_simp; (try with_reducible rfl))); (try simp only [Act.put, List.setIfInBounds_toArray, List.set_cons_zero, List.set_cons_succ])); (refine wpAnyH_take (i := 3) (oi := _) (v := ?_) (ops_at rfl) (by kernel_rfl) (by kernel_rfl) (by kernel_rfl) (fun _ _ _ h => h) (Or.inl ⟨by rfl, ?_⟩) (by assumption) ?_; rotate_left; (focus (intro w hSw; (try dsimp only at hSw); go_simp; (try with_reducible rfl))); (try simp only [Act.put, List.setIfInBounds_toArray, List.set_cons_zero, List.set_cons_succ])); (refine wpAnyH_take (i := 4) (oi := _) (v := ?_) (ops_at rfl) (by kernel_rfl) (by kernel_rfl) (by kernel_rfl) (fun _ _ _ h => h) (Or.inl ⟨by rfl, ?_⟩) (by assumption) ?_; rotate_left; (focus (intro w hSw; (try dsimp only at hSw); go_simp; (try with_reducible rfl))); (try simp only [Act.put, List.setIfInBounds_toArray, List.set_cons_zero, List.set_cons_succ])); (refine wpAnyH_take (i := 5) (oi := _) (v := ?_) (ops_at rfl) (by kernel_rfl) (by kernel_rfl) (by kernel_rfl) (fun _ _ _ h => h) (Or.inl ⟨by rfl, ?_⟩) (by assumption) ?_; rotate_left; (focus (intro w hSw; (try dsimp only at hSw); go_simp; (try with_reducible rfl))); (try simp only [Act.put, List.setIfInBounds_toArray, List.set_cons_zero, List.set_cons_succ])); (refine wpAnyH_take (i := 6) (oi := _) (v := ?_) (ops_at rfl) (by kernel_rfl) (by kernel_rfl) (by kernel_rfl) (fun _ _ _ h => h) (Or.inl ⟨by rfl, ?_⟩) (by assumption) ?_; rotate_left; (focus (intro w hSw; (try dsimp only at hSw); go_simp; (try with_reducible rfl))); (try simp only [Act.put, List.setIfInBounds_toArray, List.set_cons_zero, List.set_cons_succ])); (refine wpAnyH_take (i := 7) (oi := _) (v := ?_) (ops_at rfl) (by kernel_rfl) (by kernel_rfl) (by kernel_rfl) (fun _ _ _ h => h) (Or.inl ⟨by rfl, ?_⟩) (by assumption) ?_; rotate_left; (focus (intro w hSw; (try dsimp only at hSw); go_simp; (try with_reducible rfl))); (try simp only [Act.put, List.setIfInBounds_toArray, List.set_cons_zero, List.set_cons_succ])); (refine wpAnyH_take (i := 8) (oi := _) (v := ?_) (ops_at rfl) (by kernel_rfl) (by kernel_rfl) (by kernel_rfl) (fun _ _ _ h => h) (Or.inl ⟨by rfl, ?_⟩) (by assumption) ?_; rotate_left; (focus (intro w hSw; (try dsimp only at hSw); go_simp; (try with_reducible rfl))); (try simp only [Act.put, List.setIfInBounds_toArray, List.set_cons_zero, List.set_cons_succ])); (refine wpAnyH_take (i := 9) (oi := _) (v := ?_) (ops_at rfl) (by kernel_rfl) (by kernel_rfl) (by kernel_rfl) (fun _ _ _ h => h) (Or.inl ⟨by rfl, ?_⟩) (by assumption) ?_; rotate_left; (focus (intro w hSw; (try dsimp only at hSw); go_simp; (try with_reducible rfl))); (try simp only [Act.put, List.setIfInBounds_toArray, List.set_cons_zero, List.set_cons_succ])); (refine wpAnyH_take (i := 10) (oi := _) (v := ?_) (ops_at rfl) (by kernel_rfl) (by kernel_rfl) (by kernel_rfl) (fun _ _ _ h => h) (Or.inl ⟨by rfl, ?_⟩) (by assumption) ?_; rotate_left; (focus (intro w hSw; (try dsimp only at hSw); go_simp; (try with_reducible rfl))); (try simp only [Act.put, List.setIfInBounds_toArray, List.set_cons_zero, List.set_cons_succ]))
      (refine wpAnyH_ready (rs := [11]) (by kernel_rfl) (by simp) (AllReadyH.cons (ops_at rfl) (fun K hK => ?_) AllReadyH.nil); go_simp; skip; refine hK.out _ _ (keepG ((((HGL.out.far hne _).far hne _).far hne _).far hne _).drew (((((Blk.set_ HX2.out 9 _).set_ 10 _).set_ 11 _).set_ 12 _).drew) rfl) (fun hHeld => ?_); clear hK K; (try simp only [Act.put, List.setIfInBounds_toArray, List.set_cons_zero, List.set_cons_succ]))
      (refine wpAnyH_take (i := 12) (oi := _) (v := ?_) (ops_at rfl) (by kernel_rfl) (by kernel_rfl) (by kernel_rfl) (fun _ _ _ h => h) (Or.inl ⟨by rfl, ?_⟩) (by assumption) ?_; rotate_left; (focus (intro w hSw; (try dsimp only at hSw); go_simp; (try with_reducible rfl))); (try simp only [Act.put, List.setIfInBounds_toArray, List.set_cons_zero, List.set_cons_succ])); (refine wpAnyH_take (i := 13) (oi := _) (v := ?_) (ops_at rfl) (by kernel_rfl) (by kernel_rfl) (by kernel_rfl) (fun _ _ _ h => h) (Or.inl ⟨by rfl, ?_⟩) (by assumption) ?_; rotate_left; (focus (intro w hSw; (try dsimp only at hSw); go_simp; (try with_reducible rfl))); (try simp only [Act.put, List.setIfInBounds_toArray, List.set_cons_zero, List.set_cons_succ])); (refine wpAnyH_take (i := 14) (oi := _) (v := ?_) (ops_at rfl) (by kernel_rfl) (by kernel_rfl) (by kernel_rfl) (fun _ _ _ h => h) (Or.inl ⟨by rfl, ?_⟩) (by assumption) ?_; rotate_left; (focus (intro w hSw; (try dsimp only at hSw); go_simp; (try with_reducible rfl))); (try simp only [Act.put, List.setIfInBounds_toArray, List.set_cons_zero, List.set_cons_succ]))
      (refine wpAnyH_ready (rs := [15]) (by kernel_rfl) (by simp) (AllReadyH.cons (ops_at rfl) (fun K hK => ?_) AllReadyH.nil); go_simp; skip; refine hK.out _ _ (keepG (((((HGL.out.far hne _).far hne _).far hne _).far hne _).far hne _).drew ((((((Blk.set_ HX2.out 9 _).set_ 10 _).set_ 11 _).set_ 12 _).set_ 7 _).drew) rfl) (fun hHeld => ?_); clear hK K; (try simp only [Act.put, List.setIfInBounds_toArray, List.set_cons_zero, List.set_cons_succ]))
      (refine wpAnyH_take (i := 16) (oi := _) (v := ?_) (ops_at rfl) (by kernel_rfl) (by kernel_rfl) (by kernel_rfl) (fun _ _ _ h => h) (Or.inl ⟨by rfl, ?_⟩) (by assumption) ?_; rotate_left; (focus (intro w hSw; (try dsimp only at hSw); go_simp; (try with_reducible rfl))); (try simp only [Act.put, List.setIfInBounds_toArray, List.set_cons_zero, List.set_cons_succ])); (refine wpAnyH_take (i := 17) (oi := _) (v := ?_) (ops_at rfl) (by kernel_rfl) (by kernel_rfl) (by kernel_rfl) (fun _ _ _ h => h) (Or.inl ⟨by rfl, ?_⟩) (by assumption) ?_; rotate_left; (focus (intro w hSw; (try dsimp only at hSw); go_simp; (try with_reducible rfl))); (try simp only [Act.put, List.setIfInBounds_toArray, List.set_cons_zero, List.set_cons_succ])); (refine wpAnyH_take (i := 18) (oi := _) (v := ?_) (ops_at rfl) (by kernel_rfl) (by kernel_rfl) (by kernel_rfl) (fun _ _ _ h => h) (Or.inl ⟨by rfl, ?_⟩) (by assumption) ?_; rotate_left; (focus (intro w hSw; (try dsimp only at hSw); go_simp; (try with_reducible rfl))); (try simp only [Act.put, List.setIfInBounds_toArray, List.set_cons_zero, List.set_cons_succ]))
      (refine wpAnyH_ready (rs := [19]) (by kernel_rfl) (by simp) (AllReadyH.cons (ops_at rfl) (fun K hK => ?_) AllReadyH.nil); go_simp; skip; refine hK.out _ _ (keepG ((((((HGL.out.far hne _).far hne _).far hne _).far hne _).far hne _).far hne _).drew (((((((Blk.set_ HX2.out 9 _).set_ 10 _).set_ 11 _).set_ 12 _).set_ 7 _).set_ 8 _).drew) rfl) (fun hHeld => ?_); clear hK K; (try simp only [Act.put, List.setIfInBounds_toArray, List.set_cons_zero, List.set_cons_succ]))
      (refine wpAnyH_done (by kernel_rfl) ?_ _)
      clear hHeld
      obtain ⟨h1, h2, h3⟩ := tk_set HH2.out HX2.out hw (t' := { t with l := l, gn := t.file, gs := st }) (((((((Only.refl _ _).setCell (.inl (by simp)) (.int .i64 l.who)).setCell (.inl (by simp)) (.int .i64 l.inc)).setCell (.inl (by simp)) (.int .i64 l.epoch)).setCell (.inl (by simp)) (.int .i64 l.till)).setCell (.inl (by simp)) (.string t.file)).setCell (.inl (by simp)) (.int .i64 st)).drew ((((((Blk.set_ HX2.out 9 (.int .i64 l.who)).set_ 10 (.int .i64 l.inc)).set_ 11 (.int .i64 l.epoch)).set_ 12 (.int .i64 l.till)).set_ 7 (.string t.file)).set_ 8 (.int .i64 st)).drew
      generalize hw1 : ((((((wc.setCell ⟨tb, 9, none⟩ (.int .i64 l.who)).setCell ⟨tb, 10, none⟩ (.int .i64 l.inc)).setCell ⟨tb, 11, none⟩ (.int .i64 l.epoch)).setCell ⟨tb, 12, none⟩ (.int .i64 l.till)).setCell ⟨tb, 7, none⟩ (.string t.file)).setCell ⟨tb, 8, none⟩ (.int .i64 st)).drew = w5 at *
      have H1 := Lib.hid h1
      have H2 := Lib.hid h2
      have H3 := Lib.hid (HO2.out.trans h3)
      clear hw1 h1 h2 h3 q0 q1 q2 q3 c0 c7 c8 c9 c10 c11 c12 z7 z8 z9 z10 z11 z12
      go_wp2_with fail
      refine (tto_any H1.out H2.out hw 2).mono ?_
      rintro e w' hd
      obtain rfl := hd.ret
      have HD := Lib.hid (hd.after H3.out)
      clear hd
      go_wp2_with fail
      go_ret
      rw [HQ.out]
      exact HD.out
    have k3b : (k == 3) = false := by rw [beq_eq_false_iff_ne]; exact k3
    rw [if_neg k3] at HQ
    clear k3
    by_cases k4 : k = 4
    · subst k4
      rw [if_pos rfl] at HQ
      go_wp2_with fail
      refine (tend_any HH2.out HX2.out hw 2).mono ?_
      rintro e w' hd
      obtain rfl := hd.ret
      have HD := Lib.hid (hd.after HO2.out)
      clear hd
      go_wp2_with fail
      go_ret
      rw [HQ.out]
      exact HD.out
    · have k4b : (k == 4) = false := by rw [beq_eq_false_iff_ne]; exact k4
      rw [if_neg k4] at HQ
      go_wp2_with fail
      refine (tend_any HH2.out HX2.out hw 3).mono ?_
      rintro e w' hd
      obtain rfl := hd.ret
      have HD := Lib.hid (hd.after HO2.out)
      clear hd
      go_wp2_with fail
      go_ret
      rw [HQ.out]
      exact HD.out
end
end Go.Proofs.YtahdeighocmijaaGreatDoor
