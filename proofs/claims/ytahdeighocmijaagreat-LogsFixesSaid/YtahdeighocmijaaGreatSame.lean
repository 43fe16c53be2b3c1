/- The reference's SameDone and SameDones, of rows that are the same. -/
import Derived.Test.YtahdeighocmijaaGreatLawD
namespace Go.Proofs.YtahdeighocmijaaGreat
set_option linter.unusedSimpArgs false
set_option linter.unusedVariables false
open Go.RowKit
open Crc (Bytes)
open Cod (six held dig far numOf)

theorem lawD_right (n : Int) : (lawD n).right = true ∧ Bytes (lawD n).p ∧ (lawD n).p.length ≤ 2 ∧ (lawD n).t.size ≤ 14 := by
  obtain ⟨a, ha, ha2⟩ := maskN 2 (by decide) n 3 rfl
  obtain ⟨b, hb, hb2⟩ := maskN 3 (by decide) (n / 4) 7 rfl
  obtain ⟨c, hc, hc2⟩ := maskN 4 (by decide) (n / 32) 15 rfl
  have hl : (lawD n).p.length ≤ 2 := by unfold lawD; simp only [List.length_take, List.length_cons, List.length_nil]; omega
  have ht : okB (lawD n).t = true ∧ (lawD n).t.size ≤ 14 := by
    unfold lawD
    simp only [ha]
    have : a = 0 ∨ a = 1 ∨ a = 2 ∨ a = 3 := by omega
    rcases this with rfl | rfl | rfl | rfl <;> decide
  have hw : numB (lawD n).who = true := by unfold lawD; simp only [hb]; unfold numB; simp; omega
  have hi : numB (lawD n).inc = true := by unfold lawD; simp only [hc]; unfold numB; simp; omega
  refine ⟨?_, ?_, hl, ht.2⟩
  · unfold Dn.right
    rw [ht.1, hw, hi]
    simp; omega
  · intro x hx
    have := List.mem_of_mem_take hx
    simp at this
    rcases this with rfl | rfl <;> omega
theorem flat_get (xs : List Dx) (j : Nat) (h : j < xs.length) : (flat xs)[j * 4]? = some (.string xs[j].d.t) ∧ (flat xs)[j * 4 + 1]? = some (.int .i64 xs[j].d.who) ∧ (flat xs)[j * 4 + 2]? = some (.int .i64 xs[j].d.inc) ∧ (flat xs)[j * 4 + 3]? = some (.slice xs[j].A xs[j].m xs[j].c) := by
  induction xs generalizing j with
  | nil => simp at h
  | cons x xs ih =>
    have e : flat (x :: xs) = x.cells ++ flat xs := rfl
    have hl : x.cells.length = 4 := rfl
    cases j with
    | zero => rw [e]; exact ⟨rfl, rfl, rfl, rfl⟩
    | succ j =>
      obtain ⟨h1, h2, h3, h4⟩ := ih j (by simpa using h)
      rw [e]
      refine ⟨?_, ?_, ?_, ?_⟩
      · rw [List.getElem?_append_right (by omega), hl, show (j + 1) * 4 - 4 = j * 4 by omega]; exact h1
      · rw [List.getElem?_append_right (by omega), hl, show (j + 1) * 4 + 1 - 4 = j * 4 + 1 by omega]; exact h2
      · rw [List.getElem?_append_right (by omega), hl, show (j + 1) * 4 + 2 - 4 = j * 4 + 2 by omega]; exact h3
      · rw [List.getElem?_append_right (by omega), hl, show (j + 1) * 4 + 3 - 4 = j * 4 + 3 by omega]; exact h4
theorem DRow.get {W : World} {base : Nat} {A : Option Addr} {n c : Nat} {ds : List Dn} (h : DRow W base A n c ds) {j : Nat} (hj : j < ds.length) :
    ∃ g X m xc, A = some ⟨g, 0, none⟩ ∧ g < W.heap.size ∧ W.cell? ⟨g, j * 4, none⟩ = some (.string ds[j].t) ∧ W.cell? ⟨g, j * 4 + 1, none⟩ = some (.int .i64 ds[j].who) ∧ W.cell? ⟨g, j * 4 + 2, none⟩ = some (.int .i64 ds[j].inc) ∧ W.cell? ⟨g, j * 4 + 3, none⟩ = some (.slice X m xc) ∧ Bs W X m ds[j].p := by
  have hn := h.len
  obtain ⟨xs, rfl, h2, h3⟩ := h.ex
  rw [List.length_map] at hn hj
  obtain ⟨g, rfl, hg1, hg2⟩ := h2.some (by omega)
  obtain ⟨f1, f2, f3, f4⟩ := flat_get xs j hj
  have hx := h3 xs[j] (List.getElem_mem hj)
  simp only [List.getElem_map]
  exact ⟨g, xs[j].A, xs[j].m, xs[j].c, rfl, hg2, (h2.cellAt _ (by omega)).trans f1, (h2.cellAt _ (by omega)).trans f2, (h2.cellAt _ (by omega)).trans f3, (h2.cellAt _ (by omega)).trans f4, hx.bs⟩
set_option maxRecDepth 100000 in
set_option maxHeartbeats 1000000 in
theorem samedone_any (d : Dn) (A B : Option Addr) (m c m2 c2 : Nat) (w : World) (h : Bs w A m d.p) (h2 : Bs w B m2 d.p) :
    Calls Tryz.prog 39 #[dnV d A m c, dnV d B m2 c2] w fun e w' => e = .returned (.bool true) ∧ Below w.heap.size w w' := by
  have H := Lib.hid h
  have H2 := Lib.hid h2
  have hs1 := fun (o1 o2 : Obj) => conv_str (P := Tryz.prog) (c := c) (src := 23) (dst := 9) Tryz.underlying23 Tryz.underlying5 Tryz.underlying9 ((H.out.alloc o1).alloc o2)
  have hs2 := fun (o1 o2 : Obj) => conv_str (P := Tryz.prog) (c := c2) (src := 23) (dst := 9) Tryz.underlying23 Tryz.underlying5 Tryz.underlying9 ((H2.out.alloc o1).alloc o2)
  clear h h2
  unfold dnV
  go_enter Tryz.func39, Tryz.ntmps39
  go_wp2_with fail
  go_ret
  exact ⟨rfl, bl_alloc (bl_alloc (Below.refl _ _))⟩
theorem keep8 {W w' : World} {g g2 k : Nat} {v0 v1 v2 v3 u0 u1 u2 u3 : Value} (hb : Below W.heap.size W w') (hg : g < W.heap.size) (hg2 : g2 < W.heap.size)
    (h0 : W.cell? ⟨g, k, none⟩ = some v0) (h1 : W.cell? ⟨g, k + 1, none⟩ = some v1) (h2 : W.cell? ⟨g, k + 2, none⟩ = some v2) (h3 : W.cell? ⟨g, k + 3, none⟩ = some v3)
    (e0 : W.cell? ⟨g2, k, none⟩ = some u0) (e1 : W.cell? ⟨g2, k + 1, none⟩ = some u1) (e2 : W.cell? ⟨g2, k + 2, none⟩ = some u2) (e3 : W.cell? ⟨g2, k + 3, none⟩ = some u3) :
    w'.cell? ⟨g, k, none⟩ = some v0 ∧ w'.cell? ⟨g, k + 1, none⟩ = some v1 ∧ w'.cell? ⟨g, k + 2, none⟩ = some v2 ∧ w'.cell? ⟨g, k + 3, none⟩ = some v3 ∧ w'.cell? ⟨g2, k, none⟩ = some u0 ∧ w'.cell? ⟨g2, k + 1, none⟩ = some u1 ∧ w'.cell? ⟨g2, k + 2, none⟩ = some u2 ∧ w'.cell? ⟨g2, k + 3, none⟩ = some u3 ∧ Below W.heap.size W w' :=
  ⟨(hb.cell (p := ⟨g, k, none⟩) hg).trans h0, (hb.cell (p := ⟨g, k + 1, none⟩) hg).trans h1, (hb.cell (p := ⟨g, k + 2, none⟩) hg).trans h2, (hb.cell (p := ⟨g, k + 3, none⟩) hg).trans h3, (hb.cell (p := ⟨g2, k, none⟩) hg2).trans e0, (hb.cell (p := ⟨g2, k + 1, none⟩) hg2).trans e1, (hb.cell (p := ⟨g2, k + 2, none⟩) hg2).trans e2, (hb.cell (p := ⟨g2, k + 3, none⟩) hg2).trans e3, hb⟩
set_option maxRecDepth 100000 in
set_option maxHeartbeats 2000000 in
theorem samedones_any (ds : List Dn) (A B : Option Addr) (n c c2 b1 b2 : Nat) (w : World) (h : DRow w b1 A n c ds) (h2 : DRow w b2 B n c2 ds) (hn : n ≤ 1000000) :
    Calls Tryz.prog 17 #[.slice A n c, .slice B n c2] w fun e w' => e = .returned (.bool true) ∧ Below w.heap.size w w' := by
  have hl := h.len
  have H := Lib.hid h
  have H2 := Lib.hid h2
  clear h h2
  go_enter Tryz.func17, Tryz.ntmps17
  go_wp2_with fail
  go_loopw [5] (fun i wr => ∃ k : Nat, k ≤ n ∧ i = .int .i64 k ∧ Below w.heap.size w wr) (fun i _ => n - (intOf i).toNat)
  case atStart => exact ⟨0, Nat.zero_le _, rfl, Below.refl _ _⟩
  case round =>
    obtain ⟨k, hk, rfl, hbel⟩ := hrel
    by_cases hlt : k < n
    · obtain ⟨g, X, m, xc, hA, hg, p0, p1, p2, p3, hbs⟩ := (H.out.below hbel).get (j := k) (by omega)
      obtain ⟨g2, X2, m2, xc2, hB, hg2, q0, q1, q2, q3, hbs2⟩ := (H2.out.below hbel).get (j := k) (by omega)
      subst hA hB
      obtain ⟨d, hd⟩ : ∃ d, ds[k]'(by omega) = d := ⟨_, rfl⟩
      rw [hd] at p0 p1 p2 hbs q0 q1 q2 hbs2
      have HS := Lib.hid hbs
      have HS2 := Lib.hid hbs2
      have Hbel := Lib.hid hbel
      have HK := Lib.hid (fun (w' : World) (hb : Below wr.heap.size wr w') => keep8 hb hg hg2 p0 p1 p2 p3 q0 q1 q2 q3)
      clear hd hbs hbs2 hbel p0 p1 p2 p3 q0 q1 q2 q3
      go_upto_region 6 with fail
      (refine wp_region_held_drew (S := fun w' => w'.cell? ⟨g, k * 4, none⟩ = some (.string d.t) ∧ w'.cell? ⟨g, k * 4 + 1, none⟩ = some (.int .i64 d.who) ∧ w'.cell? ⟨g, k * 4 + 2, none⟩ = some (.int .i64 d.inc) ∧ w'.cell? ⟨g, k * 4 + 3, none⟩ = some (.slice X m xc) ∧ w'.cell? ⟨g2, k * 4, none⟩ = some (.string d.t) ∧ w'.cell? ⟨g2, k * 4 + 1, none⟩ = some (.int .i64 d.who) ∧ w'.cell? ⟨g2, k * 4 + 2, none⟩ = some (.int .i64 d.inc) ∧ w'.cell? ⟨g2, k * 4 + 3, none⟩ = some (.slice X2 m2 xc2) ∧ Below wr.heap.size wr w') (by kernel_rfl) (HK.out _ (by (repeat (first | assumption | exact Below.refl _ _ | (with_reducible apply Below.drew) | (with_reducible apply bl_drewN) | (with_reducible apply bl_alloc) | (with_reducible refine bl_then ?_ (by assumption)))))) (fun hHeld => ?_))
      (refine wpAnyH_take (i := 0) (oi := _) (v := ?_) (ops_at rfl) (by kernel_rfl) (by kernel_rfl) (by kernel_rfl) (fun _ _ _ h => h) (Or.inl ⟨by rfl, ?_⟩) (by assumption) ?_; rotate_left; (focus (intro w hSw; (try dsimp only at hSw); go_simp; (try with_reducible rfl))); (try simp only [Act.put, List.setIfInBounds_toArray, List.set_cons_zero, List.set_cons_succ])); (refine wpAnyH_take (i := 1) (oi := _) (v := ?_) (ops_at rfl) (by kernel_rfl) (by kernel_rfl) (by kernel_rfl) (fun _ _ _ h => h) (Or.inl ⟨by rfl, ?_⟩) (by assumption) ?_; rotate_left; (focus (intro w hSw; (try dsimp only at hSw); go_simp; (try with_reducible rfl))); (try simp only [Act.put, List.setIfInBounds_toArray, List.set_cons_zero, List.set_cons_succ])); (refine wpAnyH_take (i := 2) (oi := _) (v := ?_) (ops_at rfl) (by kernel_rfl) (by kernel_rfl) (by kernel_rfl) (fun _ _ _ h => h) (Or.inl ⟨by rfl, ?_⟩) (by assumption) ?_; rotate_left; (focus (intro w hSw; (try dsimp only at hSw); go_simp; (try with_reducible rfl))); (try simp only [Act.put, List.setIfInBounds_toArray, List.set_cons_zero, List.set_cons_succ])); (refine wpAnyH_take (i := 4) (oi := _) (v := ?_) (ops_at rfl) (by kernel_rfl) (by kernel_rfl) (by kernel_rfl) (fun _ _ _ h => h) (Or.inl ⟨by rfl, ?_⟩) (by assumption) ?_; rotate_left; (focus (intro w hSw; (try dsimp only at hSw); go_simp; (try with_reducible rfl))); (try simp only [Act.put, List.setIfInBounds_toArray, List.set_cons_zero, List.set_cons_succ])); (refine wpAnyH_take (i := 5) (oi := _) (v := ?_) (ops_at rfl) (by kernel_rfl) (by kernel_rfl) (by kernel_rfl) (fun _ _ _ h => h) (Or.inl ⟨by rfl, ?_⟩) (by assumption) ?_; rotate_left; (focus (intro w hSw; (try dsimp only at hSw); go_simp; (try with_reducible rfl))); (try simp only [Act.put, List.setIfInBounds_toArray, List.set_cons_zero, List.set_cons_succ])); (refine wpAnyH_take (i := 6) (oi := _) (v := ?_) (ops_at rfl) (by kernel_rfl) (by kernel_rfl) (by kernel_rfl) (fun _ _ _ h => h) (Or.inl ⟨by rfl, ?_⟩) (by assumption) ?_; rotate_left; (focus (intro w hSw; (try dsimp only at hSw); go_simp; (try with_reducible rfl))); (try simp only [Act.put, List.setIfInBounds_toArray, List.set_cons_zero, List.set_cons_succ]))
      (refine wpAnyH_take (i := 3) (oi := _) (v := ?_) (ops_at rfl) (by kernel_rfl) (by kernel_rfl) (by kernel_rfl) (fun _ _ _ h => h) (Or.inl ⟨by rfl, ?_⟩) (by assumption) ?_; rotate_left; (focus (intro w hSw; (try dsimp only at hSw); go_simp; (try with_reducible rfl))); (try simp only [Act.put, List.setIfInBounds_toArray, List.set_cons_zero, List.set_cons_succ])); (refine wpAnyH_take (i := 7) (oi := _) (v := ?_) (ops_at rfl) (by kernel_rfl) (by kernel_rfl) (by kernel_rfl) (fun _ _ _ h => h) (Or.inl ⟨by rfl, ?_⟩) (by assumption) ?_; rotate_left; (focus (intro w hSw; (try dsimp only at hSw); go_simp; (try with_reducible rfl))); (try simp only [Act.put, List.setIfInBounds_toArray, List.set_cons_zero, List.set_cons_succ]))
      (refine wpAnyH_ready (rs := [8]) (by kernel_rfl) (by simp) (AllReadyH.cons (ops_at rfl) (fun K hK => ?_) AllReadyH.nil); go_simp; (refine (samedone_any d X X2 m xc m2 xc2 _ HS.out.drew HS2.out.drew).mono ?_; rintro e w2 ⟨rfl, hb2⟩; have hb3 : Below wr.heap.size wr w2 := (Below.refl _ _).drew.trans hb2); refine hK.out _ _ (HK.out _ hb3) (fun hHeld => ?_); clear hK K; (try simp only [Act.put, List.setIfInBounds_toArray, List.set_cons_zero, List.set_cons_succ]))
      (refine wpAnyH_take (i := 9) (oi := _) (v := ?_) (ops_at rfl) (by kernel_rfl) (by kernel_rfl) (by kernel_rfl) (fun _ _ _ h => h) (Or.inl ⟨by rfl, ?_⟩) (by assumption) ?_; rotate_left; (focus (intro w hSw; (try dsimp only at hSw); go_simp; (try with_reducible rfl))); (try simp only [Act.put, List.setIfInBounds_toArray, List.set_cons_zero, List.set_cons_succ]))
      (refine wpAnyH_done (by kernel_rfl) ?_ _)
      have Hb3 := Lib.hid (Hbel.out.trans (hb3.mono Hbel.out.size))
      clear hb2 hb3 hHeld
      go_wp2_with fail
      exact ⟨⟨k + 1, by omega, by go_num, Hb3.out⟩, by simp [intOf]; omega⟩
    · have hkn : k = n := by omega
      subst hkn
      have Hbel := Lib.hid hbel
      clear hbel
      go_wp2_with fail
      go_ret
      exact ⟨rfl, Hbel.out⟩
end Go.Proofs.YtahdeighocmijaaGreat
