/- The walk of CodeForms. -/
import Derived.Test.YtdegfbhnilbcfaaAwake2
import Derived.Test.YtdegfbhnilbcfaaCrcs
import Derived.Deep.DeepCutAuto
namespace Go.Proofs.Ytdegfbhnilbcfaa
set_option linter.unusedSimpArgs false
set_option linter.unusedVariables false
open Go.RowKit
open Crc (Bytes)
open Cod (six held far numOf)

/-- A row: a number, and its six bytes. -/
structure FormRow (w : World) (wx : World) (s4 : Value) (n : Int) (b : ByteArray) : Prop where
  out : ∃ g, s4 = .pointer (some ⟨g, 0, none⟩) ∧ w.heap.size ≤ g ∧ Blk wx g 32 [.int .i64 n, .string b]
  six_ : bl b = six n
  wf : -9223372036854775808 ≤ n ∧ n ≤ 9223372036854775807
  bel : Below w.heap.size w wx
def FormAt (w : World) (s4 : Value) (wx : World) : Prop := ∃ n b, FormRow w wx s4 n b

theorem keep1 {W w' : World} {g : Nat} {v : Value} (h1 : W.cell? ⟨g, 1, none⟩ = some v) (hz : g < W.heap.size) (hb : Below W.heap.size W w') : w'.cell? ⟨g, 1, none⟩ = some v ∧ Below W.heap.size W w' :=
  ⟨(hb.cell (p := ⟨g, 1, none⟩) hz).trans h1, hb⟩
theorem keepB {W w' : World} {g : Nat} {u v : Value} (h : W.cell? ⟨g, 0, none⟩ = some u ∧ W.cell? ⟨g, 1, none⟩ = some v) (hz : g < W.heap.size) (hb : Below W.heap.size W w') : w'.cell? ⟨g, 0, none⟩ = some u ∧ w'.cell? ⟨g, 1, none⟩ = some v :=
  ⟨(hb.cell (p := ⟨g, 0, none⟩) hz).trans h.1, (hb.cell (p := ⟨g, 1, none⟩) hz).trans h.2⟩
theorem keepO {W w' : World} {g : Nat} {u v : Value} {bs : List Nat} (h : W.cell? ⟨g, 0, none⟩ = some u ∧ W.cell? ⟨g, 1, none⟩ = some v) (hz : g < W.heap.size) (hb : Only bs W w') (hn : g ∉ bs) : w'.cell? ⟨g, 0, none⟩ = some u ∧ w'.cell? ⟨g, 1, none⟩ = some v :=
  ⟨(hb.cell (p := ⟨g, 0, none⟩) hz hn).trans h.1, (hb.cell (p := ⟨g, 1, none⟩) hz hn).trans h.2⟩
structure FormRd (w : World) (g : Nat) (x : Int) (b : ByteArray) (s6 s7 : Value) (wx : World) : Prop where
  out : ∃ g6 g7, s6 = .pointer (some ⟨g6, 0, none⟩) ∧ s7 = .pointer (some ⟨g7, 0, none⟩) ∧ RdAt wx g6 (bl b) false ∧ RdAt wx g7 (bl b) false ∧ g6 ≠ g7 ∧ g < g6 ∧ g < g7
  blk : Blk wx g 32 [.int .i64 x, .string b]
  bel : Below w.heap.size w wx
set_option maxHeartbeats 4000000 in
theorem forms2_any (n : Int) (w : World) : Calls Try.prog 6 #[.int .i64 n] w fun e w' => e = .returned (.bool true) ∧ Below w.heap.size w w' := by
  obtain ⟨m, hm, he⟩ := and255 n
  have h9 : m % 9 = 0 ∨ m % 9 = 1 ∨ m % 9 = 2 ∨ m % 9 = 3 ∨ m % 9 = 4 ∨ m % 9 = 5 ∨ m % 9 = 6 ∨ m % 9 = 7 ∨ m % 9 = 8 := by omega
  have H9 := Lib.hid h9
  clear h9
  go_enter Try.func6, Try.ntmps6
  go_upto_region 2 with fail
  go_cut [4] (fun s4 wx => FormAt w s4 wx)
  case first =>
    rcases H9.out with h | h | h | h | h | h | h | h | h
    · have hk : (m : Int) % 9 = 0 := by omega
      clear h
      go_wp2_with fail
      go_meet
      exact ⟨0, ⟨#[0, 0, 0, 0, 0, 0]⟩, ⟨_, rfl, by omega, blk_new (by simp)⟩, by decide, by omega, by (repeat (first | assumption | exact Below.refl _ _ | (with_reducible apply Below.drew) | (with_reducible apply bl_drewN) | (with_reducible apply bl_alloc) | (with_reducible refine bl_then ?_ (by assumption))))⟩
    · have hk : (m : Int) % 9 = 1 := by omega
      clear h
      go_wp2_with fail
      go_meet
      exact ⟨1, ⟨#[0, 0, 0, 0, 0, 1]⟩, ⟨_, rfl, by omega, blk_new (by simp)⟩, by decide, by omega, by (repeat (first | assumption | exact Below.refl _ _ | (with_reducible apply Below.drew) | (with_reducible apply bl_drewN) | (with_reducible apply bl_alloc) | (with_reducible refine bl_then ?_ (by assumption))))⟩
    · have hk : (m : Int) % 9 = 2 := by omega
      clear h
      go_wp2_with fail
      go_meet
      exact ⟨255, ⟨#[0, 0, 0, 0, 0, 255]⟩, ⟨_, rfl, by omega, blk_new (by simp)⟩, by decide, by omega, by (repeat (first | assumption | exact Below.refl _ _ | (with_reducible apply Below.drew) | (with_reducible apply bl_drewN) | (with_reducible apply bl_alloc) | (with_reducible refine bl_then ?_ (by assumption))))⟩
    · have hk : (m : Int) % 9 = 3 := by omega
      clear h
      go_wp2_with fail
      go_meet
      exact ⟨65536, ⟨#[0, 0, 0, 1, 0, 0]⟩, ⟨_, rfl, by omega, blk_new (by simp)⟩, by decide, by omega, by (repeat (first | assumption | exact Below.refl _ _ | (with_reducible apply Below.drew) | (with_reducible apply bl_drewN) | (with_reducible apply bl_alloc) | (with_reducible refine bl_then ?_ (by assumption))))⟩
    · have hk : (m : Int) % 9 = 4 := by omega
      clear h
      go_wp2_with fail
      go_meet
      exact ⟨1099511627776, ⟨#[1, 0, 0, 0, 0, 0]⟩, ⟨_, rfl, by omega, blk_new (by simp)⟩, by decide, by omega, by (repeat (first | assumption | exact Below.refl _ _ | (with_reducible apply Below.drew) | (with_reducible apply bl_drewN) | (with_reducible apply bl_alloc) | (with_reducible refine bl_then ?_ (by assumption))))⟩
    · have hk : (m : Int) % 9 = 5 := by omega
      clear h
      go_wp2_with fail
      go_meet
      exact ⟨1099511627777, ⟨#[1, 0, 0, 0, 0, 0]⟩, ⟨_, rfl, by omega, blk_new (by simp)⟩, by decide, by omega, by (repeat (first | assumption | exact Below.refl _ _ | (with_reducible apply Below.drew) | (with_reducible apply bl_drewN) | (with_reducible apply bl_alloc) | (with_reducible refine bl_then ?_ (by assumption))))⟩
    · have hk : (m : Int) % 9 = 6 := by omega
      clear h
      go_wp2_with fail
      go_meet
      exact ⟨(-1), ⟨#[0, 0, 0, 0, 0, 0]⟩, ⟨_, rfl, by omega, blk_new (by simp)⟩, by decide, by omega, by (repeat (first | assumption | exact Below.refl _ _ | (with_reducible apply Below.drew) | (with_reducible apply bl_drewN) | (with_reducible apply bl_alloc) | (with_reducible refine bl_then ?_ (by assumption))))⟩
    · have hk : (m : Int) % 9 = 7 := by omega
      clear h
      go_wp2_with fail
      go_meet
      exact ⟨(-9223372036854775808), ⟨#[0, 0, 0, 0, 0, 0]⟩, ⟨_, rfl, by omega, blk_new (by simp)⟩, by decide, by omega, by (repeat (first | assumption | exact Below.refl _ _ | (with_reducible apply Below.drew) | (with_reducible apply bl_drewN) | (with_reducible apply bl_alloc) | (with_reducible refine bl_then ?_ (by assumption))))⟩
    · have hk : (m : Int) % 9 = 8 := by omega
      clear h
      go_wp2_with fail
      go_meet
      exact ⟨9223372036854775807, ⟨#[1, 0, 0, 0, 0, 0]⟩, ⟨_, rfl, by omega, blk_new (by simp)⟩, by decide, by omega, by (repeat (first | assumption | exact Below.refl _ _ | (with_reducible apply Below.drew) | (with_reducible apply bl_drewN) | (with_reducible apply bl_alloc) | (with_reducible refine bl_then ?_ (by assumption))))⟩
  case rest =>
    clear he H9 hm
    obtain ⟨wa, rfl⟩ : ∃ y : World, y = wc := ⟨_, rfl⟩
    obtain ⟨x, b, ⟨g, rfl, hg, hblk⟩, hsix, hwf, hbel⟩ := hcut
    obtain ⟨x1, hx1⟩ : ∃ x1, (if x < 0 then (0 : Int) else x) = x1 := ⟨_, rfl⟩
    have hx : (if 1099511627776 < x1 then (1099511627776 : Int) else x1) = held x := by
      rw [← hx1]; unfold held far; split <;> split <;> omega
    have hd := Cod.held_bd x
    obtain ⟨v, hv⟩ : ∃ v, v = held x := ⟨_, rfl⟩
    rw [← hv] at hx hd
    have Hv := Lib.hid hv
    have c0 : wa.cell? ⟨g, 0, none⟩ = some (.int .i64 x) := hblk.cell 0
    have c1 : wa.cell? ⟨g, 1, none⟩ = some (.string b) := hblk.cell 1
    have hbs : b.size = 6 := by rw [← bl_len, hsix]; rfl
    have Hbs := Lib.hid hbs
    have Hsix := Lib.hid hsix
    have Hblk := Lib.hid hblk
    have Hbel := Lib.hid hbel
    have hsz := hbel.size
    have hgl := hblk.lt
    have hb5 : b.size ≤ 140737488355328 := by omega
    have hw0 := hwf.1
    have hw1 := hwf.2
    clear hv hsix hblk hbel hbs hwf
    have kb := fun (w : World) (s : ByteArray) => run_bytes_of_string (P := Try.prog) w 9 26 5 s Try.underlying9 Try.underlying26 Try.underlying5
    go_upto_region 4 with fail
    go_cut [6, 7] (fun s6 s7 wx => FormRd w g x b s6 s7 wx)
    case first =>
      (refine wp_region_held_drew (S := fun w' => w'.cell? ⟨g, 1, none⟩ = some (.string b) ∧ Below wa.heap.size wa w') (by kernel_rfl) (keep1 c1 hgl (by (repeat (first | assumption | exact Below.refl _ _ | (with_reducible apply Below.drew) | (with_reducible apply bl_drewN) | (with_reducible apply bl_alloc) | (with_reducible refine bl_then ?_ (by assumption)))))) (fun hHeld => ?_))
      (refine wpAnyH_take (i := 0) (oi := _) (v := ?_) (ops_at rfl) (by kernel_rfl) (by kernel_rfl) (by kernel_rfl) (fun _ _ _ h => h) (Or.inl ⟨by rfl, ?_⟩) (by assumption) ?_; rotate_left; (focus (intro w hSw; (try dsimp only at hSw); go_simp; (try with_reducible rfl))); (try simp only [Act.put, List.setIfInBounds_toArray, List.set_cons_zero, List.set_cons_succ])); (refine wpAnyH_take (i := 1) (oi := _) (v := ?_) (ops_at rfl) (by kernel_rfl) (by kernel_rfl) (by kernel_rfl) (fun _ _ _ h => h) (Or.inl ⟨by rfl, ?_⟩) (by assumption) ?_; rotate_left; (focus (intro w hSw; (try dsimp only at hSw); go_simp; (try with_reducible rfl))); (try simp only [Act.put, List.setIfInBounds_toArray, List.set_cons_zero, List.set_cons_succ])); (refine wpAnyH_take (i := 4) (oi := _) (v := ?_) (ops_at rfl) (by kernel_rfl) (by kernel_rfl) (by kernel_rfl) (fun _ _ _ h => h) (Or.inl ⟨by rfl, ?_⟩) (by assumption) ?_; rotate_left; (focus (intro w hSw; (try dsimp only at hSw); go_simp; (try with_reducible rfl))); (try simp only [Act.put, List.setIfInBounds_toArray, List.set_cons_zero, List.set_cons_succ])); (refine wpAnyH_take (i := 5) (oi := _) (v := ?_) (ops_at rfl) (by kernel_rfl) (by kernel_rfl) (by kernel_rfl) (fun _ _ _ h => h) (Or.inl ⟨by rfl, ?_⟩) (by assumption) ?_; rotate_left; (focus (intro w hSw; (try dsimp only at hSw); go_simp; (try with_reducible rfl))); (try simp only [Act.put, List.setIfInBounds_toArray, List.set_cons_zero, List.set_cons_succ]))
      (refine wpAnyH_ready (rs := [2, 6]) (by kernel_rfl) (by simp) (AllReadyH.cons (ops_at rfl) (fun K hK => ?_) (AllReadyH.cons (ops_at rfl) (fun K hK => ?_) AllReadyH.nil)))
      · (go_simp; skip; refine hK.out _ _ (keep1 c1 hgl (by (repeat (first | assumption | exact Below.refl _ _ | (with_reducible apply Below.drew) | (with_reducible apply bl_drewN) | (with_reducible apply bl_alloc) | (with_reducible refine bl_then ?_ (by assumption)))))) (fun hHeld => ?_); clear hK K; (try simp only [Act.put, List.setIfInBounds_toArray, List.set_cons_zero, List.set_cons_succ]))
        (refine wpAnyH_ready (rs := [3, 6]) (by kernel_rfl) (by simp) (AllReadyH.cons (ops_at rfl) (fun K hK => ?_) (AllReadyH.cons (ops_at rfl) (fun K hK => ?_) AllReadyH.nil)))
        · (go_simp; (refine (read_any _ _ _ (bl b) _ (by repeat (first | (refine bs_conv ?_ ?_; (focus assumption); (focus (simp; done))) | (with_reducible apply Bs.drew) | (with_reducible apply Bs.drewN) | (with_reducible apply Bs.alloc) | (with_reducible refine Bs.below ?_ (by assumption))))).mono ?_; rintro e w1 ⟨g6, rfl, hr6, hg6, hb1⟩); refine hK.out _ _ (keep1 c1 hgl (by (repeat (first | assumption | exact Below.refl _ _ | (with_reducible apply Below.drew) | (with_reducible apply bl_drewN) | (with_reducible apply bl_alloc) | (with_reducible refine bl_then ?_ (by assumption)))))) (fun hHeld => ?_); clear hK K; (try simp only [Act.put, List.setIfInBounds_toArray, List.set_cons_zero, List.set_cons_succ]))
          (refine wpAnyH_ready (rs := [6]) (by kernel_rfl) (by simp) (AllReadyH.cons (ops_at rfl) (fun K hK => ?_) AllReadyH.nil); go_simp; skip; refine hK.out _ _ (keep1 c1 hgl (by (repeat (first | assumption | exact Below.refl _ _ | (with_reducible apply Below.drew) | (with_reducible apply bl_drewN) | (with_reducible apply bl_alloc) | (with_reducible refine bl_then ?_ (by assumption)))))) (fun hHeld => ?_); clear hK K; (try simp only [Act.put, List.setIfInBounds_toArray, List.set_cons_zero, List.set_cons_succ]))
          (refine wpAnyH_ready (rs := [7]) (by kernel_rfl) (by simp) (AllReadyH.cons (ops_at rfl) (fun K hK => ?_) AllReadyH.nil); go_simp; (refine (read_any _ _ _ (bl b) _ (by repeat (first | (refine bs_conv ?_ ?_; (focus assumption); (focus (simp; done))) | (with_reducible apply Bs.drew) | (with_reducible apply Bs.drewN) | (with_reducible apply Bs.alloc) | (with_reducible refine Bs.below ?_ (by assumption))))).mono ?_; rintro e w2 ⟨g7, rfl, hr7, hg7, hb2⟩); refine hK.out _ _ (keep1 c1 hgl (by (repeat (first | assumption | exact Below.refl _ _ | (with_reducible apply Below.drew) | (with_reducible apply bl_drewN) | (with_reducible apply bl_alloc) | (with_reducible refine bl_then ?_ (by assumption)))))) (fun hHeld => ?_); clear hK K; (try simp only [Act.put, List.setIfInBounds_toArray, List.set_cons_zero, List.set_cons_succ]))
          (refine wpAnyH_take (i := 8) (oi := _) (v := ?_) (ops_at rfl) (by kernel_rfl) (by kernel_rfl) (by kernel_rfl) (fun _ _ _ h => h) (Or.inl ⟨by rfl, ?_⟩) (by assumption) ?_; rotate_left; (focus (intro w hSw; (try dsimp only at hSw); go_simp; (try with_reducible rfl))); (try simp only [Act.put, List.setIfInBounds_toArray, List.set_cons_zero, List.set_cons_succ])); (refine wpAnyH_take (i := 9) (oi := _) (v := ?_) (ops_at rfl) (by kernel_rfl) (by kernel_rfl) (by kernel_rfl) (fun _ _ _ h => h) (Or.inl ⟨by rfl, ?_⟩) (by assumption) ?_; rotate_left; (focus (intro w hSw; (try dsimp only at hSw); go_simp; (try with_reducible rfl))); (try simp only [Act.put, List.setIfInBounds_toArray, List.set_cons_zero, List.set_cons_succ])); (refine wpAnyH_done (by kernel_rfl) ?_ _); go_wp2_with fail; go_meet; have q1 := hr6.lt; simp at hg6 hg7; (try have q2 := hb1.size); (try simp at q2); exact ⟨⟨g6, g7, rfl, rfl, (by repeat (first | with_reducible assumption | (with_reducible apply RdAt.drew) | (with_reducible apply RdAt.drewN) | (with_reducible apply RdAt.alloc) | (with_reducible refine RdAt.below ?_ (by assumption)))), hr7, by omega, by omega, by omega⟩, Hblk.out.below hHeld.2, Hbel.out.trans (hHeld.2.mono hsz)⟩
        · (go_simp; skip; refine hK.out _ _ (keep1 c1 hgl (by (repeat (first | assumption | exact Below.refl _ _ | (with_reducible apply Below.drew) | (with_reducible apply bl_drewN) | (with_reducible apply bl_alloc) | (with_reducible refine bl_then ?_ (by assumption)))))) (fun hHeld => ?_); clear hK K; (try simp only [Act.put, List.setIfInBounds_toArray, List.set_cons_zero, List.set_cons_succ]))
          (refine wpAnyH_ready (rs := [3]) (by kernel_rfl) (by simp) (AllReadyH.cons (ops_at rfl) (fun K hK => ?_) AllReadyH.nil); go_simp; (refine (read_any _ _ _ (bl b) _ (by repeat (first | (refine bs_conv ?_ ?_; (focus assumption); (focus (simp; done))) | (with_reducible apply Bs.drew) | (with_reducible apply Bs.drewN) | (with_reducible apply Bs.alloc) | (with_reducible refine Bs.below ?_ (by assumption))))).mono ?_; rintro e w1 ⟨g6, rfl, hr6, hg6, hb1⟩); refine hK.out _ _ (keep1 c1 hgl (by (repeat (first | assumption | exact Below.refl _ _ | (with_reducible apply Below.drew) | (with_reducible apply bl_drewN) | (with_reducible apply bl_alloc) | (with_reducible refine bl_then ?_ (by assumption)))))) (fun hHeld => ?_); clear hK K; (try simp only [Act.put, List.setIfInBounds_toArray, List.set_cons_zero, List.set_cons_succ]))
          (refine wpAnyH_ready (rs := [7]) (by kernel_rfl) (by simp) (AllReadyH.cons (ops_at rfl) (fun K hK => ?_) AllReadyH.nil); go_simp; (refine (read_any _ _ _ (bl b) _ (by repeat (first | (refine bs_conv ?_ ?_; (focus assumption); (focus (simp; done))) | (with_reducible apply Bs.drew) | (with_reducible apply Bs.drewN) | (with_reducible apply Bs.alloc) | (with_reducible refine Bs.below ?_ (by assumption))))).mono ?_; rintro e w2 ⟨g7, rfl, hr7, hg7, hb2⟩); refine hK.out _ _ (keep1 c1 hgl (by (repeat (first | assumption | exact Below.refl _ _ | (with_reducible apply Below.drew) | (with_reducible apply bl_drewN) | (with_reducible apply bl_alloc) | (with_reducible refine bl_then ?_ (by assumption)))))) (fun hHeld => ?_); clear hK K; (try simp only [Act.put, List.setIfInBounds_toArray, List.set_cons_zero, List.set_cons_succ]))
          (refine wpAnyH_take (i := 8) (oi := _) (v := ?_) (ops_at rfl) (by kernel_rfl) (by kernel_rfl) (by kernel_rfl) (fun _ _ _ h => h) (Or.inl ⟨by rfl, ?_⟩) (by assumption) ?_; rotate_left; (focus (intro w hSw; (try dsimp only at hSw); go_simp; (try with_reducible rfl))); (try simp only [Act.put, List.setIfInBounds_toArray, List.set_cons_zero, List.set_cons_succ])); (refine wpAnyH_take (i := 9) (oi := _) (v := ?_) (ops_at rfl) (by kernel_rfl) (by kernel_rfl) (by kernel_rfl) (fun _ _ _ h => h) (Or.inl ⟨by rfl, ?_⟩) (by assumption) ?_; rotate_left; (focus (intro w hSw; (try dsimp only at hSw); go_simp; (try with_reducible rfl))); (try simp only [Act.put, List.setIfInBounds_toArray, List.set_cons_zero, List.set_cons_succ])); (refine wpAnyH_done (by kernel_rfl) ?_ _); go_wp2_with fail; go_meet; have q1 := hr6.lt; simp at hg6 hg7; (try have q2 := hb1.size); (try simp at q2); exact ⟨⟨g6, g7, rfl, rfl, (by repeat (first | with_reducible assumption | (with_reducible apply RdAt.drew) | (with_reducible apply RdAt.drewN) | (with_reducible apply RdAt.alloc) | (with_reducible refine RdAt.below ?_ (by assumption)))), hr7, by omega, by omega, by omega⟩, Hblk.out.below hHeld.2, Hbel.out.trans (hHeld.2.mono hsz)⟩
      · (go_simp; skip; refine hK.out _ _ (keep1 c1 hgl (by (repeat (first | assumption | exact Below.refl _ _ | (with_reducible apply Below.drew) | (with_reducible apply bl_drewN) | (with_reducible apply bl_alloc) | (with_reducible refine bl_then ?_ (by assumption)))))) (fun hHeld => ?_); clear hK K; (try simp only [Act.put, List.setIfInBounds_toArray, List.set_cons_zero, List.set_cons_succ]))
        (refine wpAnyH_ready (rs := [2]) (by kernel_rfl) (by simp) (AllReadyH.cons (ops_at rfl) (fun K hK => ?_) AllReadyH.nil); go_simp; skip; refine hK.out _ _ (keep1 c1 hgl (by (repeat (first | assumption | exact Below.refl _ _ | (with_reducible apply Below.drew) | (with_reducible apply bl_drewN) | (with_reducible apply bl_alloc) | (with_reducible refine bl_then ?_ (by assumption)))))) (fun hHeld => ?_); clear hK K; (try simp only [Act.put, List.setIfInBounds_toArray, List.set_cons_zero, List.set_cons_succ]))
        (refine wpAnyH_ready (rs := [3]) (by kernel_rfl) (by simp) (AllReadyH.cons (ops_at rfl) (fun K hK => ?_) AllReadyH.nil); go_simp; (refine (read_any _ _ _ (bl b) _ (by repeat (first | (refine bs_conv ?_ ?_; (focus assumption); (focus (simp; done))) | (with_reducible apply Bs.drew) | (with_reducible apply Bs.drewN) | (with_reducible apply Bs.alloc) | (with_reducible refine Bs.below ?_ (by assumption))))).mono ?_; rintro e w1 ⟨g6, rfl, hr6, hg6, hb1⟩); refine hK.out _ _ (keep1 c1 hgl (by (repeat (first | assumption | exact Below.refl _ _ | (with_reducible apply Below.drew) | (with_reducible apply bl_drewN) | (with_reducible apply bl_alloc) | (with_reducible refine bl_then ?_ (by assumption)))))) (fun hHeld => ?_); clear hK K; (try simp only [Act.put, List.setIfInBounds_toArray, List.set_cons_zero, List.set_cons_succ]))
        (refine wpAnyH_ready (rs := [7]) (by kernel_rfl) (by simp) (AllReadyH.cons (ops_at rfl) (fun K hK => ?_) AllReadyH.nil); go_simp; (refine (read_any _ _ _ (bl b) _ (by repeat (first | (refine bs_conv ?_ ?_; (focus assumption); (focus (simp; done))) | (with_reducible apply Bs.drew) | (with_reducible apply Bs.drewN) | (with_reducible apply Bs.alloc) | (with_reducible refine Bs.below ?_ (by assumption))))).mono ?_; rintro e w2 ⟨g7, rfl, hr7, hg7, hb2⟩); refine hK.out _ _ (keep1 c1 hgl (by (repeat (first | assumption | exact Below.refl _ _ | (with_reducible apply Below.drew) | (with_reducible apply bl_drewN) | (with_reducible apply bl_alloc) | (with_reducible refine bl_then ?_ (by assumption)))))) (fun hHeld => ?_); clear hK K; (try simp only [Act.put, List.setIfInBounds_toArray, List.set_cons_zero, List.set_cons_succ]))
        (refine wpAnyH_take (i := 8) (oi := _) (v := ?_) (ops_at rfl) (by kernel_rfl) (by kernel_rfl) (by kernel_rfl) (fun _ _ _ h => h) (Or.inl ⟨by rfl, ?_⟩) (by assumption) ?_; rotate_left; (focus (intro w hSw; (try dsimp only at hSw); go_simp; (try with_reducible rfl))); (try simp only [Act.put, List.setIfInBounds_toArray, List.set_cons_zero, List.set_cons_succ])); (refine wpAnyH_take (i := 9) (oi := _) (v := ?_) (ops_at rfl) (by kernel_rfl) (by kernel_rfl) (by kernel_rfl) (fun _ _ _ h => h) (Or.inl ⟨by rfl, ?_⟩) (by assumption) ?_; rotate_left; (focus (intro w hSw; (try dsimp only at hSw); go_simp; (try with_reducible rfl))); (try simp only [Act.put, List.setIfInBounds_toArray, List.set_cons_zero, List.set_cons_succ])); (refine wpAnyH_done (by kernel_rfl) ?_ _); go_wp2_with fail; go_meet; have q1 := hr6.lt; simp at hg6 hg7; (try have q2 := hb1.size); (try simp at q2); exact ⟨⟨g6, g7, rfl, rfl, (by repeat (first | with_reducible assumption | (with_reducible apply RdAt.drew) | (with_reducible apply RdAt.drewN) | (with_reducible apply RdAt.alloc) | (with_reducible refine RdAt.below ?_ (by assumption)))), hr7, by omega, by omega, by omega⟩, Hblk.out.below hHeld.2, Hbel.out.trans (hHeld.2.mono hsz)⟩
    case rest =>
      obtain ⟨⟨g6, g7, rfl, rfl, hr6, hr7, h67, hg6, hg7⟩, hblk, hbel⟩ := hcut
      rw [Hsix.out] at hr6 hr7
      clear c0 c1 Hblk Hbel hx hx1
      have hnum : numOf (six x) = v := by
        have := Cod.numOf_six x []
        rw [List.append_nil] at this
        rw [this, Hv.out]
      have r6 : rnum (six x, false) v = (v, ([], false)) := by
        rw [rnum_good (by simp [six]) (by rw [hnum]; omega), hnum]; rfl
      have r7 : rnum (six x, false) (v - 1) = (0, ([], true)) := rnum_bad (.inr (.inr (by rw [hnum]; omega)))
      have R6 := Lib.hid r6
      have R7 := Lib.hid r7
      have Hblk := Lib.hid hblk
      have Hbel := Lib.hid hbel
      have hd0 := hd.1
      have hd1 := hd.2
      have hsz2 := hbel.size
      have h6l := hr6.lt
      clear hblk hbel r6 r7 hnum hd
      go_wp2_with fail
      refine (rnum_eq g6 _ false v _ _ R6.out hr6).mono ?_
      rintro e w1 ⟨rfl, hq6, ho1⟩
      have hq7 : RdAt w1 g7 (six x) false := hr7.only ho1 (by simpa using fun h => h67 h.symm) (by simpa using hr6.blk)
      have hblk1 := Hblk.out.only ho1 (by simp; omega)
      have k0 : w1.cell? ⟨g, 0, none⟩ = some (.int .i64 x) := hblk1.cell 0
      have k1 : w1.cell? ⟨g, 1, none⟩ = some (.string b) := hblk1.cell 1
      have Hw1 := Lib.hid (below_only Hbel.out ho1 (show ∀ b ∈ [g6], w.heap.size ≤ b by simp; omega) hsz2)
      have hz1 := Hw1.out.size
      have hgl1 := hblk1.lt
      have Hq6 := Lib.hid hq6
      have Hq7 := Lib.hid hq7
      clear hr6 hr7 ho1 hblk1 hq6 hq7 Hblk Hbel
      go_wp2_with fail
      have hS := And.intro k0 k1
      have hsub : IntKind.i64.wrap (v - 1) = v - 1 := by rw [IntKind.wrap_i64]; omega
      (refine wp_region_held_drew (S := fun w' => w'.cell? ⟨g, 0, none⟩ = some (.int .i64 x) ∧ w'.cell? ⟨g, 1, none⟩ = some (.string b)) (by kernel_rfl) (hS) (fun hHeld => ?_))
      clear k0 k1 hS
      (refine wpAnyH_take (i := 0) (oi := _) (v := ?_) (ops_at rfl) (by kernel_rfl) (by kernel_rfl) (by kernel_rfl) (fun _ _ _ h => h) (Or.inl ⟨by rfl, ?_⟩) (by assumption) ?_; rotate_left; (focus (intro w hSw; (try dsimp only at hSw); go_simp; (try with_reducible rfl))); (try simp only [Act.put, List.setIfInBounds_toArray, List.set_cons_zero, List.set_cons_succ])); (refine wpAnyH_take (i := 1) (oi := _) (v := ?_) (ops_at rfl) (by kernel_rfl) (by kernel_rfl) (by kernel_rfl) (fun _ _ _ h => h) (Or.inl ⟨by rfl, ?_⟩) (by assumption) ?_; rotate_left; (focus (intro w hSw; (try dsimp only at hSw); go_simp; (try with_reducible rfl))); (try simp only [Act.put, List.setIfInBounds_toArray, List.set_cons_zero, List.set_cons_succ])); (refine wpAnyH_take (i := 4) (oi := _) (v := ?_) (ops_at rfl) (by kernel_rfl) (by kernel_rfl) (by kernel_rfl) (fun _ _ _ h => h) (Or.inl ⟨by rfl, ?_⟩) (by assumption) ?_; rotate_left; (focus (intro w hSw; (try dsimp only at hSw); go_simp; (try with_reducible rfl))); (try simp only [Act.put, List.setIfInBounds_toArray, List.set_cons_zero, List.set_cons_succ])); (refine wpAnyH_take (i := 5) (oi := _) (v := ?_) (ops_at rfl) (by kernel_rfl) (by kernel_rfl) (by kernel_rfl) (fun _ _ _ h => h) (Or.inl ⟨by rfl, ?_⟩) (by assumption) ?_; rotate_left; (focus (intro w hSw; (try dsimp only at hSw); go_simp; (try with_reducible rfl))); (try simp only [Act.put, List.setIfInBounds_toArray, List.set_cons_zero, List.set_cons_succ]))
      (refine wpAnyH_ready (rs := [2]) (by kernel_rfl) (by simp) (AllReadyH.cons (ops_at rfl) (fun K hK => ?_) AllReadyH.nil); go_simp; (refine (num_any none 0 0 [] x _ (Bs.nil _ _) (by omega)).mono ?_; rintro e w2 ⟨A2, n2, c2, rfl, hn2, ho2, _, hb2⟩; (have hn2' : 6 = n2 := hn2); subst hn2'); refine hK.out _ _ (keepB hHeld hgl1 hb2) (fun hHeld => ?_); clear hK K; (try simp only [Act.put, List.setIfInBounds_toArray, List.set_cons_zero, List.set_cons_succ]))
      have hB2 := own_bs ho2 (bytes_app bytes_nil (Cod.six_bytes x)) (by omega)
      have Hq6b := Lib.hid (Hq6.out.drew.below hb2)
      have Hq7b := Lib.hid (Hq7.out.drew.below hb2)
      have Hw2 := Lib.hid (Hw1.out.drew.trans (hb2.mono (by simpa using hz1)))
      have hgl2 : g < w2.heap.size := by have := hb2.size; simp at this; omega
      have kk := conv_str (P := Try.prog) (c := c2) Try.underlying26 Try.underlying5 Try.underlying9 hB2
      have hsb : str ([] ++ six x) = b := by rw [List.nil_append, ← Hsix.out, str_bl]
      rw [hsb] at kk
      have hz2 := Hw2.out.size
      clear ho2 hn2 hb2 hB2 hsb Hq6 Hq7 Hw1
      (refine wpAnyH_ready (rs := [3]) (by kernel_rfl) (by simp) (AllReadyH.cons (ops_at rfl) (fun K hK => ?_) AllReadyH.nil); go_simp; skip; refine hK.out _ _ (hHeld) (fun hHeld => ?_); clear hK K; (try simp only [Act.put, List.setIfInBounds_toArray, List.set_cons_zero, List.set_cons_succ]))
      (refine wpAnyH_take (i := 6) (oi := _) (v := ?_) (ops_at rfl) (by kernel_rfl) (by kernel_rfl) (by kernel_rfl) (fun _ _ _ h => h) (Or.inl ⟨by rfl, ?_⟩) (by assumption) ?_; rotate_left; (focus (intro w hSw; (try dsimp only at hSw); go_simp; (try with_reducible rfl))); (try simp only [Act.put, List.setIfInBounds_toArray, List.set_cons_zero, List.set_cons_succ])); (refine wpAnyH_take (i := 7) (oi := _) (v := ?_) (ops_at rfl) (by kernel_rfl) (by kernel_rfl) (by kernel_rfl) (fun _ _ _ h => h) (Or.inl ⟨by rfl, ?_⟩) (by assumption) ?_; rotate_left; (focus (intro w hSw; (try dsimp only at hSw); go_simp; (try with_reducible rfl))); (try simp only [Act.put, List.setIfInBounds_toArray, List.set_cons_zero, List.set_cons_succ])); (refine wpAnyH_take (i := 8) (oi := _) (v := ?_) (ops_at rfl) (by kernel_rfl) (by kernel_rfl) (by kernel_rfl) (fun _ _ _ h => h) (Or.inl ⟨by rfl, ?_⟩) (by assumption) ?_; rotate_left; (focus (intro w hSw; (try dsimp only at hSw); go_simp; (try with_reducible rfl))); (try simp only [Act.put, List.setIfInBounds_toArray, List.set_cons_zero, List.set_cons_succ])); (refine wpAnyH_take (i := 9) (oi := _) (v := ?_) (ops_at rfl) (by kernel_rfl) (by kernel_rfl) (by kernel_rfl) (fun _ _ _ h => h) (Or.inl ⟨by rfl, ?_⟩) (by assumption) ?_; rotate_left; (focus (intro w hSw; (try dsimp only at hSw); go_simp; (try with_reducible rfl))); (try simp only [Act.put, List.setIfInBounds_toArray, List.set_cons_zero, List.set_cons_succ])); (refine wpAnyH_take (i := 10) (oi := _) (v := ?_) (ops_at rfl) (by kernel_rfl) (by kernel_rfl) (by kernel_rfl) (fun _ _ _ h => h) (Or.inl ⟨by rfl, ?_⟩) (by assumption) ?_; rotate_left; (focus (intro w hSw; (try dsimp only at hSw); go_simp; (try with_reducible rfl))); (try simp only [Act.put, List.setIfInBounds_toArray, List.set_cons_zero, List.set_cons_succ])); (refine wpAnyH_take (i := 11) (oi := _) (v := ?_) (ops_at rfl) (by kernel_rfl) (by kernel_rfl) (by kernel_rfl) (fun _ _ _ h => h) (Or.inl ⟨by rfl, ?_⟩) (by assumption) ?_; rotate_left; (focus (intro w hSw; (try dsimp only at hSw); go_simp; (try with_reducible rfl))); (try simp only [Act.put, List.setIfInBounds_toArray, List.set_cons_zero, List.set_cons_succ])); (refine wpAnyH_take (i := 12) (oi := _) (v := ?_) (ops_at rfl) (by kernel_rfl) (by kernel_rfl) (by kernel_rfl) (fun _ _ _ h => h) (Or.inl ⟨by rfl, ?_⟩) (by assumption) ?_; rotate_left; (focus (intro w hSw; (try dsimp only at hSw); go_simp; (try with_reducible rfl))); (try simp only [Act.put, List.setIfInBounds_toArray, List.set_cons_zero, List.set_cons_succ])); (refine wpAnyH_take (i := 13) (oi := _) (v := ?_) (ops_at rfl) (by kernel_rfl) (by kernel_rfl) (by kernel_rfl) (fun _ _ _ h => h) (Or.inl ⟨by rfl, ?_⟩) (by assumption) ?_; rotate_left; (focus (intro w hSw; (try dsimp only at hSw); go_simp; (try with_reducible rfl))); (try simp only [Act.put, List.setIfInBounds_toArray, List.set_cons_zero, List.set_cons_succ]))
      (refine wpAnyH_ready (rs := [14]) (by kernel_rfl) (by simp) (AllReadyH.cons (ops_at rfl) (fun K hK => ?_) AllReadyH.nil); go_simp; (with_reducible refine (rend_any g6 [] false _ Hq6b.out).mono ?_; rintro e w3 ⟨rfl, rfl⟩); refine hK.out _ _ (hHeld) (fun hHeld => ?_); clear hK K; (try simp only [Act.put, List.setIfInBounds_toArray, List.set_cons_zero, List.set_cons_succ]))
      (refine wpAnyH_take (i := 15) (oi := _) (v := ?_) (ops_at rfl) (by kernel_rfl) (by kernel_rfl) (by kernel_rfl) (fun _ _ _ h => h) (Or.inl ⟨by rfl, ?_⟩) (by assumption) ?_; rotate_left; (focus (intro w hSw; (try dsimp only at hSw); go_simp; (try with_reducible rfl))); (try simp only [Act.put, List.setIfInBounds_toArray, List.set_cons_zero, List.set_cons_succ])); (refine wpAnyH_take (i := 16) (oi := _) (v := ?_) (ops_at rfl) (by kernel_rfl) (by kernel_rfl) (by kernel_rfl) (fun _ _ _ h => h) (Or.inl ⟨by rfl, ?_⟩) (by assumption) ?_; rotate_left; (focus (intro w hSw; (try dsimp only at hSw); go_simp; (try with_reducible rfl))); (try simp only [Act.put, List.setIfInBounds_toArray, List.set_cons_zero, List.set_cons_succ])); (refine wpAnyH_take (i := 17) (oi := _) (v := ?_) (ops_at rfl) (by kernel_rfl) (by kernel_rfl) (by kernel_rfl) (fun _ _ _ h => h) (Or.inl ⟨by rfl, ?_⟩) (by assumption) ?_; rotate_left; (focus (intro w hSw; (try dsimp only at hSw); go_simp; (try with_reducible rfl))); (try simp only [Act.put, List.setIfInBounds_toArray, List.set_cons_zero, List.set_cons_succ])); (refine wpAnyH_take (i := 18) (oi := _) (v := ?_) (ops_at rfl) (by kernel_rfl) (by kernel_rfl) (by kernel_rfl) (fun _ _ _ h => h) (Or.inl ⟨by rfl, ?_⟩) (by assumption) ?_; rotate_left; (focus (intro w hSw; (try dsimp only at hSw); go_simp; (try with_reducible rfl))); (try simp only [Act.put, List.setIfInBounds_toArray, List.set_cons_zero, List.set_cons_succ])); (refine wpAnyH_take (i := 19) (oi := _) (v := ?_) (ops_at rfl) (by kernel_rfl) (by kernel_rfl) (by kernel_rfl) (fun _ _ _ h => h) (Or.inl ⟨by rfl, ?_⟩) (by assumption) ?_; rotate_left; (focus (intro w hSw; (try dsimp only at hSw); go_simp; (try with_reducible rfl))); (try simp only [Act.put, List.setIfInBounds_toArray, List.set_cons_zero, List.set_cons_succ]))
      (refine wpAnyH_ready (rs := [20]) (by kernel_rfl) (by simp) (AllReadyH.cons (ops_at rfl) (fun K hK => ?_) AllReadyH.nil); go_simp; (with_reducible refine (rnum_eq g7 _ false (v - 1) _ _ R7.out Hq7b.out).mono ?_; rintro e w4 ⟨rfl, hq7, ho4⟩); refine hK.out _ _ (keepO hHeld hgl2 ho4 (by simp; omega)) (fun hHeld => ?_); clear hK K; (try simp only [Act.put, List.setIfInBounds_toArray, List.set_cons_zero, List.set_cons_succ]))
      have Hw4 := Lib.hid (below_only Hw2.out ho4 (show ∀ b ∈ [g7], w.heap.size ≤ b by simp; omega) hz2)
      have hz4 := Hw4.out.size
      have hgl4 : g < w4.heap.size := by have := ho4.size; omega
      clear ho4
      (refine wpAnyH_take (i := 21) (oi := _) (v := ?_) (ops_at rfl) (by kernel_rfl) (by kernel_rfl) (by kernel_rfl) (fun _ _ _ h => h) (Or.inl ⟨by rfl, ?_⟩) (by assumption) ?_; rotate_left; (focus (intro w hSw; (try dsimp only at hSw); go_simp; (try with_reducible rfl))); (try simp only [Act.put, List.setIfInBounds_toArray, List.set_cons_zero, List.set_cons_succ])); (refine wpAnyH_take (i := 22) (oi := _) (v := ?_) (ops_at rfl) (by kernel_rfl) (by kernel_rfl) (by kernel_rfl) (fun _ _ _ h => h) (Or.inl ⟨by rfl, ?_⟩) (by assumption) ?_; rotate_left; (focus (intro w hSw; (try dsimp only at hSw); go_simp; (try with_reducible rfl))); (try simp only [Act.put, List.setIfInBounds_toArray, List.set_cons_zero, List.set_cons_succ])); (refine wpAnyH_take (i := 23) (oi := _) (v := ?_) (ops_at rfl) (by kernel_rfl) (by kernel_rfl) (by kernel_rfl) (fun _ _ _ h => h) (Or.inl ⟨by rfl, ?_⟩) (by assumption) ?_; rotate_left; (focus (intro w hSw; (try dsimp only at hSw); go_simp; (try with_reducible rfl))); (try simp only [Act.put, List.setIfInBounds_toArray, List.set_cons_zero, List.set_cons_succ])); (refine wpAnyH_take (i := 24) (oi := _) (v := ?_) (ops_at rfl) (by kernel_rfl) (by kernel_rfl) (by kernel_rfl) (fun _ _ _ h => h) (Or.inl ⟨by rfl, ?_⟩) (by assumption) ?_; rotate_left; (focus (intro w hSw; (try dsimp only at hSw); go_simp; (try with_reducible rfl))); (try simp only [Act.put, List.setIfInBounds_toArray, List.set_cons_zero, List.set_cons_succ]))
      (refine wpAnyH_ready (rs := [25]) (by kernel_rfl) (by simp) (AllReadyH.cons (ops_at rfl) (fun K hK => ?_) AllReadyH.nil); go_simp; (with_reducible refine (rok_any g7 [] true _ hq7).mono ?_; rintro e w5 ⟨rfl, rfl⟩); refine hK.out _ _ (hHeld) (fun hHeld => ?_); clear hK K; (try simp only [Act.put, List.setIfInBounds_toArray, List.set_cons_zero, List.set_cons_succ]))
      (refine wpAnyH_take (i := 26) (oi := _) (v := ?_) (ops_at rfl) (by kernel_rfl) (by kernel_rfl) (by kernel_rfl) (fun _ _ _ h => h) (Or.inl ⟨by rfl, ?_⟩) (by assumption) ?_; rotate_left; (focus (intro w hSw; (try dsimp only at hSw); go_simp; (try with_reducible rfl))); (try simp only [Act.put, List.setIfInBounds_toArray, List.set_cons_zero, List.set_cons_succ])); (refine wpAnyH_take (i := 27) (oi := _) (v := ?_) (ops_at rfl) (by kernel_rfl) (by kernel_rfl) (by kernel_rfl) (fun _ _ _ h => h) (Or.inl ⟨by rfl, ?_⟩) (by assumption) ?_; rotate_left; (focus (intro w hSw; (try dsimp only at hSw); go_simp; (try with_reducible rfl))); (try simp only [Act.put, List.setIfInBounds_toArray, List.set_cons_zero, List.set_cons_succ])); (refine wpAnyH_take (i := 28) (oi := _) (v := ?_) (ops_at rfl) (by kernel_rfl) (by kernel_rfl) (by kernel_rfl) (fun _ _ _ h => h) (Or.inl ⟨by rfl, ?_⟩) (by assumption) ?_; rotate_left; (focus (intro w hSw; (try dsimp only at hSw); go_simp; (try with_reducible rfl))); (try simp only [Act.put, List.setIfInBounds_toArray, List.set_cons_zero, List.set_cons_succ]))
      (refine wpAnyH_ready (rs := [29]) (by kernel_rfl) (by simp) (AllReadyH.cons (ops_at rfl) (fun K hK => ?_) AllReadyH.nil); go_simp; (refine (awake2_any _).mono ?_; rintro e w6 ⟨rfl, hb6⟩); refine hK.out _ _ (keepB hHeld hgl4 hb6) (fun hHeld => ?_); clear hK K; (try simp only [Act.put, List.setIfInBounds_toArray, List.set_cons_zero, List.set_cons_succ]))
      (refine wpAnyH_take (i := 30) (oi := _) (v := ?_) (ops_at rfl) (by kernel_rfl) (by kernel_rfl) (by kernel_rfl) (fun _ _ _ h => h) (Or.inl ⟨by rfl, ?_⟩) (by assumption) ?_; rotate_left; (focus (intro w hSw; (try dsimp only at hSw); go_simp; (try with_reducible rfl))); (try simp only [Act.put, List.setIfInBounds_toArray, List.set_cons_zero, List.set_cons_succ])); (refine wpAnyH_take (i := 31) (oi := _) (v := ?_) (ops_at rfl) (by kernel_rfl) (by kernel_rfl) (by kernel_rfl) (fun _ _ _ h => h) (Or.inl ⟨by rfl, ?_⟩) (by assumption) ?_; rotate_left; (focus (intro w hSw; (try dsimp only at hSw); go_simp; (try with_reducible rfl))); (try simp only [Act.put, List.setIfInBounds_toArray, List.set_cons_zero, List.set_cons_succ]))
      (refine wpAnyH_done (by kernel_rfl) ?_ _)
      go_wp2
      go_ret
      exact ⟨rfl, Hw4.out.trans (hb6.mono hz4)⟩

theorem forms2_row {n : Int} (_ : (Lit.int .i64 n).wf = true) (W : World) : Calls Try.prog 6 #[.int .i64 n] W fun e w' => e = .returned (.bool true) ∧ Below W.heap.size W w' := forms2_any n W
end Go.Proofs.Ytdegfbhnilbcfaa
