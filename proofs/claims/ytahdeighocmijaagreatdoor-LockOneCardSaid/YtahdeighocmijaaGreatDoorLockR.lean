/- Locks: their bytes; reco.Lock, alone, OpenLock; lock.Look. -/
import Derived.Test.YtahdeighocmijaaGreatDoorLockQ
import Derived.Laws.ResultCell
namespace Go.Proofs.YtahdeighocmijaaGreatDoor
set_option linter.unusedSimpArgs false
set_option linter.unusedVariables false
open Go.RowKit
open Crc (Bytes)
open Cod (six held)

def lkV (l : Lk) : Value := .agg #[.int .i64 l.who, .int .i64 l.inc, .int .i64 l.epoch, .int .i64 l.till]
def lkCells (l : Lk) : List Value := [.int .i64 l.who, .int .i64 l.inc, .int .i64 l.epoch, .int .i64 l.till]
theorem keepFour {W w' : World} {g : Nat} {t : TypeId} {v0 v1 v2 v3 : Value} (h : Blk W g t [v0, v1, v2, v3]) (hb : Below W.heap.size W w') : w'.cell? ⟨g, 0, none⟩ = some v0 ∧ w'.cell? ⟨g, 1, none⟩ = some v1 ∧ w'.cell? ⟨g, 2, none⟩ = some v2 ∧ w'.cell? ⟨g, 3, none⟩ = some v3 ∧ Below W.heap.size W w' :=
  ⟨(hb.cell (p := ⟨g, 0, none⟩) h.lt).trans (h.cell 0), (hb.cell (p := ⟨g, 1, none⟩) h.lt).trans (h.cell 1), (hb.cell (p := ⟨g, 2, none⟩) h.lt).trans (h.cell 2), (hb.cell (p := ⟨g, 3, none⟩) h.lt).trans (h.cell 3), hb⟩
set_option maxRecDepth 100000 in
set_option maxHeartbeats 2000000 in
theorem rlock_any (l : Lk) (w : World) : Calls Tryz.prog 43 #[lkV l] w (Gives w l.bytes) := by
  unfold lkV
  go_enter Tryz.func43, Tryz.ntmps43
  go_upto_region 1 with fail
  obtain ⟨g, hg⟩ : ∃ g, g = w.heap.size := ⟨_, rfl⟩
  rw [← hg]
  refine at_world (fun W => Blk W g 28 [.int .i64 l.who, .int .i64 l.inc, .int .i64 l.epoch, .int .i64 l.till] ∧ Below w.heap.size w W) ⟨blk_new hg, by (repeat (first | assumption | exact Below.refl _ _ | (with_reducible apply Below.drew) | (with_reducible apply bl_drewN) | (with_reducible apply bl_alloc) | (with_reducible refine bl_then ?_ (by assumption))))⟩ ?_
  rintro W ⟨hb, hbel⟩
  have HB := Lib.hid hb
  have HBel := Lib.hid hbel
  clear hb hbel hg
  (refine wp_region_held_drew (S := fun w' => w'.cell? ⟨g, 0, none⟩ = some (.int .i64 l.who) ∧ w'.cell? ⟨g, 1, none⟩ = some (.int .i64 l.inc) ∧ w'.cell? ⟨g, 2, none⟩ = some (.int .i64 l.epoch) ∧ w'.cell? ⟨g, 3, none⟩ = some (.int .i64 l.till) ∧ Below W.heap.size W w') (by kernel_rfl) (keepFour HB.out (Below.refl _ _).drew) (fun hHeld => ?_))
  (refine wpAnyH_take (i := 0) (oi := _) (v := ?_) (ops_at rfl) (by kernel_rfl) (by kernel_rfl) (by kernel_rfl) (fun _ _ _ h => h) (Or.inl ⟨by rfl, ?_⟩) (by assumption) ?_; rotate_left; (focus (intro w hSw; (try dsimp only at hSw); go_simp; (try with_reducible rfl))); (try simp only [Act.put, List.setIfInBounds_toArray, List.set_cons_zero, List.set_cons_succ])); (refine wpAnyH_take (i := 1) (oi := _) (v := ?_) (ops_at rfl) (by kernel_rfl) (by kernel_rfl) (by kernel_rfl) (fun _ _ _ h => h) (Or.inl ⟨by rfl, ?_⟩) (by assumption) ?_; rotate_left; (focus (intro w hSw; (try dsimp only at hSw); go_simp; (try with_reducible rfl))); (try simp only [Act.put, List.setIfInBounds_toArray, List.set_cons_zero, List.set_cons_succ])); (refine wpAnyH_take (i := 3) (oi := _) (v := ?_) (ops_at rfl) (by kernel_rfl) (by kernel_rfl) (by kernel_rfl) (fun _ _ _ h => h) (Or.inl ⟨by rfl, ?_⟩) (by assumption) ?_; rotate_left; (focus (intro w hSw; (try dsimp only at hSw); go_simp; (try with_reducible rfl))); (try simp only [Act.put, List.setIfInBounds_toArray, List.set_cons_zero, List.set_cons_succ])); (refine wpAnyH_take (i := 4) (oi := _) (v := ?_) (ops_at rfl) (by kernel_rfl) (by kernel_rfl) (by kernel_rfl) (fun _ _ _ h => h) (Or.inl ⟨by rfl, ?_⟩) (by assumption) ?_; rotate_left; (focus (intro w hSw; (try dsimp only at hSw); go_simp; (try with_reducible rfl))); (try simp only [Act.put, List.setIfInBounds_toArray, List.set_cons_zero, List.set_cons_succ])); (refine wpAnyH_take (i := 6) (oi := _) (v := ?_) (ops_at rfl) (by kernel_rfl) (by kernel_rfl) (by kernel_rfl) (fun _ _ _ h => h) (Or.inl ⟨by rfl, ?_⟩) (by assumption) ?_; rotate_left; (focus (intro w hSw; (try dsimp only at hSw); go_simp; (try with_reducible rfl))); (try simp only [Act.put, List.setIfInBounds_toArray, List.set_cons_zero, List.set_cons_succ])); (refine wpAnyH_take (i := 7) (oi := _) (v := ?_) (ops_at rfl) (by kernel_rfl) (by kernel_rfl) (by kernel_rfl) (fun _ _ _ h => h) (Or.inl ⟨by rfl, ?_⟩) (by assumption) ?_; rotate_left; (focus (intro w hSw; (try dsimp only at hSw); go_simp; (try with_reducible rfl))); (try simp only [Act.put, List.setIfInBounds_toArray, List.set_cons_zero, List.set_cons_succ])); (refine wpAnyH_take (i := 9) (oi := _) (v := ?_) (ops_at rfl) (by kernel_rfl) (by kernel_rfl) (by kernel_rfl) (fun _ _ _ h => h) (Or.inl ⟨by rfl, ?_⟩) (by assumption) ?_; rotate_left; (focus (intro w hSw; (try dsimp only at hSw); go_simp; (try with_reducible rfl))); (try simp only [Act.put, List.setIfInBounds_toArray, List.set_cons_zero, List.set_cons_succ])); (refine wpAnyH_take (i := 10) (oi := _) (v := ?_) (ops_at rfl) (by kernel_rfl) (by kernel_rfl) (by kernel_rfl) (fun _ _ _ h => h) (Or.inl ⟨by rfl, ?_⟩) (by assumption) ?_; rotate_left; (focus (intro w hSw; (try dsimp only at hSw); go_simp; (try with_reducible rfl))); (try simp only [Act.put, List.setIfInBounds_toArray, List.set_cons_zero, List.set_cons_succ]))
  (refine wpAnyH_ready (rs := [2]) (by kernel_rfl) (by simp) (AllReadyH.cons (ops_at rfl) (fun K hK => ?_) AllReadyH.nil); go_simp; (refine (num_any none 0 0 [] l.who _ (Bs.nil _ _) (by omega)).mono ?_; rintro e w1 ⟨A1, n1, c1, rfl, hn1, ho1, hz1, hb1⟩); refine hK.out _ _ (keepFour HB.out ((Below.refl _ _).drew.trans hb1)) (fun hHeld => ?_); clear hK K; (try simp only [Act.put, List.setIfInBounds_toArray, List.set_cons_zero, List.set_cons_succ]))
  have hB1 := Lib.hid hHeld.2.2.2.2
  have hn1' : n1 = 6 := by have := hn1.out; rw [List.nil_append, Cod.six_len] at this; omega
  subst hn1'
  have HN1 := Lib.hid (own_bs ho1 (bytes_app (fun x hx => by cases hx) (Cod.six_bytes _)) (by omega))
  clear hn1 ho1 hz1 hb1
  (refine wpAnyH_ready (rs := [5]) (by kernel_rfl) (by simp) (AllReadyH.cons (ops_at rfl) (fun K hK => ?_) AllReadyH.nil); go_simp; (refine (num_any A1 6 c1 _ l.inc _ HN1.out (by omega)).mono ?_; rintro e w2 ⟨A2, n2, c2, rfl, hn2, ho2, hz2, hb2⟩); refine hK.out _ _ (keepFour HB.out (hB1.out.trans (hb2.mono hB1.out.size))) (fun hHeld => ?_); clear hK K; (try simp only [Act.put, List.setIfInBounds_toArray, List.set_cons_zero, List.set_cons_succ]))
  have hB2 := Lib.hid hHeld.2.2.2.2
  have hn2' : n2 = 12 := by have := hn2.out; simp only [List.nil_append, List.length_append, Cod.six_len] at this; omega
  subst hn2'
  have HN2 := Lib.hid (own_bs ho2 (bytes_app HN1.out.by_ (Cod.six_bytes _)) (by omega))
  clear hn2 ho2 hz2 hb2 HN1
  (refine wpAnyH_ready (rs := [8]) (by kernel_rfl) (by simp) (AllReadyH.cons (ops_at rfl) (fun K hK => ?_) AllReadyH.nil); go_simp; (refine (num_any A2 12 c2 _ l.epoch _ HN2.out (by omega)).mono ?_; rintro e w3 ⟨A3, n3, c3, rfl, hn3, ho3, hz3, hb3⟩); refine hK.out _ _ (keepFour HB.out (hB2.out.trans (hb3.mono hB2.out.size))) (fun hHeld => ?_); clear hK K; (try simp only [Act.put, List.setIfInBounds_toArray, List.set_cons_zero, List.set_cons_succ]))
  have hB3 := Lib.hid hHeld.2.2.2.2
  have hn3' : n3 = 18 := by have := hn3.out; simp only [List.nil_append, List.length_append, Cod.six_len] at this; omega
  subst hn3'
  have HN3 := Lib.hid (own_bs ho3 (bytes_app HN2.out.by_ (Cod.six_bytes _)) (by omega))
  clear hn3 ho3 hz3 hb3 HN2
  (refine wpAnyH_ready (rs := [11]) (by kernel_rfl) (by simp) (AllReadyH.cons (ops_at rfl) (fun K hK => ?_) AllReadyH.nil); go_simp; (refine (num_any A3 18 c3 _ l.till _ HN3.out (by omega)).mono ?_; rintro e w4 ⟨A4, n4, c4, rfl, hn4, ho4, hz4, hb4⟩); refine hK.out _ _ (keepFour HB.out (hB3.out.trans (hb4.mono hB3.out.size))) (fun hHeld => ?_); clear hK K; (try simp only [Act.put, List.setIfInBounds_toArray, List.set_cons_zero, List.set_cons_succ]))
  have hB4 := Lib.hid hHeld.2.2.2.2
  have hn4' : n4 = 24 := by have := hn4.out; simp only [List.nil_append, List.length_append, Cod.six_len] at this; omega
  subst hn4'
  have hraw : [] ++ six l.who ++ six l.inc ++ six l.epoch ++ six l.till = l.raw := by unfold Lk.raw; simp only [List.nil_append, List.append_nil, List.append_assoc]
  rw [hraw] at ho4
  have HN4 := Lib.hid (own_bs ho4 l.raw_by (by omega))
  clear hn4 ho4 hz4 hb4 HN3 hraw
  (refine wpAnyH_ready (rs := [12]) (by kernel_rfl) (by simp) (AllReadyH.cons (ops_at rfl) (fun K hK => ?_) AllReadyH.nil); go_simp; (refine (fput_any none A4 0 24 0 c4 [] l.raw _ (Bs.nil _ _) HN4.out (by omega)).mono ?_; rintro e w5 ⟨A5, n5, c5, rfl, hn5, ho5, hz5, hb5⟩); refine hK.out _ _ (keepFour HB.out (hB4.out.trans (hb5.mono hB4.out.size))) (fun hHeld => ?_); clear hK K; (try simp only [Act.put, List.setIfInBounds_toArray, List.set_cons_zero, List.set_cons_succ]))
  (refine wpAnyH_take (i := 13) (oi := _) (v := ?_) (ops_at rfl) (by kernel_rfl) (by kernel_rfl) (by kernel_rfl) (fun _ _ _ h => h) (Or.inl ⟨by rfl, ?_⟩) (by assumption) ?_; rotate_left; (focus (intro w hSw; (try dsimp only at hSw); go_simp; (try with_reducible rfl))); (try simp only [Act.put, List.setIfInBounds_toArray, List.set_cons_zero, List.set_cons_succ]))
  (refine wpAnyH_done (by kernel_rfl) ?_ _)
  have hB5 := hHeld.2.2.2.2
  have hB6 : Below w.heap.size w w5 := HBel.out.trans (hB5.mono HBel.out.size)
  rw [List.nil_append] at hn5 ho5 hz5
  have hsz : w.heap.size ≤ w4.heap.size := by have := HBel.out.size; have := hB4.out.size; omega
  have HO := Lib.hid (ho5.more hsz)
  have HF := Lib.hid hB6
  have Hn := Lib.hid hn5
  have Hz := Lib.hid hz5
  clear hHeld hB5 hB6 ho5 hn5 hz5 hb5
  go_wp2_with fail
  go_ret
  exact ⟨A5, n5, c5, rfl, Hn.out, HO.out, Hz.out, HF.out⟩
/-- What alone gives. -/
structure Alone (w : World) (l : List Int) (e : Ending) (w' : World) : Prop where
  out : (aloneF l = none ∧ e = .returned (.tuple #[.slice none 0 0, .bool false])) ∨ ∃ x A n c, aloneF l = some x ∧ e = .returned (.tuple #[.slice A n c, .bool true]) ∧ Bs w' A n x ∧ n ≤ c
  bel : Below w.heap.size w w'
theorem oneF_nil : oneF ([] : List Int) = none := rfl
theorem alone_of {b : List Int} {fs : List (Nat × List Int)} {k : Nat} (h : Fr b fs k) (hn : oneF (b.drop k) = none) : (∃ x, fs.map Prod.snd = [x] ∧ k = b.length ∧ aloneF b = some x) ∨ (aloneF b = none ∧ ¬ (fs.length = 1 ∧ k = b.length)) := by
  by_cases hc : fs.length = 1 ∧ k = b.length
  · obtain ⟨h1, h2⟩ := hc
    left
    obtain ⟨q, x, s, h3, h4⟩ := fr_take h 0 (by omega)
    obtain ⟨_, rfl⟩ := fr_same h3 .nil (by simp)
    rw [List.drop_zero] at h4
    have h5 : Fr b ([] ++ [(0, x)]) (0 + s) := Fr.snoc .nil (by rw [List.drop_zero]; exact h4)
    obtain ⟨e1, e2⟩ := fr_same h h5 (by simpa using h1)
    refine ⟨x, by rw [e1]; rfl, h2, ?_⟩
    unfold aloneF
    rw [h4]
    simp; omega
  · right
    refine ⟨?_, hc⟩
    unfold aloneF
    cases ho : oneF b with
    | none => rfl
    | some p =>
      obtain ⟨x, s⟩ := p
      simp only
      rw [if_neg]
      intro hs
      have h5 : Fr b ([] ++ [(0, x)]) (0 + s) := Fr.snoc .nil (by rw [List.drop_zero]; exact ho)
      have h6 : oneF (b.drop (0 + s)) = none := by rw [Nat.zero_add, hs, List.drop_length]; exact oneF_nil
      obtain ⟨e1, e2⟩ := fr_end h hn h5 h6
      exact hc ⟨by rw [e1]; rfl, by rw [e2]; omega⟩
set_option maxRecDepth 100000 in
set_option maxHeartbeats 2000000 in
theorem alone_any (A : Option Addr) (n c : Nat) (l : List Int) (w : World) (h : Bs w A n l) (hn : n ≤ 5000000) : Calls Tryz.prog 75 #[.slice A n c] w (Alone w l) := by
  have H := Lib.hid h
  have hl := h.len
  clear h
  go_enter Tryz.func75, Tryz.ntmps75
  go_wp2_with fail
  refine (scan_any A n c l _ H.out (by omega)).mono ?_
  rintro e w1 ⟨fs, k, O, rfl, hfr, hnone, hok, hrd, hbel⟩
  have hal := alone_of hfr hnone
  rw [List.length_map] at hal
  have HB := Lib.hid hbel
  have HRD := Lib.hid hrd
  have HOK := Lib.hid hok
  clear hfr hnone hok hrd hbel
  rcases hal with ⟨x, h1, h2, h3⟩ | ⟨h3, h4⟩
  · obtain ⟨f, rfl⟩ : ∃ f, fs = [f] := by
      cases fs with
      | nil => simp at h1
      | cons f r => cases r with
        | nil => exact ⟨f, rfl⟩
        | cons g r => simp at h1
    have hx : f.x = x := by simpa [Fx.pair] using h1
    have hkn : k = n := by omega
    subst hkn
    obtain ⟨ad, hA, hlt, hc⟩ := HRD.out.at_ (by simp)
    have hc0 : w1.cell? ad = some (.slice f.A f.m f.d) := by
      have := hc 0 (.slice f.A f.m f.d) rfl
      rwa [show ad.add 0 = ad from rfl] at this
    subst hA
    have hfo := HOK.out f (by simp)
    have HFO := Lib.hid (show Bs w1 f.A f.m x ∧ f.m ≤ f.d from ⟨by have := hfo.bs; rwa [hx] at this, hfo.cap⟩)
    have H3 := Lib.hid h3
    clear h1 h2 h3 hc hlt hfo hx hl
    go_wp2_with fail
    go_ret2
    exact ⟨.inr ⟨x, f.A, f.m, f.d, H3.out, rfl, HFO.out.1, HFO.out.2⟩, HB.out⟩
  · have H3 := Lib.hid h3
    clear h3
    by_cases hf : fs.length = 1
    · have hk : ((k : Int) == (n : Int)) = false := by rw [beq_eq_false_iff_ne]; intro e; exact h4 ⟨hf, by omega⟩
      have hf1 : ((fs.length : Int) != 1) = false := by simp [hf]
      clear hf h4
      go_wp2_with fail
      go_ret2
      exact ⟨.inl ⟨H3.out, rfl⟩, HB.out⟩
    · have hf1 : ((fs.length : Int) == 1) = false := by rw [beq_eq_false_iff_ne]; omega
      clear h4 hf
      go_wp2_with fail
      go_ret2
      exact ⟨.inl ⟨H3.out, rfl⟩, HB.out⟩
end Go.Proofs.YtahdeighocmijaaGreatDoor
