/- SimfStamps: the walk. -/
import Derived.Test.YtgegflgmdcdkbaaStampL
import Derived.Test.YtgegflgmdcdkbaaInts
namespace Go.Proofs.Ytgegflgmdcdkbaa
set_option linter.unusedSimpArgs false
set_option linter.unusedVariables false
open Go.RowKit
open Crc (Bytes)

theorem MapI.more {w : World} {b n m : Nat} {f : Int → Bool} (h : MapI w b n f) (hm : n ≤ m) : MapI w b m f := by obtain ⟨D, h1, h2⟩ := h.ex; exact ⟨D, h1.mono hm, h2⟩
theorem MapT.more {w : World} {b n m : Nat} {f : List UInt8 → Int} (h : MapT w b n f) (hm : n ≤ m) : MapT w b m f := by obtain ⟨D, h1, h2⟩ := h.ex; exact ⟨D, h1.mono hm, h2⟩
theorem nmIx_small (a : Nat) (h : a < 4) : nmIx (a : Int) = a := by
  rcases (show a = 0 ∨ a = 1 ∨ a = 2 ∨ a = 3 by omega) with rfl | rfl | rfl | rfl <;> decide
/-- The files and the two maps behind k calls and m writes. -/
structure StW (w0 w : World) (fb mb sb lb k m : Nat) (S : Fs) (seen : Int → Bool) (last : List UInt8 → Int) : Prop where
  h : FsH w0 w fb mb S k
  s : MapI w sb m seen
  l : MapT w lb m last
  d1 : mb ≠ sb
  d2 : mb ≠ lb
  d3 : sb ≠ lb
  hs : w0.heap.size ≤ sb
  hl : w0.heap.size ≤ lb
section
variable {w0 w w' : World} {fb mb sb lb k m : Nat} {S : Fs} {seen : Int → Bool} {last : List UInt8 → Int}
theorem StW.below (h : StW w0 w fb mb sb lb k m S seen last) (hb : Below w.heap.size w w') : StW w0 w' fb mb sb lb k m S seen last :=
  ⟨h.h.below hb, h.s.below hb, h.l.below hb, h.d1, h.d2, h.d3, h.hs, h.hl⟩
theorem StW.alloc (h : StW w0 w fb mb sb lb k m S seen last) {o : Obj} : StW w0 (w.alloc o) fb mb sb lb k m S seen last := h.below ((Below.refl _ _).alloc (Nat.le_refl _) o)
theorem StW.drew (h : StW w0 w fb mb sb lb k m S seen last) : StW w0 w.drew fb mb sb lb k m S seen last := h.below (Below.refl _ _).drew
theorem StW.fbne (h : StW w0 w fb mb sb lb k m S seen last) : fb ≠ sb ∧ fb ≠ lb := by
  obtain ⟨n, D, _, hF⟩ := h.h.at_
  obtain ⟨es, c, h1⟩ := h.s.isMap
  obtain ⟨es2, c2, h2⟩ := h.l.isMap
  have h3 := hF.blk.at_
  refine ⟨?_, ?_⟩
  · rintro rfl; rw [h1] at h3; cases h3
  · rintro rfl; rw [h2] at h3; cases h3
theorem StW.call {S' : Fs} {k' : Nat} (h : StW w0 w fb mb sb lb k m S seen last) (hh : FsH w0 w' fb mb S' k') (ho : Only [fb, mb] w w') : StW w0 w' fb mb sb lb k' m S' seen last := by
  obtain ⟨a, b⟩ := h.fbne
  exact ⟨hh, h.s.keep (ho.block sb h.s.lt (by have := h.d1; simp; omega)), h.l.keep (ho.block lb h.l.lt (by have := h.d2; simp; omega)), h.d1, h.d2, h.d3, h.hs, h.hl⟩
theorem StW.putS {seen' : Int → Bool} (h : StW w0 w fb mb sb lb k m S seen last) (hm : MapI w' sb (m + 1) seen') (hg : w.grownBy w' (some sb)) : StW w0 w' fb mb sb lb k (m + 1) S seen' last :=
  ⟨h.h.turned hg h.s.isMap h.d1 h.hs, hm, (h.l.keep (hg.block lb h.l.lt (fun e => h.d3 (Option.some.inj e).symm))).more (Nat.le_succ _), h.d1, h.d2, h.d3, h.hs, h.hl⟩
theorem StW.putL {last' : List UInt8 → Int} {m' : Nat} (h : StW w0 w fb mb sb lb k m S seen last) (hm : MapT w' lb m' last') (hmm : m ≤ m') (hg : w.grownBy w' (some lb)) : StW w0 w' fb mb sb lb k m' S seen last' :=
  ⟨h.h.turned hg h.l.isMap h.d2 h.hl, (h.s.keep (hg.block sb h.s.lt (fun e => h.d3 (Option.some.inj e)))).more hmm, hm, h.d1, h.d2, h.d3, h.hs, h.hl⟩
end
/-- Behind a round's call: nothing given, or the next stamp for name t. -/
structure Mid (w0 w : World) (fb mb sb lb k m : Nat) (seen : Int → Bool) (q : Nat) (s e : Int) (t : ByteArray) : Prop where
  ex : ∃ S last, StW w0 w fb mb sb lb k m S seen last ∧ ((e ≠ 0 ∨ ¬ q < 7) ∧ Inv S seen last ∨ e = 0 ∧ q < 7 ∧ s = S.last ∧ InvBut S seen last t)
theorem mid_did {w0 w : World} {fb mb sb lb k m q : Nat} {S S' : Fs} {seen : Int → Bool} {last : List UInt8 → Int} {t : ByteArray} {s e : Int} (hq : q < 7) (hi : Inv S seen last) (hd : Did S seen last t ((s, e), S')) (h : StW w0 w fb mb sb lb k m S' seen last) : Mid w0 w fb mb sb lb k m seen q s e t := by
  rcases hd with ⟨a, b⟩ | ⟨a, b, c⟩
  · have b' : S' = S := b
    exact ⟨S', last, h, .inl ⟨.inl a, by rw [b']; exact hi⟩⟩
  · exact ⟨S', last, h, .inr ⟨a, hq, b, c⟩⟩
theorem makeMI (w : World) : (Instr.makeMap 56 none).run Try.prog w = .ok (.map (some w.heap.size)) (w.alloc (.map #[] 0)) := by kernel_rfl
theorem makeMT (w : World) : (Instr.makeMap 57 none).run Try.prog w = .ok (.map (some w.heap.size)) (w.alloc (.map #[] 0)) := by kernel_rfl
theorem stw_new {w0 w : World} {fb mb : Nat} {S : Fs} (h : FsH w0 w fb mb S 0) : StW w0 ((w.alloc (.map #[] 0)).alloc (.map #[] 0)) fb mb w.heap.size (w.heap.size + 1) 0 0 S (fun _ => false) (fun _ => 0) := by
  have hl := h.lt
  have hb := h.bel.size
  refine ⟨h.alloc.alloc, (MapI.made w).below ((Below.refl _ _).alloc (Nat.le_refl _) _), ?_, by omega, by omega, by omega, by omega, by omega⟩
  have := MapT.made (w.alloc (.map #[] 0))
  simpa using this
set_option maxRecDepth 100000 in
set_option maxHeartbeats 8000000 in
theorem simfstamps_any (A : Option Addr) (n c : Nat) (acts : List Int) (w : World) (hA : Is w A n acts) : Calls Try.prog 8 #[.slice A n c] w fun e w' => e = .returned (.bool true) ∧ Below w.heap.size w w' := by
  have HA := Lib.hid hA
  have hle := hA.le
  have hmi := makeMI
  have hmt := makeMT
  clear hA
  go_enter Try.func8, Try.ntmps8
  go_wp2_with fail
  refine (new_h w 1048576).mono ?_
  rintro e w1 ⟨fb, mb, rfl, h0⟩
  have H0 := Lib.hid (stw_new h0)
  have hI0 := Lib.hid inv_new
  clear h0
  go_wp2_with fail
  clear hmi hmt
  obtain ⟨sb, hsb⟩ : ∃ y, y = w1.heap.size := ⟨_, rfl⟩
  rw [← hsb] at H0 ⊢
  obtain ⟨lb, hlb⟩ : ∃ y, y = sb + 1 := ⟨_, rfl⟩
  rw [← hlb] at H0 ⊢
  clear hsb hlb
  go_loopw [6] (fun i wr => ∃ (j k m : Nat) (S : Fs) (seen : Int → Bool) (last : List UInt8 → Int), j ≤ n ∧ j ≤ 100 ∧ i = .int .i64 j ∧ k ≤ 9 * j ∧ m ≤ 6 * j ∧ StW w wr fb mb sb lb k m S seen last ∧ Inv S seen last) (fun i _ => 100 - (intOf i).toNat)
  case atStart => exact ⟨0, 0, 0, _, _, _, Nat.zero_le _, by omega, rfl, by omega, by omega, H0.out, hI0.out⟩
  case round =>
    clear H0 hI0
    obtain ⟨j, k, m, S, seen, last, hj, hj100, rfl, hk, hm, hst, hinv⟩ := hrel
    have HS := Lib.hid hst
    have HI := Lib.hid hinv
    clear hst hinv
    by_cases hlt : j < n ∧ j < 100
    · obtain ⟨hlt1, hlt2⟩ := hlt
      obtain ⟨ad, rfl, hc, hv1, hv2⟩ := (HA.out.below HS.out.h.bel).get hlt1
      obtain ⟨v, hv⟩ : ∃ v, ix acts j = v := ⟨_, rfl⟩
      rw [hv] at hc hv1 hv2
      go_upto_region 9 with fail
      obtain ⟨pa, hpa, hpa1⟩ := maskN 2 (by decide) (v / 16) 3 (by decide)
      obtain ⟨pb, hpb, hpb1⟩ := maskN 2 (by decide) (v / 64) 3 (by decide)
      obtain ⟨q, hq, hq1⟩ := maskN 3 (by decide) v 7 (by decide)
      have hna := Lib.hid (nmIx_small pa hpa1)
      have hnb := Lib.hid (nmIx_small pb hpb1)
      have Hc := Lib.hid hc
      (refine wp_region_held_drew (S := fun w' => w'.cell? (ad.add j) = some (.int .i64 v) ∧ Below wr.heap.size wr w') (by kernel_rfl) (⟨hc, (Below.refl _ _).drew⟩) (fun hHeld => ?_))
      (refine wpAnyH_take (i := 0) (oi := _) (v := ?_) (ops_at rfl) (by kernel_rfl) (by kernel_rfl) (by kernel_rfl) (fun _ _ _ h => h) (Or.inl ⟨by rfl, ?_⟩) (by assumption) ?_; rotate_left; (focus (intro w hSw; (try dsimp only at hSw); go_simp; (try with_reducible rfl))); (try simp only [Act.put, List.setIfInBounds_toArray, List.set_cons_zero, List.set_cons_succ])); (refine wpAnyH_take (i := 1) (oi := _) (v := ?_) (ops_at rfl) (by kernel_rfl) (by kernel_rfl) (by kernel_rfl) (fun _ _ _ h => h) (Or.inl ⟨by rfl, ?_⟩) (by assumption) ?_; rotate_left; (focus (intro w hSw; (try dsimp only at hSw); go_simp; (try with_reducible rfl))); (try simp only [Act.put, List.setIfInBounds_toArray, List.set_cons_zero, List.set_cons_succ])); (refine wpAnyH_take (i := 2) (oi := _) (v := ?_) (ops_at rfl) (by kernel_rfl) (by kernel_rfl) (by kernel_rfl) (fun _ _ _ h => h) (Or.inl ⟨by rfl, ?_⟩) (by assumption) ?_; rotate_left; (focus (intro w hSw; (try dsimp only at hSw); go_simp; (try with_reducible rfl))); (try simp only [Act.put, List.setIfInBounds_toArray, List.set_cons_zero, List.set_cons_succ])); (refine wpAnyH_take (i := 3) (oi := _) (v := ?_) (ops_at rfl) (by kernel_rfl) (by kernel_rfl) (by kernel_rfl) (fun _ _ _ h => h) (Or.inl ⟨by rfl, ?_⟩) (by assumption) ?_; rotate_left; (focus (intro w hSw; (try dsimp only at hSw); go_simp; (try with_reducible rfl))); (try simp only [Act.put, List.setIfInBounds_toArray, List.set_cons_zero, List.set_cons_succ])); (refine wpAnyH_take (i := 4) (oi := _) (v := ?_) (ops_at rfl) (by kernel_rfl) (by kernel_rfl) (by kernel_rfl) (fun _ _ _ h => h) (Or.inl ⟨by rfl, ?_⟩) (by assumption) ?_; rotate_left; (focus (intro w hSw; (try dsimp only at hSw); go_simp; (try with_reducible rfl))); (try simp only [Act.put, List.setIfInBounds_toArray, List.set_cons_zero, List.set_cons_succ])); (refine wpAnyH_take (i := 5) (oi := _) (v := ?_) (ops_at rfl) (by kernel_rfl) (by kernel_rfl) (by kernel_rfl) (fun _ _ _ h => h) (Or.inl ⟨by rfl, ?_⟩) (by assumption) ?_; rotate_left; (focus (intro w hSw; (try dsimp only at hSw); go_simp; (try with_reducible rfl))); (try simp only [Act.put, List.setIfInBounds_toArray, List.set_cons_zero, List.set_cons_succ])); (refine wpAnyH_take (i := 7) (oi := _) (v := ?_) (ops_at rfl) (by kernel_rfl) (by kernel_rfl) (by kernel_rfl) (fun _ _ _ h => h) (Or.inl ⟨by rfl, ?_⟩) (by assumption) ?_; rotate_left; (focus (intro w hSw; (try dsimp only at hSw); go_simp; (try with_reducible rfl))); (try simp only [Act.put, List.setIfInBounds_toArray, List.set_cons_zero, List.set_cons_succ])); (refine wpAnyH_take (i := 8) (oi := _) (v := ?_) (ops_at rfl) (by kernel_rfl) (by kernel_rfl) (by kernel_rfl) (fun _ _ _ h => h) (Or.inl ⟨by rfl, ?_⟩) (by assumption) ?_; rotate_left; (focus (intro w hSw; (try dsimp only at hSw); go_simp; (try with_reducible rfl))); (try simp only [Act.put, List.setIfInBounds_toArray, List.set_cons_zero, List.set_cons_succ])); (refine wpAnyH_take (i := 9) (oi := _) (v := ?_) (ops_at rfl) (by kernel_rfl) (by kernel_rfl) (by kernel_rfl) (fun _ _ _ h => h) (Or.inl ⟨by rfl, ?_⟩) (by assumption) ?_; rotate_left; (focus (intro w hSw; (try dsimp only at hSw); go_simp; (try with_reducible rfl))); (try simp only [Act.put, List.setIfInBounds_toArray, List.set_cons_zero, List.set_cons_succ])); (refine wpAnyH_take (i := 10) (oi := _) (v := ?_) (ops_at rfl) (by kernel_rfl) (by kernel_rfl) (by kernel_rfl) (fun _ _ _ h => h) (Or.inl ⟨by rfl, ?_⟩) (by assumption) ?_; rotate_left; (focus (intro w hSw; (try dsimp only at hSw); go_simp; (try with_reducible rfl))); (try simp only [Act.put, List.setIfInBounds_toArray, List.set_cons_zero, List.set_cons_succ])); (refine wpAnyH_take (i := 11) (oi := _) (v := ?_) (ops_at rfl) (by kernel_rfl) (by kernel_rfl) (by kernel_rfl) (fun _ _ _ h => h) (Or.inl ⟨by rfl, ?_⟩) (by assumption) ?_; rotate_left; (focus (intro w hSw; (try dsimp only at hSw); go_simp; (try with_reducible rfl))); (try simp only [Act.put, List.setIfInBounds_toArray, List.set_cons_zero, List.set_cons_succ])); (refine wpAnyH_take (i := 12) (oi := _) (v := ?_) (ops_at rfl) (by kernel_rfl) (by kernel_rfl) (by kernel_rfl) (fun _ _ _ h => h) (Or.inl ⟨by rfl, ?_⟩) (by assumption) ?_; rotate_left; (focus (intro w hSw; (try dsimp only at hSw); go_simp; (try with_reducible rfl))); (try simp only [Act.put, List.setIfInBounds_toArray, List.set_cons_zero, List.set_cons_succ]))
      (refine wpAnyH_ready (rs := [6]) (by kernel_rfl) (by simp) (AllReadyH.cons (ops_at rfl) (fun K hK => ?_) AllReadyH.nil); go_simp; (refine (name_any _ _).mono ?_; rintro e w2 ⟨rfl, hb2⟩; rw [hna.out]); refine hK.out _ _ (⟨(hb2.cell (World.block_lt_of_cell? _ _ Hc.out)).trans Hc.out, by (repeat (first | assumption | exact Below.refl _ _ | (with_reducible apply Below.drew) | (with_reducible apply bl_drewN) | (with_reducible apply bl_alloc) | (with_reducible refine bl_then ?_ (by assumption))))⟩) (fun hHeld => ?_); clear hK K; (try simp only [Act.put, List.setIfInBounds_toArray, List.set_cons_zero, List.set_cons_succ]))
      (refine wpAnyH_ready (rs := [13]) (by kernel_rfl) (by simp) (AllReadyH.cons (ops_at rfl) (fun K hK => ?_) AllReadyH.nil); go_simp; (refine (name_any _ _).mono ?_; rintro e w3 ⟨rfl, hb3⟩; rw [hnb.out]); refine hK.out _ _ (⟨(hb3.cell (World.block_lt_of_cell? _ _ hHeld.1)).trans hHeld.1, by (repeat (first | assumption | exact Below.refl _ _ | (with_reducible apply Below.drew) | (with_reducible apply bl_drewN) | (with_reducible apply bl_alloc) | (with_reducible refine bl_then ?_ (by assumption))))⟩) (fun hHeld => ?_); clear hK K; (try simp only [Act.put, List.setIfInBounds_toArray, List.set_cons_zero, List.set_cons_succ]))
      (refine wpAnyH_take (i := 14) (oi := _) (v := ?_) (ops_at rfl) (by kernel_rfl) (by kernel_rfl) (by kernel_rfl) (fun _ _ _ h => h) (Or.inl ⟨by rfl, ?_⟩) (by assumption) ?_; rotate_left; (focus (intro w hSw; (try dsimp only at hSw); go_simp; (try with_reducible rfl))); (try simp only [Act.put, List.setIfInBounds_toArray, List.set_cons_zero, List.set_cons_succ])); (refine wpAnyH_take (i := 15) (oi := _) (v := ?_) (ops_at rfl) (by kernel_rfl) (by kernel_rfl) (by kernel_rfl) (fun _ _ _ h => h) (Or.inl ⟨by rfl, ?_⟩) (by assumption) ?_; rotate_left; (focus (intro w hSw; (try dsimp only at hSw); go_simp; (try with_reducible rfl))); (try simp only [Act.put, List.setIfInBounds_toArray, List.set_cons_zero, List.set_cons_succ]))
      (refine wpAnyH_done (by kernel_rfl) ?_ _)
      have hb23 : Below wr.heap.size wr w3 := hHeld.2
      have HS2 := Lib.hid (HS.out.below hb23)
      have hc3 : w3.cell? (ad.add j) = some (.int .i64 v) := hHeld.1
      clear hb2 hb3 hb23 hHeld hc Hc HS
      go_upto_block 2 with fail
      have hk5 : k ≤ 900 := by omega
      have hsz := nmOf_size pa
      have hszb := nmOf_size pb
      have hmx : (nmOf pa).size ≤ maxLen := Nat.le_trans hsz (by decide)
      go_cut [9, 10, 11] (fun s9 s10 s11 wx => ∃ (s e : Int) (t : Nat), s9 = .int .i64 s ∧ s10 = .int .i64 e ∧ s11 = .string (nmOf t) ∧ t < 4 ∧ Mid w wx fb mb sb lb (k + 1) m seen q s e (nmOf t))
      case first =>
        rcases (show q = 0 ∨ q = 1 ∨ q = 2 ∨ q = 3 ∨ q = 4 ∨ q = 5 ∨ q = 6 ∨ q = 7 by omega) with rfl | rfl | rfl | rfl | rfl | rfl | rfl | rfl
        · as_aux_lemma => (go_wp2_with fail; refine (make_h HS2.out.h.alloc (by omega) (nmOf pa) [1] (some ⟨w3.heap.size, 0, none⟩) 1 1 hsz (by omega) (bs_lit (l := [1]) (by intro x hx; simp at hx; omega) (by decide) rfl)).mono ?_; rintro e w4 ⟨rfl, h1, o1⟩; have hd := did_make HI.out (nmOf pa) [1]; have hst4 := HS2.out.alloc.call h1 o1; obtain ⟨r, hr⟩ : ∃ r, S.makeF (nmOf pa) [1] = r := ⟨_, rfl⟩; rw [hr] at hd hst4 ⊢; obtain ⟨⟨s, e⟩, S'⟩ := r; have HM := Lib.hid (mid_did (q := 0) (by omega) HI.out hd hst4); clear hd hst4 hr h1 o1; go_wp2_with fail; go_meet; exact ⟨s, e, pa, rfl, rfl, rfl, hpa1, HM.out⟩)
        · as_aux_lemma => (go_wp2_with fail; refine (put_h HS2.out.h.alloc (by omega) (nmOf pa) [1] (some ⟨w3.heap.size, 0, none⟩) 1 1 hsz (by omega) (bs_lit (l := [1]) (by intro x hx; simp at hx; omega) (by decide) rfl)).mono ?_; rintro e w4 ⟨rfl, h1, o1⟩; have hd := did_put HI.out (nmOf pa) [1]; have hst4 := HS2.out.alloc.call h1 o1; obtain ⟨r, hr⟩ : ∃ r, S.putF (nmOf pa) [1] = r := ⟨_, rfl⟩; rw [hr] at hd hst4 ⊢; obtain ⟨⟨s, e⟩, S'⟩ := r; have HM := Lib.hid (mid_did (q := 1) (by omega) HI.out hd hst4); clear hd hst4 hr h1 o1; go_wp2_with fail; go_meet; exact ⟨s, e, pa, rfl, rfl, rfl, hpa1, HM.out⟩)
        · as_aux_lemma => (go_wp2_with fail; refine (put_h HS2.out.h.alloc (by omega) (nmOf pa) [1] (some ⟨w3.heap.size, 0, none⟩) 1 1 hsz (by omega) (bs_lit (l := [1]) (by intro x hx; simp at hx; omega) (by decide) rfl)).mono ?_; rintro e w4 ⟨rfl, h1, o1⟩; have hd := did_put HI.out (nmOf pa) [1]; have hst4 := HS2.out.alloc.call h1 o1; obtain ⟨r, hr⟩ : ∃ r, S.putF (nmOf pa) [1] = r := ⟨_, rfl⟩; rw [hr] at hd hst4 ⊢; obtain ⟨⟨s, e⟩, S'⟩ := r; have HM := Lib.hid (mid_did (q := 2) (by omega) HI.out hd hst4); clear hd hst4 hr h1 o1; go_wp2_with fail; go_meet; exact ⟨s, e, pa, rfl, rfl, rfl, hpa1, HM.out⟩)
        · as_aux_lemma => (go_wp2_with fail; refine (append_h HS2.out.h.alloc (by omega) (nmOf pa) [1] [] (some ⟨w3.heap.size, 0, none⟩) 1 1 none 0 0 hsz (by omega) (by omega) (bs_lit (l := [1]) (by intro x hx; simp at hx; omega) (by decide) rfl) (U8.lit rfl) (Grd.nil _)).mono ?_; rintro e w4 ⟨rfl, h1, o1⟩; have hd := did_app HI.out (nmOf pa); have hst4 := HS2.out.alloc.call h1 o1; obtain ⟨r, hr⟩ : ∃ r, S.appF (nmOf pa) [1] [] = r := ⟨_, rfl⟩; rw [hr] at hd hst4 ⊢; obtain ⟨⟨s, e⟩, S'⟩ := r; have HM := Lib.hid (mid_did (q := 3) (by omega) HI.out hd hst4); clear hd hst4 hr h1 o1; go_wp2_with fail; go_meet; exact ⟨s, e, pa, rfl, rfl, rfl, hpa1, HM.out⟩)
        · as_aux_lemma => (go_wp2_with fail; refine (append_h HS2.out.h.alloc (by omega) (nmOf pa) [1] [] (some ⟨w3.heap.size, 0, none⟩) 1 1 none 0 0 hsz (by omega) (by omega) (bs_lit (l := [1]) (by intro x hx; simp at hx; omega) (by decide) rfl) (U8.lit rfl) (Grd.nil _)).mono ?_; rintro e w4 ⟨rfl, h1, o1⟩; have hd := did_app HI.out (nmOf pa); have hst4 := HS2.out.alloc.call h1 o1; obtain ⟨r, hr⟩ : ∃ r, S.appF (nmOf pa) [1] [] = r := ⟨_, rfl⟩; rw [hr] at hd hst4 ⊢; obtain ⟨⟨s, e⟩, S'⟩ := r; have HM := Lib.hid (mid_did (q := 4) (by omega) HI.out hd hst4); clear hd hst4 hr h1 o1; go_wp2_with fail; go_meet; exact ⟨s, e, pa, rfl, rfl, rfl, hpa1, HM.out⟩)
        · as_aux_lemma => (go_wp2_with fail; refine (move_h HS2.out.h (by omega) (nmOf pa) (nmOf pb) [] none 0 0 hsz hszb (Grd.nil _)).mono ?_; rintro e w4 ⟨rfl, h1, o1⟩; have hd := did_move HI.out (nmOf pa) (nmOf pb); have hst4 := HS2.out.call h1 o1; obtain ⟨r, hr⟩ : ∃ r, S.moveF (nmOf pa) (nmOf pb) [] = r := ⟨_, rfl⟩; rw [hr] at hd hst4 ⊢; obtain ⟨⟨s, e⟩, S'⟩ := r; clear hr h1 o1; rcases hd with ⟨hd1, hd2⟩ | ⟨hd1, hd2, hd3⟩; (focus (have hd1' : e ≠ 0 := hd1; have he : (e == 0) = false := (by rw [beq_eq_false_iff_ne]; exact hd1'); have hd2' : S' = S := hd2; have HM := Lib.hid (show Mid w w4 fb mb sb lb (k + 1) m seen 5 s e (nmOf pb) from ⟨S', last, hst4, .inl ⟨.inl hd1', by rw [hd2']; exact HI.out⟩⟩); clear hd1 hd2 hst4 hd2' hd1'; go_wp2_with fail; go_meet; exact ⟨s, e, pb, rfl, rfl, rfl, hpb1, HM.out⟩)); (focus (obtain rfl : e = 0 := hd1; obtain ⟨w5, hdel, hml, hmg⟩ := hst4.l.del (nmOf pa) hmx; have HM := Lib.hid (show Mid w w5 fb mb sb lb (k + 1) m seen 5 s 0 (nmOf pb) from ⟨S', _, hst4.putL hml (Nat.le_refl _) hmg, .inr ⟨rfl, by omega, hd2, hd3⟩⟩); clear hd2 hd3 hst4 hml hmg; go_wp2_with fail; go_meet; exact ⟨s, 0, pb, rfl, rfl, rfl, hpb1, HM.out⟩)))
        · as_aux_lemma => (go_wp2_with fail; refine (move_h HS2.out.h (by omega) (nmOf pa) (nmOf pb) [] none 0 0 hsz hszb (Grd.nil _)).mono ?_; rintro e w4 ⟨rfl, h1, o1⟩; have hd := did_move HI.out (nmOf pa) (nmOf pb); have hst4 := HS2.out.call h1 o1; obtain ⟨r, hr⟩ : ∃ r, S.moveF (nmOf pa) (nmOf pb) [] = r := ⟨_, rfl⟩; rw [hr] at hd hst4 ⊢; obtain ⟨⟨s, e⟩, S'⟩ := r; clear hr h1 o1; rcases hd with ⟨hd1, hd2⟩ | ⟨hd1, hd2, hd3⟩; (focus (have hd1' : e ≠ 0 := hd1; have he : (e == 0) = false := (by rw [beq_eq_false_iff_ne]; exact hd1'); have hd2' : S' = S := hd2; have HM := Lib.hid (show Mid w w4 fb mb sb lb (k + 1) m seen 6 s e (nmOf pb) from ⟨S', last, hst4, .inl ⟨.inl hd1', by rw [hd2']; exact HI.out⟩⟩); clear hd1 hd2 hst4 hd2' hd1'; go_wp2_with fail; go_meet; exact ⟨s, e, pb, rfl, rfl, rfl, hpb1, HM.out⟩)); (focus (obtain rfl : e = 0 := hd1; obtain ⟨w5, hdel, hml, hmg⟩ := hst4.l.del (nmOf pa) hmx; have HM := Lib.hid (show Mid w w5 fb mb sb lb (k + 1) m seen 6 s 0 (nmOf pb) from ⟨S', _, hst4.putL hml (Nat.le_refl _) hmg, .inr ⟨rfl, by omega, hd2, hd3⟩⟩); clear hd2 hd3 hst4 hml hmg; go_wp2_with fail; go_meet; exact ⟨s, 0, pb, rfl, rfl, rfl, hpb1, HM.out⟩)))
        · as_aux_lemma =>
            go_wp2_with fail
            refine (drop_h HS2.out.h (by omega) (nmOf pa) [] none 0 0 hsz (Grd.nil _)).mono ?_
            rintro e w4 ⟨rfl, h1, o1⟩
            have hd := did_drop HI.out (nmOf pa)
            have hst4 := HS2.out.call h1 o1
            obtain ⟨r, hr⟩ : ∃ r, S.dropF (nmOf pa) [] = r := ⟨_, rfl⟩
            rw [hr] at hd hst4 ⊢
            obtain ⟨e, S'⟩ := r
            clear hr h1 o1
            rcases hd with ⟨hd1, hd2⟩ | ⟨hd1, hd2⟩
            · have he : (e == 0) = false := by rw [beq_eq_false_iff_ne]; exact hd1
              have hd2' : S' = S := hd2
              have HM := Lib.hid (show Mid w w4 fb mb sb lb (k + 1) m seen 7 0 e (nmOf pa) from ⟨S', last, hst4, .inl ⟨.inr (by omega), by rw [hd2']; exact HI.out⟩⟩)
              clear hd1 hd2 hst4 hd2'
              go_wp2_with fail
              go_meet
              exact ⟨0, e, pa, rfl, rfl, rfl, hpa1, HM.out⟩
            · obtain rfl : e = 0 := hd1
              obtain ⟨w5, hdel, hml, hmg⟩ := hst4.l.del (nmOf pa) hmx
              have HM := Lib.hid (show Mid w w5 fb mb sb lb (k + 1) m seen 7 0 0 (nmOf pa) from ⟨S', _, hst4.putL hml (Nat.le_refl _) hmg, .inl ⟨.inr (by omega), hd2⟩⟩)
              clear hd2 hst4 hml hmg
              go_wp2_with fail
              go_meet
              exact ⟨0, 0, pa, rfl, rfl, rfl, hpa1, HM.out⟩
      case rest =>
        obtain ⟨W, rfl⟩ : ∃ y : World, y = wc := ⟨_, rfl⟩
        obtain ⟨s, e, t, rfl, rfl, rfl, ht, ⟨S', last', hst4, hor⟩⟩ := hcut
        have HS4 := Lib.hid hst4
        have Hor := Lib.hid hor
        clear hst4 hor HS2 HI hc3
        have htz := nmOf_size t
        have htx : (nmOf t).size ≤ maxLen := Nat.le_trans htz (by decide)
        go_upto_region 30 with fail
        go_cut [115] (fun s115 wx => s115 = .bool (decide (e = 0 ∧ q < 7)) ∧ wx = W)
        case first =>
          as_aux_lemma =>
            obtain ⟨ad2, had2, hc4, _, _⟩ := (HA.out.below HS4.out.h.bel).get hlt1
            obtain rfl : ad = ad2 := Option.some.inj had2
            rw [hv] at hc4
            by_cases he0 : e = 0
            · subst he0
              by_cases hq7 : q < 7
              · have hq8 : (q : Int) < 7 := by omega
                have hd := Lib.hid (show decide ((0 : Int) = 0 ∧ q < 7) = true by simp [hq7])
                go_wp2_with fail
                go_meet
                exact ⟨by rw [hd.out], rfl⟩
              · have hq8 : ¬ (q : Int) < 7 := by omega
                have hd := Lib.hid (show decide ((0 : Int) = 0 ∧ q < 7) = false by simp [hq7])
                go_wp2_with fail
                go_meet
                exact ⟨by rw [hd.out], rfl⟩
            · have he : (e == 0) = false := by rw [beq_eq_false_iff_ne]; exact he0
              have hd := Lib.hid (show decide (e = 0 ∧ q < 7) = false by simp [he0])
              go_wp2_with fail
              go_meet
              exact ⟨by rw [hd.out], rfl⟩
        case rest =>
        obtain ⟨hs115, hWW⟩ := hcut
        subst hs115
        subst hWW
        go_upto_if 115 with fail
        go_cut [9] (fun s9 wx => s9 = .int .i64 s ∧ ∃ S seen last, StW w wx fb mb sb lb (k + 1) (m + 2) S seen last ∧ Inv S seen last)
        case first =>
          as_aux_lemma =>
            rcases Hor.out with ⟨hA1, hA2⟩ | ⟨rfl, hB1, hB2, hB3⟩
            · have HD := Lib.hid (show StW w wc fb mb sb lb (k + 1) (m + 2) S' seen last' ∧ Inv S' seen last' from ⟨⟨HS4.out.h, HS4.out.s.more (by omega), HS4.out.l.more (by omega), HS4.out.d1, HS4.out.d2, HS4.out.d3, HS4.out.hs, HS4.out.hl⟩, hA2⟩)
              have hdd : decide (e = 0 ∧ q < 7) = false := by simp; intro h; rcases hA1 with h' | h' <;> omega
              clear hA2 Hor hA1
              rw [hdd]
              go_wp2_with fail
              go_meet
              exact ⟨rfl, _, _, _, HD.out⟩
            · have hs1 : 1 ≤ s := by have := hB3.l0; omega
              have hs2 : s ≤ 1000 := by have := HS4.out.h.fin.l1; omega
              have HB2 := Lib.hid hB2
              have HB3 := Lib.hid hB3
              clear hB2 hB3 Hor
              have hwf : (Lit.int .i64 s).wf = true := by simp [Lit.wf, IntKind.min, IntKind.max, IntKind.signed, IntKind.bits]; omega
              have hl1 := HS4.out.s.look s hwf
              rw [inv_fresh HB3.out s HB2.out] at hl1
              have hst := Lib.hid (show S'.st (nmOf t) = s by rw [HB3.out.st, HB2.out])
              have hdd : decide ((0 : Int) = 0 ∧ q < 7) = true := by simp [hB1]
              rw [hdd]
              go_wp2_with fail
              refine (stamp_h HS4.out.h (nmOf t) htz).mono ?_
              rintro e w' ⟨rfl, rfl⟩
              rw [hst.out]
              obtain ⟨w5, hput, hm5, hg5⟩ := HS4.out.s.put (by have := nMax (n := m) (k := 5000) (by omega) (by omega); exact this) s hwf
              have hst5 := HS4.out.putS hm5 hg5
              obtain ⟨w6, hput2, hm6, hg6⟩ := hst5.l.put (by have := nMax (n := m + 1) (k := 5000) (by omega) (by omega); exact this) (nmOf t) htx s
              have HD := Lib.hid (show StW w w6 fb mb sb lb (k + 1) (m + 2) S' _ _ ∧ Inv S' _ _ from ⟨hst5.putL hm6 (by omega) hg6, inv_told HB3.out s HB2.out⟩)
              clear hm5 hg5 hst5 hm6 hg6
              go_wp2_with fail
              go_meet
              exact ⟨rfl, _, _, _, HD.out⟩
        case rest =>
        obtain ⟨W2, rfl⟩ : ∃ y : World, y = wc := ⟨_, rfl⟩
        obtain ⟨rfl, S2, seen2, last2, hst5, hin5⟩ := hcut
        have HS5 := Lib.hid hst5
        have HI5 := Lib.hid hin5
        clear hst5 hin5 HS4 Hor
        go_wp2_with fail
        go_loopw [12] (fun i wx => ∃ (x k2 m2 : Nat) (S : Fs) (seen : Int → Bool) (last : List UInt8 → Int), x ≤ 4 ∧ i = .int .i64 x ∧ k2 ≤ k + 1 + 2 * x ∧ m2 ≤ m + 2 + x ∧ StW w wx fb mb sb lb k2 m2 S seen last ∧ Inv S seen last) (fun i _ => 4 - (intOf i).toNat)
        case atStart => exact ⟨0, k + 1, m + 2, _, _, _, by omega, rfl, by omega, by omega, HS5.out, HI5.out⟩
        case round =>
          clear HS5 HI5
          obtain ⟨x, k2, m2, S6, seen6, last6, hx4, rfl, hk2, hm2, hst6, hin6⟩ := hrel
          have HS6 := Lib.hid hst6
          have HI6 := Lib.hid hin6
          clear hst6 hin6
          by_cases hxl : x < 4
          · have hnx := Lib.hid (nmIx_small x hxl)
            have hxz := nmOf_size x
            have hxx : (nmOf x).size ≤ maxLen := Nat.le_trans hxz (by decide)
            have hk6 : k2 ≤ 1000 := by omega
            go_wp2_with fail
            refine (name_any _ _).mono ?_
            rintro e w7 ⟨rfl, hb7⟩
            rw [hnx.out]
            have HS7 := Lib.hid (HS6.out.below hb7)
            clear hb7 HS6
            obtain ⟨y, hy⟩ : ∃ y, last6 (nmOf x).data.toList = y := ⟨_, rfl⟩
            have hlk := HS7.out.l.look (nmOf x) hxx
            rw [hy] at hlk
            have hN := HI6.out.n x hxl
            have hy0 : 0 ≤ y := by rw [← hy, hN.st]; exact hN.ge
            have hy1 : y ≤ 1000 := by have h1 := HS7.out.h.fin.l1; have h2 := hN.le; rw [← hy, hN.st]; omega
            have hwy : IntKind.i64.wrap (y + 1000000) = y + 1000000 := by rw [IntKind.wrap_i64]; omega
            have hL1 : 0 ≤ S6.last := HI6.out.l0
            have hL2 : S6.last ≤ 1000 := by have h1 := HS7.out.h.fin.l1; omega
            clear hN
            go_wp2_with fail
            refine (append_h HS7.out.h.alloc (by omega) nzz [] [(nmOf x, y)] none 0 0 (some ⟨w7.heap.size, 0, none⟩) 1 1 (by decide) (by omega) (by omega) (Bs.nil _ _) (fun ad h => by cases h) (Grd.one rfl (nmOf x) (by omega) y)).mono ?_
            rintro e w8 ⟨rfl, h1, o1⟩
            have hst8 := HS7.out.alloc.call h1 o1
            clear h1 o1 HS7 hlk
            by_cases hyp : 0 < y
            · as_aux_lemma =>
                obtain ⟨S7, e1, e2, e3, e4, e5, e6⟩ := zz_on HI6.out x hxl (by rw [hy]; exact hyp)
                rw [hy] at e1 e5
                rw [e1] at hst8 ⊢
                have HS8 := Lib.hid hst8
                have E2 := Lib.hid e2
                have E4 := Lib.hid e4
                have E5 := Lib.hid e5
                have HI7 := Lib.hid e6
                clear hst8 e1 e2 e3 e4 e5 e6
                (have HS9 := Lib.hid HS8.out.drew; have hlk2 := HS9.out.l.look (nmOf x) hxx; rw [hy] at hlk2; have hlk3 := HS8.out.l.look (nmOf x) hxx; rw [hy] at hlk3; go_upto_region 41 with fail; clear hlk3; (refine wp_region_held_drew (S := fun w' => (Instr.lookup 57 (.map (some lb)) (.string (nmOf x)) false).run Try.prog w' = .ok (.int .i64 y) w') (by kernel_rfl) (hlk2) (fun hHeld => ?_)); (refine wpAnyH_take (i := 0) (oi := _) (v := ?_) (ops_at rfl) (by kernel_rfl) (by kernel_rfl) (by kernel_rfl) (fun _ _ _ h => h) (Or.inl ⟨by rfl, ?_⟩) (by assumption) ?_; rotate_left; (focus (intro w hSw; (try dsimp only at hSw); go_simp; (try with_reducible rfl))); (try simp only [Act.put, List.setIfInBounds_toArray, List.set_cons_zero, List.set_cons_succ])); (refine wpAnyH_take (i := 1) (oi := _) (v := ?_) (ops_at rfl) (by kernel_rfl) (by kernel_rfl) (by kernel_rfl) (fun _ _ _ h => h) (Or.inl ⟨by rfl, ?_⟩) (by assumption) ?_; rotate_left; (focus (intro w hSw; (try dsimp only at hSw); go_simp; (try with_reducible rfl))); (try simp only [Act.put, List.setIfInBounds_toArray, List.set_cons_zero, List.set_cons_succ])); (refine wpAnyH_take (i := 2) (oi := _) (v := ?_) (ops_at rfl) (by kernel_rfl) (by kernel_rfl) (by kernel_rfl) (fun _ _ _ h => h) (Or.inl ⟨by rfl, ?_⟩) (by assumption) ?_; rotate_left; (focus (intro w hSw; (try dsimp only at hSw); go_simp; (try with_reducible rfl))); (try simp only [Act.put, List.setIfInBounds_toArray, List.set_cons_zero, List.set_cons_succ])); (refine wpAnyH_take (i := 3) (oi := _) (v := ?_) (ops_at rfl) (by kernel_rfl) (by kernel_rfl) (by kernel_rfl) (fun _ _ _ h => h) (Or.inl ⟨by rfl, ?_⟩) (by assumption) ?_; rotate_left; (focus (intro w hSw; (try dsimp only at hSw); go_simp; (try with_reducible rfl))); (try simp only [Act.put, List.setIfInBounds_toArray, List.set_cons_zero, List.set_cons_succ])); (refine wpAnyH_take (i := 4) (oi := _) (v := ?_) (ops_at rfl) (by kernel_rfl) (by kernel_rfl) (by kernel_rfl) (fun _ _ _ h => h) (Or.inl ⟨by rfl, ?_⟩) (by assumption) ?_; rotate_left; (focus (intro w hSw; (try dsimp only at hSw); go_simp; (try with_reducible rfl))); (try simp only [Act.put, List.setIfInBounds_toArray, List.set_cons_zero, List.set_cons_succ])); (refine wpAnyH_take (i := 5) (oi := _) (v := ?_) (ops_at rfl) (by kernel_rfl) (by kernel_rfl) (by kernel_rfl) (fun _ _ _ h => h) (Or.inl ⟨by rfl, ?_⟩) (by assumption) ?_; rotate_left; (focus (intro w hSw; (try dsimp only at hSw); go_simp; (try with_reducible rfl))); (try simp only [Act.put, List.setIfInBounds_toArray, List.set_cons_zero, List.set_cons_succ])); (refine wpAnyH_take (i := 6) (oi := _) (v := ?_) (ops_at rfl) (by kernel_rfl) (by kernel_rfl) (by kernel_rfl) (fun _ _ _ h => h) (Or.inl ⟨by rfl, ?_⟩) (by assumption) ?_; rotate_left; (focus (intro w hSw; (try dsimp only at hSw); go_simp; (try with_reducible rfl))); (try simp only [Act.put, List.setIfInBounds_toArray, List.set_cons_zero, List.set_cons_succ])); (refine wpAnyH_take (i := 7) (oi := _) (v := ?_) (ops_at rfl) (by kernel_rfl) (by kernel_rfl) (by kernel_rfl) (fun _ _ _ h => h) (Or.inl ⟨by rfl, ?_⟩) (by assumption) ?_; rotate_left; (focus (intro w hSw; (try dsimp only at hSw); go_simp; (try with_reducible rfl))); (try simp only [Act.put, List.setIfInBounds_toArray, List.set_cons_zero, List.set_cons_succ])); (refine wpAnyH_take (i := 8) (oi := _) (v := ?_) (ops_at rfl) (by kernel_rfl) (by kernel_rfl) (by kernel_rfl) (fun _ _ _ h => h) (Or.inl ⟨by rfl, ?_⟩) (by assumption) ?_; rotate_left; (focus (intro w hSw; (try dsimp only at hSw); go_simp; (try with_reducible rfl))); (try simp only [Act.put, List.setIfInBounds_toArray, List.set_cons_zero, List.set_cons_succ])); (refine wpAnyH_take (i := 9) (oi := _) (v := ?_) (ops_at rfl) (by kernel_rfl) (by kernel_rfl) (by kernel_rfl) (fun _ _ _ h => h) (Or.inl ⟨by rfl, ?_⟩) (by assumption) ?_; rotate_left; (focus (intro w hSw; (try dsimp only at hSw); go_simp; (try with_reducible rfl))); (try simp only [Act.put, List.setIfInBounds_toArray, List.set_cons_zero, List.set_cons_succ])); (refine wpAnyH_take (i := 11) (oi := _) (v := ?_) (ops_at rfl) (by kernel_rfl) (by kernel_rfl) (by kernel_rfl) (fun _ _ _ h => h) (Or.inl ⟨by rfl, ?_⟩) (by assumption) ?_; rotate_left; (focus (intro w hSw; (try dsimp only at hSw); go_simp; (try with_reducible rfl))); (try simp only [Act.put, List.setIfInBounds_toArray, List.set_cons_zero, List.set_cons_succ])); (refine wpAnyH_take (i := 12) (oi := _) (v := ?_) (ops_at rfl) (by kernel_rfl) (by kernel_rfl) (by kernel_rfl) (fun _ _ _ h => h) (Or.inl ⟨by rfl, ?_⟩) (by assumption) ?_; rotate_left; (focus (intro w hSw; (try dsimp only at hSw); go_simp; (try with_reducible rfl))); (try simp only [Act.put, List.setIfInBounds_toArray, List.set_cons_zero, List.set_cons_succ])); (refine wpAnyH_take (i := 13) (oi := _) (v := ?_) (ops_at rfl) (by kernel_rfl) (by kernel_rfl) (by kernel_rfl) (fun _ _ _ h => h) (Or.inl ⟨by rfl, ?_⟩) (by assumption) ?_; rotate_left; (focus (intro w hSw; (try dsimp only at hSw); go_simp; (try with_reducible rfl))); (try simp only [Act.put, List.setIfInBounds_toArray, List.set_cons_zero, List.set_cons_succ])); (refine wpAnyH_ready (rs := [10]) (by kernel_rfl) (by simp) (AllReadyH.cons (ops_at rfl) (fun K hK => ?_) AllReadyH.nil); go_simp; (refine (stamp_h HS9.out.h (nmOf x) hxz).mono ?_; rintro e w' ⟨rfl, rfl⟩; rw [E5.out]); refine hK.out _ _ (hlk2) (fun hHeld => ?_); clear hK K; (try simp only [Act.put, List.setIfInBounds_toArray, List.set_cons_zero, List.set_cons_succ])); (refine wpAnyH_take (i := 14) (oi := _) (v := ?_) (ops_at rfl) (by kernel_rfl) (by kernel_rfl) (by kernel_rfl) (fun _ _ _ h => h) (Or.inl ⟨by rfl, ?_⟩) (by assumption) ?_; rotate_left; (focus (intro w hSw; (try dsimp only at hSw); go_simp; (try with_reducible rfl))); (try simp only [Act.put, List.setIfInBounds_toArray, List.set_cons_zero, List.set_cons_succ])); (refine wpAnyH_take (i := 15) (oi := _) (v := ?_) (ops_at rfl) (by kernel_rfl) (by kernel_rfl) (by kernel_rfl) (fun _ _ _ h => h) (Or.inl ⟨by rfl, ?_⟩) (by assumption) ?_; rotate_left; (focus (intro w hSw; (try dsimp only at hSw); go_simp; (try with_reducible rfl))); (try simp only [Act.put, List.setIfInBounds_toArray, List.set_cons_zero, List.set_cons_succ])); (refine wpAnyH_done (by kernel_rfl) ?_ _); clear hHeld hlk2 HS8; go_upto_if 168 with fail; refine at_world (fun W => StW w W fb mb sb lb _ _ _ _ _) HS9.out ?_; clear HS9; rintro W9 hst9; have HS9 := Lib.hid hst9; clear hst9)
                go_wp2_with fail
                refine (stamp_h HS9.out.h nzz (by decide)).mono ?_
                rintro e w' ⟨rfl, rfl⟩
                rw [E2.out]
                have hwf : (Lit.int .i64 (S6.last + 1)).wf = true := by simp [Lit.wf, IntKind.min, IntKind.max, IntKind.signed, IntKind.bits]; omega
                have hl1 := HS9.out.s.look (S6.last + 1) hwf
                rw [E4.out] at hl1
                obtain ⟨w9, hput, hm9, hg9⟩ := HS9.out.s.put (by have := nMax (n := m2) (k := 5000) (by omega) (by omega); exact this) (S6.last + 1) hwf
                have HS10 := Lib.hid (HS9.out.putS hm9 hg9)
                have hlk := HS10.out.l.look (nmOf x) hxx
                rw [hy] at hlk
                clear hm9 hg9 HS9
                go_wp2_with fail
                (refine (append_h HS10.out.h.alloc (by omega) nzz [] [(nmOf x, y + 1000000)] none 0 0 (some ⟨(w9).heap.size, 0, none⟩) 1 1 (by decide) (by omega) (by omega) (Bs.nil _ _) (fun ad h => by cases h) (Grd.one rfl (nmOf x) (by omega) (y + 1000000))).mono ?_; rintro e w12 ⟨rfl, h1, o1⟩; have e9 := zz_off HI7.out x hxl 1000000 (.inl (by decide)) (by omega); rw [hy] at e9; rw [e9] at h1 ⊢; have HS12 := Lib.hid (HS10.out.alloc.call h1 o1); clear h1 o1 e9 hlk HS10; go_wp2_with fail; exact ⟨⟨x + 1, _, (m2 + 1), _, _, _, by omega, by go_num, Nat.le_trans (Nat.le_refl _) (by omega), by omega, HS12.out, HI7.out⟩, by simp [intOf]; omega⟩)
            · as_aux_lemma =>
                have hy00 := Lib.hid (show y = 0 by omega)
                have hd0 : decide (0 < y) = false := decide_eq_false hyp
                have e1 := zz_off HI6.out x hxl 0 (.inr (by rw [hy]; exact hy00.out)) (by omega)
                rw [Int.add_zero, hy] at e1
                rw [e1] at hst8 ⊢
                have HS8 := Lib.hid hst8
                have E5 := Lib.hid (show S6.st (nmOf x) = y by rw [← (HI6.out.n x hxl).st, hy])
                clear hst8 e1
                (have HS9 := Lib.hid HS8.out.drew; have hlk2 := HS9.out.l.look (nmOf x) hxx; rw [hy] at hlk2; have hlk3 := HS8.out.l.look (nmOf x) hxx; rw [hy] at hlk3; go_upto_region 41 with fail; clear hlk3; (refine wp_region_held_drew (S := fun w' => (Instr.lookup 57 (.map (some lb)) (.string (nmOf x)) false).run Try.prog w' = .ok (.int .i64 y) w') (by kernel_rfl) (hlk2) (fun hHeld => ?_)); (refine wpAnyH_take (i := 0) (oi := _) (v := ?_) (ops_at rfl) (by kernel_rfl) (by kernel_rfl) (by kernel_rfl) (fun _ _ _ h => h) (Or.inl ⟨by rfl, ?_⟩) (by assumption) ?_; rotate_left; (focus (intro w hSw; (try dsimp only at hSw); go_simp; (try with_reducible rfl))); (try simp only [Act.put, List.setIfInBounds_toArray, List.set_cons_zero, List.set_cons_succ])); (refine wpAnyH_take (i := 1) (oi := _) (v := ?_) (ops_at rfl) (by kernel_rfl) (by kernel_rfl) (by kernel_rfl) (fun _ _ _ h => h) (Or.inl ⟨by rfl, ?_⟩) (by assumption) ?_; rotate_left; (focus (intro w hSw; (try dsimp only at hSw); go_simp; (try with_reducible rfl))); (try simp only [Act.put, List.setIfInBounds_toArray, List.set_cons_zero, List.set_cons_succ])); (refine wpAnyH_take (i := 2) (oi := _) (v := ?_) (ops_at rfl) (by kernel_rfl) (by kernel_rfl) (by kernel_rfl) (fun _ _ _ h => h) (Or.inl ⟨by rfl, ?_⟩) (by assumption) ?_; rotate_left; (focus (intro w hSw; (try dsimp only at hSw); go_simp; (try with_reducible rfl))); (try simp only [Act.put, List.setIfInBounds_toArray, List.set_cons_zero, List.set_cons_succ])); (refine wpAnyH_take (i := 3) (oi := _) (v := ?_) (ops_at rfl) (by kernel_rfl) (by kernel_rfl) (by kernel_rfl) (fun _ _ _ h => h) (Or.inl ⟨by rfl, ?_⟩) (by assumption) ?_; rotate_left; (focus (intro w hSw; (try dsimp only at hSw); go_simp; (try with_reducible rfl))); (try simp only [Act.put, List.setIfInBounds_toArray, List.set_cons_zero, List.set_cons_succ])); (refine wpAnyH_take (i := 4) (oi := _) (v := ?_) (ops_at rfl) (by kernel_rfl) (by kernel_rfl) (by kernel_rfl) (fun _ _ _ h => h) (Or.inl ⟨by rfl, ?_⟩) (by assumption) ?_; rotate_left; (focus (intro w hSw; (try dsimp only at hSw); go_simp; (try with_reducible rfl))); (try simp only [Act.put, List.setIfInBounds_toArray, List.set_cons_zero, List.set_cons_succ])); (refine wpAnyH_take (i := 5) (oi := _) (v := ?_) (ops_at rfl) (by kernel_rfl) (by kernel_rfl) (by kernel_rfl) (fun _ _ _ h => h) (Or.inl ⟨by rfl, ?_⟩) (by assumption) ?_; rotate_left; (focus (intro w hSw; (try dsimp only at hSw); go_simp; (try with_reducible rfl))); (try simp only [Act.put, List.setIfInBounds_toArray, List.set_cons_zero, List.set_cons_succ])); (refine wpAnyH_take (i := 6) (oi := _) (v := ?_) (ops_at rfl) (by kernel_rfl) (by kernel_rfl) (by kernel_rfl) (fun _ _ _ h => h) (Or.inl ⟨by rfl, ?_⟩) (by assumption) ?_; rotate_left; (focus (intro w hSw; (try dsimp only at hSw); go_simp; (try with_reducible rfl))); (try simp only [Act.put, List.setIfInBounds_toArray, List.set_cons_zero, List.set_cons_succ])); (refine wpAnyH_take (i := 7) (oi := _) (v := ?_) (ops_at rfl) (by kernel_rfl) (by kernel_rfl) (by kernel_rfl) (fun _ _ _ h => h) (Or.inl ⟨by rfl, ?_⟩) (by assumption) ?_; rotate_left; (focus (intro w hSw; (try dsimp only at hSw); go_simp; (try with_reducible rfl))); (try simp only [Act.put, List.setIfInBounds_toArray, List.set_cons_zero, List.set_cons_succ])); (refine wpAnyH_take (i := 8) (oi := _) (v := ?_) (ops_at rfl) (by kernel_rfl) (by kernel_rfl) (by kernel_rfl) (fun _ _ _ h => h) (Or.inl ⟨by rfl, ?_⟩) (by assumption) ?_; rotate_left; (focus (intro w hSw; (try dsimp only at hSw); go_simp; (try with_reducible rfl))); (try simp only [Act.put, List.setIfInBounds_toArray, List.set_cons_zero, List.set_cons_succ])); (refine wpAnyH_take (i := 9) (oi := _) (v := ?_) (ops_at rfl) (by kernel_rfl) (by kernel_rfl) (by kernel_rfl) (fun _ _ _ h => h) (Or.inl ⟨by rfl, ?_⟩) (by assumption) ?_; rotate_left; (focus (intro w hSw; (try dsimp only at hSw); go_simp; (try with_reducible rfl))); (try simp only [Act.put, List.setIfInBounds_toArray, List.set_cons_zero, List.set_cons_succ])); (refine wpAnyH_take (i := 11) (oi := _) (v := ?_) (ops_at rfl) (by kernel_rfl) (by kernel_rfl) (by kernel_rfl) (fun _ _ _ h => h) (Or.inl ⟨by rfl, ?_⟩) (by assumption) ?_; rotate_left; (focus (intro w hSw; (try dsimp only at hSw); go_simp; (try with_reducible rfl))); (try simp only [Act.put, List.setIfInBounds_toArray, List.set_cons_zero, List.set_cons_succ])); (refine wpAnyH_take (i := 12) (oi := _) (v := ?_) (ops_at rfl) (by kernel_rfl) (by kernel_rfl) (by kernel_rfl) (fun _ _ _ h => h) (Or.inl ⟨by rfl, ?_⟩) (by assumption) ?_; rotate_left; (focus (intro w hSw; (try dsimp only at hSw); go_simp; (try with_reducible rfl))); (try simp only [Act.put, List.setIfInBounds_toArray, List.set_cons_zero, List.set_cons_succ])); (refine wpAnyH_take (i := 13) (oi := _) (v := ?_) (ops_at rfl) (by kernel_rfl) (by kernel_rfl) (by kernel_rfl) (fun _ _ _ h => h) (Or.inl ⟨by rfl, ?_⟩) (by assumption) ?_; rotate_left; (focus (intro w hSw; (try dsimp only at hSw); go_simp; (try with_reducible rfl))); (try simp only [Act.put, List.setIfInBounds_toArray, List.set_cons_zero, List.set_cons_succ])); (refine wpAnyH_ready (rs := [10]) (by kernel_rfl) (by simp) (AllReadyH.cons (ops_at rfl) (fun K hK => ?_) AllReadyH.nil); go_simp; (refine (stamp_h HS9.out.h (nmOf x) hxz).mono ?_; rintro e w' ⟨rfl, rfl⟩; rw [E5.out]); refine hK.out _ _ (hlk2) (fun hHeld => ?_); clear hK K; (try simp only [Act.put, List.setIfInBounds_toArray, List.set_cons_zero, List.set_cons_succ])); (refine wpAnyH_take (i := 14) (oi := _) (v := ?_) (ops_at rfl) (by kernel_rfl) (by kernel_rfl) (by kernel_rfl) (fun _ _ _ h => h) (Or.inl ⟨by rfl, ?_⟩) (by assumption) ?_; rotate_left; (focus (intro w hSw; (try dsimp only at hSw); go_simp; (try with_reducible rfl))); (try simp only [Act.put, List.setIfInBounds_toArray, List.set_cons_zero, List.set_cons_succ])); (refine wpAnyH_take (i := 15) (oi := _) (v := ?_) (ops_at rfl) (by kernel_rfl) (by kernel_rfl) (by kernel_rfl) (fun _ _ _ h => h) (Or.inl ⟨by rfl, ?_⟩) (by assumption) ?_; rotate_left; (focus (intro w hSw; (try dsimp only at hSw); go_simp; (try with_reducible rfl))); (try simp only [Act.put, List.setIfInBounds_toArray, List.set_cons_zero, List.set_cons_succ])); (refine wpAnyH_done (by kernel_rfl) ?_ _); clear hHeld hlk2 HS8; go_upto_if 168 with fail; refine at_world (fun W => StW w W fb mb sb lb _ _ _ _ _) HS9.out ?_; clear HS9; rintro W9 hst9; have HS9 := Lib.hid hst9; clear hst9)
                have hlk := HS9.out.l.look (nmOf x) hxx
                rw [hy] at hlk
                go_wp2_with fail
                (refine (append_h HS9.out.h.alloc (by omega) nzz [] [(nmOf x, y + 1000000)] none 0 0 (some ⟨(W9).heap.size, 0, none⟩) 1 1 (by decide) (by omega) (by omega) (Bs.nil _ _) (fun ad h => by cases h) (Grd.one rfl (nmOf x) (by omega) (y + 1000000))).mono ?_; rintro e w12 ⟨rfl, h1, o1⟩; have e9 := zz_off HI6.out x hxl 1000000 (.inl (by decide)) (by omega); rw [hy] at e9; rw [e9] at h1 ⊢; have HS12 := Lib.hid (HS9.out.alloc.call h1 o1); clear h1 o1 e9 hlk HS9; go_wp2_with fail; exact ⟨⟨x + 1, _, m2, _, _, _, by omega, by go_num, Nat.le_trans (Nat.le_refl _) (by omega), by omega, HS12.out, HI6.out⟩, by simp [intOf]; omega⟩)
          · have hx5 : x = 4 := by omega
            subst hx5
            go_wp2_with fail
            exact ⟨⟨j + 1, k2, m2, S6, seen6, last6, by omega, by omega, by go_num, by omega, by omega, HS6.out, HI6.out⟩, by simp [intOf]; omega⟩
    · have HH := Lib.hid HS.out.h
      clear HS HI
      by_cases hjn : j < n
      · have hj1 : j = 100 := by omega
        obtain ⟨ad, hAd, hc, _, _⟩ := (HA.out.below HH.out.bel).get hjn
        subst hj1
        go_wp2_with fail
        refine (awake9_any _).mono ?_; rintro e w9 ⟨rfl, hb9⟩; have Hb := Lib.hid (HH.out.bel.trans (hb9.mono HH.out.bel.size)); clear hb9 HH; go_wp2_with fail; go_ret; exact ⟨rfl, Hb.out⟩
      · have hj1 : ¬ (j : Int) < (n : Int) := by omega
        go_wp2_with fail
        refine (awake9_any _).mono ?_; rintro e w9 ⟨rfl, hb9⟩; have Hb := Lib.hid (HH.out.bel.trans (hb9.mono HH.out.bel.size)); clear hb9 HH; go_wp2_with fail; go_ret; exact ⟨rfl, Hb.out⟩
theorem simfstamps_row {A : Option Addr} {n c : Nat} {l : List Int} {w : World} (hb : Came .i64 w A n c l) (yb : n * 8 ≤ 140737488351232) (W : World) (hW : W = w) :
    Calls Try.prog 8 #[.slice A n c] W fun e w' => e = .returned (.bool true) ∧ Below W.heap.size W w' := by
  subst hW
  exact simfstamps_any A n c l W (came_ints hb yb)
end Go.Proofs.Ytgegflgmdcdkbaa
