/- Locks: LockOne. -/
import Derived.Test.YtahdeighocmijaaGreatDoorLOneC
namespace Go.Proofs.YtahdeighocmijaaGreatDoor
set_option linter.unusedSimpArgs false
set_option linter.unusedVariables false
open Go.RowKit
open Crc (Bytes)
section
variable {w0 wr : World} {ad : Addr} {ln lc fb mb ab i n e p j r : Nat} {t : Array Value} {h : Nat → Hd} {S : Fs} {x : Int} {K : Act → World → Prop} {R : Ending → World → Prop}
theorem one_round (H : Arm w0 ad ln lc fb mb ab t wr i n e h S x p j r) : Code.wp Tryz.prog oneBody (OneQ w0 ad ln lc fb mb ab t wr (Exit.inBlock 0 (Exit.then K (bodyPost Tryz.prog Tryz.f5 R)))) ⟨t, []⟩ wr := by
  by_cases h15 : r = 15
  · exact arm_tick H h15
  have hn0 : (0 : Int) ≤ (n : Int) := by omega
  have hn1 : (n : Int) ≤ 30000 := by have := H.hn; have := H.hi; omega
  have he1 : (e : Int) ≤ 299 := by have := H.he; have := H.hi; omega
  cases htj : (h j).t with
  | some q =>
    obtain ⟨tb, tk⟩ := q
    obtain ⟨hwf, hlen2, k, tk', S', hst, hdone⟩ := one_take H.I H.hj htj (n : Int) hn0 hn1 he1
    rcases hdone.or_ with ⟨rfl, hI⟩ | ⟨rfl, hI⟩ | ⟨rfl, a5, a1, ag, aw, al, au, ae, am, ao, hI⟩
    · exact arm_take0 H h15 htj hwf hlen2 hst hI
    · exact arm_take2 H h15 htj hwf hlen2 hst hI
    · by_cases hep : tk'.l.epoch = (e : Int)
      · rw [hep] at hI
        exact arm_take1 H h15 htj hwf hlen2 hst a5 a1 ag aw ⟨hep, ae hep⟩ am ao hI
      · have hep2 : tk'.l.epoch = ((e + 1 : Nat) : Int) := by omega
        rw [hep2] at hI
        exact arm_take1n H h15 htj hwf hlen2 hst a5 a1 ag aw ⟨hep2, trivial⟩ am ao hI
  | none =>
    cases hwj : (h j).w with
    | some q =>
      obtain ⟨wb, wk⟩ := q
      obtain ⟨hp1, hp2, hp3, k, wk', S', hst, hdone⟩ := one_write H.I H.hj hwj he1
      rcases hdone.or_ with ⟨rfl, hI⟩ | ⟨rfl, a5, a1, hI⟩ | ⟨rfl, hsg, a5, a1, af, hgs, hle, hI1, hI2⟩
      · exact arm_write0 H h15 htj hwj hp1 hp2 hp3 hst hI
      · exact arm_write2 H h15 htj hwj hp1 hp2 hp3 hst a5 a1 hI
      · cases hfr : (h j).free with
        | true => exact arm_write1f H h15 htj hwj hp1 hp2 hp3 hst hsg a5 af hfr (hI1 hfr)
        | false => exact arm_write1n H h15 htj hwj hp1 hp2 hp3 hst hsg a5 a1 af hfr hgs hle (hI2 hfr)
    | none =>
      cases hh : (h j).held with
      | false => exact arm_newt H h15 htj hwj hh
      | true =>
        by_cases h8 : r < 8
        · exact arm_newf H h15 h8 htj hwj hh
        · exact arm_newr H h15 h8 htj hwj hh
end
set_option maxRecDepth 100000 in
set_option maxHeartbeats 4000000 in
theorem lockone_any (A : Option Addr) (ln lc : Nat) (l : List Int) (w : World) (hI : Is w A ln l) : Calls Tryz.prog 5 #[.slice A ln lc] w fun e w' => e = .returned (.bool true) ∧ Below w.heap.size w w' := by
  have HI := Lib.hid hI
  clear hI
  go_enter Tryz.func5, Tryz.ntmps5
  go_wp2_with fail
  refine (new_h w 1048576).mono ?_
  rintro e w1 ⟨fb, mb, rfl, h0⟩
  have H0 := Lib.hid h0
  clear h0
  go_upto_region 5 with fail
  obtain ⟨ab, hab⟩ : ∃ ab, ab = w1.heap.size := ⟨_, rfl⟩
  rw [← hab]
  refine at_world (fun W => OneAt w W fb mb ab (fs0 1048576) (fun _ => hd0) 0) ⟨⟨blk_new hab, (fun j _ x hx => by cases hx), (fun j _ x hx => by cases hx), by rw [hab]; exact H0.out.bel.size⟩, H0.out.alloc⟩ ?_
  clear H0 hab
  rintro W k1
  have HA0 := Lib.hid k1
  clear k1
  go_wp2_with fail
  refine wp_loop (OneL w A ln lc fb mb ab) oneMu ⟨rfl, rfl, rfl, rfl, rfl, 0, 0, 0, _, _, rfl, rfl, rfl, by omega, by omega, by omega, OneI.start, HA0.out⟩ ?_
  rintro ⟨t, df⟩ wr ⟨q1, q2, q3, q4, q5, i, n, e, h, S, q6, q7, q8, hi, hn, he, hO, hA⟩
  simp only at q1 q2 q3 q4 q5 q6 q7 q8
  subst q1
  by_cases hin : i < ln ∧ i < 300
  · obtain ⟨hlen, h300⟩ := hin
    obtain ⟨ad, hAd, hc, -, -⟩ := (HI.out.below hA.fs.bel).get hlen
    subst hAd
    obtain ⟨x, hx⟩ : ∃ x, ix l i = x := ⟨_, rfl⟩
    obtain ⟨p, hp, hp1⟩ := maskN 8 (by decide) (x / 16) 255 (by decide)
    obtain ⟨r, hr, hr1⟩ := maskN 4 (by decide) x 15 (by decide)
    exact one_round (j := p % 3) ⟨q2, q3, q4, q5, q6, q7, q8, h300, hlen, hn, he, hO, hA, (fun W hb => by obtain ⟨ad2, h2, h3, -, -⟩ := (HI.out.below hb).get hlen; injection h2 with h2; subst h2; rw [hx] at h3; exact h3), hp, by omega, by omega, hr, by omega⟩
  · obtain ⟨C, cl, -, -⟩ := hO.ex
    have CL := Lib.hid cl
    have HA := Lib.hid hA
    obtain ⟨v, rfl⟩ := frameOne t q2 _ _ _ _ _ _ q3 q4 q5 q6 q7 q8
    clear q2 q3 q4 q5 q6 q7 q8 cl hA hO HI HA0
    have hin2 : ¬ ((i : Int) < (ln : Int) ∧ (i : Int) < 300) := by omega
    by_cases hl : (i : Int) < (ln : Int)
    · have h3 : ¬ (i : Int) < 300 := fun h => hin2 ⟨hl, h⟩
      clear hin hin2
      (go_wp2_with fail; refine (list_h HA.out.fs ⟨#[116, 109, 112]⟩ (by decide)).mono ?_; rintro en w20 ⟨ks, LA, n0, c0, hks, rfl, hln, -, b20⟩; have hn3 : (n0 : Int) ≤ 3 := (by have := CL.out.tmp hks; omega); have HF20 := Lib.hid (HA.out.fs.below b20); clear hks hln b20; go_wp2_with fail; refine (awake13_any _).mono ?_; rintro en w21 ⟨rfl, b21⟩; have HF21 := Lib.hid (HF20.out.below b21); clear b21 HF20; go_wp2_with fail; go_ret; exact ⟨rfl, HF21.out.bel⟩)
    · clear hin hin2
      (go_wp2_with fail; refine (list_h HA.out.fs ⟨#[116, 109, 112]⟩ (by decide)).mono ?_; rintro en w20 ⟨ks, LA, n0, c0, hks, rfl, hln, -, b20⟩; have hn3 : (n0 : Int) ≤ 3 := (by have := CL.out.tmp hks; omega); have HF20 := Lib.hid (HA.out.fs.below b20); clear hks hln b20; go_wp2_with fail; refine (awake13_any _).mono ?_; rintro en w21 ⟨rfl, b21⟩; have HF21 := Lib.hid (HF20.out.below b21); clear b21 HF20; go_wp2_with fail; go_ret; exact ⟨rfl, HF21.out.bel⟩)
end Go.Proofs.YtahdeighocmijaaGreatDoor
