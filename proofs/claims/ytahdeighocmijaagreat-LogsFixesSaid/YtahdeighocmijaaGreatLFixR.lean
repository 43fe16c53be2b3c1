/- LogsFixes: the law's walk. LogsFixes: the walk, as the row wants it. -/
import Derived.Test.YtahdeighocmijaaGreatLFixB
import Derived.Test.YtahdeighocmijaaGreatLFixC
import Derived.Test.YtahdeighocmijaaGreatInts
namespace Go.Proofs.YtahdeighocmijaaGreat
set_option linter.unusedSimpArgs false
set_option linter.unusedVariables false
open Go.RowKit
open Crc (Bytes)

set_option maxRecDepth 100000 in
set_option maxHeartbeats 16000000 in
theorem logsfixes_any (A : Option Addr) (n c : Nat) (l : List Int) (cut : Int) (RA : Option Addr) (rn rc : Nat) (raw : List Int) (there mine : Bool) (w : World) (h : Is w A n l) (hraw : Bs w RA rn raw) : Calls Tryz.prog 3 #[.slice A n c, .int .i64 cut, .slice RA rn rc, .bool there, .bool mine] w fun e w' => e = .returned (.bool true) ∧ Below w.heap.size w w' := by
  have HA := Lib.hid h
  have HRW := Lib.hid hraw
  have hnle := h.le
  have hrl := hraw.len
  clear h hraw
  obtain ⟨p, hp, hp1⟩ := maskN 16 (by decide) cut 65535 (by decide)
  have kc := @conv_const Tryz.prog _ _ Tryz.underlying23 Tryz.underlying5
  go_enter Tryz.func3, Tryz.ntmps3
  by_cases h200 : rn ≤ 200
  rotate_left
  · have hgt : (200 : Int) < (rn : Int) := by omega
    go_wp2_with fail
    refine (awake14_any _).mono ?_
    rintro e w1 ⟨rfl, hb1⟩
    have HB1 := Lib.hid hb1
    clear hb1
    go_wp2_with fail
    go_ret
    exact ⟨rfl, HB1.out⟩
  have hgt : ¬ (200 : Int) < (rn : Int) := by omega
  go_wp2_with fail
  refine (new_h w 1048576).mono ?_
  rintro e w1 ⟨fb, mb, rfl, h0⟩
  have H0 := Lib.hid h0
  clear h0
  go_upto_block 0 with fail
  go_cut [12] (fun v wx => ∃ (X : Option Addr) (xn xc : Nat) (ds : List Dn), v = .slice X xn xc ∧ Bs wx X xn (tr ds) ∧ xn ≤ xc ∧ Dns ds ∧ (tr ds).length ≤ 500 ∧ FsH w wx fb mb (fs0 1048576) 0)
  case first =>
    go_wp2_with fail
    go_loopw [12, 13] (fun v i wr => ∃ (j : Nat) (X : Option Addr) (xn xc : Nat) (ds : List Dn), j ≤ 10 ∧ j ≤ n ∧ i = .int .i64 j ∧ v = .slice X xn xc ∧ Bs wr X xn (tr ds) ∧ xn ≤ xc ∧ Dns ds ∧ (tr ds).length ≤ 50 * j ∧ FsH w wr fb mb (fs0 1048576) 0) (fun _ i _ => 10 - (intOf i).toNat)
    case atStart => exact ⟨0, none, 0, 0, [], by omega, by omega, rfl, rfl, Bs.nil _ _, Nat.le_refl _, Dns.nil, by simp [tr], H0.out⟩
    case round =>
      clear H0
      obtain ⟨j, X, xn, xc, ds, hj, hjn, rfl, rfl, hb, hxc, hds, htl, hf⟩ := hrel
      have HB := Lib.hid hb
      have HF := Lib.hid hf
      have HD := Lib.hid hds
      have hxn := hb.len
      clear hb hf hds
      by_cases hlt : j < n
      · have hltn : (j : Int) < (n : Int) := by omega
        by_cases hlt10 : j < 10
        · have hlt10' : (j : Int) < 10 := by omega
          obtain ⟨ad, hAd, hcell, hwf1, hwf2⟩ := (HA.out.below HF.out.bel).get hlt
          subst hAd
          obtain ⟨x, hx⟩ : ∃ x, ix l j = x := ⟨_, rfl⟩
          rw [hx] at hcell
          have hjn0 : (0 : Int) ≤ (j : Int) := by omega
          go_wp2_with fail
          refine (lawDone_any x _).mono ?_
          rintro e w2 ⟨⟨P, pm, rfl, hpb, hpu, hpm⟩, hb2⟩
          have HP2 := Lib.hid hpb
          have HB2 := Lib.hid (HB.out.below hb2)
          have HF2 := Lib.hid (HF.out.below hb2)
          clear hpb hpu hb2 HB HF hcell hwf1 hwf2 hx
          have hr := lawD_right x
          go_wp2_with fail
          refine (rdone_any (lawD x) P pm 2 _ hr.1 HP2.out).mono ?_
          rintro e w3 ⟨Y, yn, yc, rfl, hyn, hown, hnone, hb3⟩
          have hyn' := hyn.out
          have hrl2 := lawD_raw x
          have HY := Lib.hid (own_bs hown (Dn.raw_bytes hr.2.1) (by omega))
          have HB3 := Lib.hid (HB2.out.below hb3)
          have HF3 := Lib.hid (HF2.out.below hb3)
          clear hyn hown hnone hb3 HB2 HF2 HP2
          go_wp2_with fail
          refine (rput_any X Y xn yn xc yc (tr ds) (lawD x).raw _ HB3.out HY.out (by omega)).mono ?_
          rintro e w4 ⟨Z, zn, zc, rfl, hzn, hown, hnone, hb4⟩
          rw [← tr_snoc] at hzn hown
          have hzn' := hzn.out
          have htr := tr_snoc_len htl hrl2.1
          have hcap := hown.cap
          have HD4 := Lib.hid (HD.out.snoc hr.1 hr.2.1)
          have HZ := Lib.hid (own_bs hown (tr_bytes HD4.out) (by omega))
          have HF4 := Lib.hid (HF3.out.below hb4)
          clear hzn hown hnone hb4 HB3 HF3 HY
          go_wp2_with fail
          exact ⟨⟨j + 1, Z, zn, zc, ds ++ [lawD x], by omega, by omega, by go_num, rfl, HZ.out, hcap, HD4.out, htr, HF4.out⟩, by simp [intOf]; omega⟩
        · have hlt10' : ¬ (j : Int) < 10 := by omega
          go_wp2_with fail
          go_meet
          exact ⟨X, xn, xc, ds, rfl, HB.out, hxc, HD.out, by omega, HF.out⟩
      · have hltn : ¬ (j : Int) < (n : Int) := by omega
        go_wp2_with fail
        go_meet
        exact ⟨X, xn, xc, ds, rfl, HB.out, hxc, HD.out, by omega, HF.out⟩
  case rest =>
    obtain ⟨X, xn, xc, ds0, rfl, hb, hxc, hds, htl, hf⟩ := hcut
    clear H0
    have HB := Lib.hid hb
    have HF := Lib.hid hf
    have HD := Lib.hid hds
    have hxn := hb.len
    have hbel := hf.bel
    have HBel := Lib.hid hbel
    clear hb hf hds hbel
    obtain ⟨kk, hkk, hkl⟩ : ∃ kk : Nat, (p : Int).tmod ((xn : Int) + 1) = (kk : Int) ∧ kk ≤ xn := ⟨p % (xn + 1), by rw [show (xn : Int) + 1 = ((xn + 1 : Nat) : Int) by omega, Int.tmod_eq_emod_of_nonneg (by omega), Int.natCast_emod], by have := Nat.mod_lt p (show 0 < xn + 1 by omega); omega⟩
    have hx1 : ((xn : Int) + 1 == 0) = false := by rw [beq_eq_false_iff_ne]; omega
    obtain ⟨k1, hk1⟩ : ∃ k1 : Nat, (xn : Int) - (kk : Int) = (k1 : Int) := ⟨xn - kk, by omega⟩
    have hk1n : k1 ≤ xn := by omega
    have hsl := fun w => slice_upto (P := Tryz.prog) (A := X) (n := xn) (c := xc) (kk := .i64) (k := k1) Tryz.underlying23 u8s hk1n hxc w
    have hRb := HRW.out.below HBel.out
    have HRb := Lib.hid hRb
    clear hRb
    have HK := Lib.hid (HB.out.take (k := k1) hk1n)
    obtain ⟨t0, ht0⟩ : ∃ t0, (tr ds0).take k1 = t0 := ⟨_, rfl⟩
    rw [ht0] at HK
    have ht0l : t0.length = k1 := HK.out.len
    have ht0b : Bytes t0 := HK.out.by_
    clear ht0 HB HD
    go_upto_if 75 with (first
      | (at_builtin
         refine wpList_app rfl (.tmp 60) (.tmp 71) 23 rfl Tryz.underlying23 u8i rfl (by decide) rfl (Own.lit wc [] 5 1 0 (Nat.le_refl _) rfl (by decide)) rfl (HK.out.alloc _).rd (ints_one _ _) (by omega) (by omega) (by simp) (Nat.zero_add _) (List.nil_append _) ?_
         intro Y yc w2 hx1 hg1 hx2
         have HX := Lib.hid hx1
         have hsz2 : wc.heap.size ≤ w2.heap.size := by have := hg1.size; simp at this; omega
         have HB2 := Lib.hid (((Below.refl wc.heap.size wc).alloc (Nat.le_refl _) _).grown hg1 (by simp) (by intro k hk; simp [ob] at hk; omega))
         clear hx1 hg1 hx2)
      | (at_builtin
         refine wpList_app rfl (.tmp 72) (.tmp 73) 23 rfl Tryz.underlying23 u8i rfl (by decide) rfl HX.out rfl (HRb.out.below HB2.out).rd (ints_one _ _) (by omega) (by omega) hsz2 rfl (show ints .u8 t0 ++ ints .u8 raw = ints .u8 (t0 ++ raw) by simp [ints]) ?_
         intro Z zc w3 hy1 hg3 hy2
         have HZ := Lib.hid hy1
         have HB3 := Lib.hid (show Below wc.heap.size wc w3 from HB2.out.grown hg3 (by omega) (fun k hk => (HX.out.blk k hk).1))
         clear hy1 hg3 hy2))
    obtain ⟨t1, ht1⟩ : ∃ t1, t0 ++ raw = t1 := ⟨_, rfl⟩
    have ht1b : Bytes t1 := by rw [← ht1]; exact bytes_app ht0b HRW.out.by_
    have ht1l : t1.length = k1 + rn := by rw [← ht1, List.length_append]; omega
    rw [ht1] at HZ
    have HT := Lib.hid (own_bs HZ.out ht1b (by omega))
    have HU := Lib.hid (U8.of_own HZ.out)
    have hzc := HZ.out.cap
    have HF3 := Lib.hid (HF.out.below HB3.out)
    clear HX HB2 HB3 HK HRb HF HZ ht1
    go_cut [12] (fun v wx => ∃ (TA : Option Addr) (tn tc : Nat) (tb : List Int) (T : Option (List Int × Int)) (S1 : Fs) (was : Int) (k1 : Nat), v = .slice TA tn tc ∧ tn ≤ tc ∧ Bs wx TA tn tb ∧ U8 wx TA tn ∧ FsH w wx fb mb S1 k1 ∧ k1 ≤ 1 ∧ PreL S1 T was ∧ tb.length ≤ 800 ∧ (there = true ∧ T = some (tb, was) ∨ there = false ∧ T = none ∧ tb = []))
    case first =>
      cases there
      · go_wp2_with fail
        go_meet
        exact ⟨none, 0, 0, [], none, _, 0, 0, rfl, Nat.le_refl _, Bs.nil _ _, (fun ad h => by cases h), HF3.out, by omega, pre_none, by simp, .inr ⟨rfl, rfl, rfl⟩⟩
      · obtain ⟨hp, hpre⟩ := pre_some t1 (by omega)
        have HP := Lib.hid hp
        have HPre := Lib.hid hpre
        clear hp hpre
        go_wp2_with fail
        refine (put_h HF3.out (by omega) nmT t1 _ _ _ (by decide) (by omega) HT.out).mono ?_
        rintro e w4 ⟨rfl, h4, o4⟩
        have HT4 := Lib.hid (HF3.out.bs HT.out HU.out o4)
        have HU4 := Lib.hid (HF3.out.u8 HU.out o4)
        rw [HP.out] at h4 ⊢
        have HF4 := Lib.hid h4
        clear h4 o4 HF3 HT HU
        go_wp2_with fail
        go_meet
        exact ⟨_, _, _, t1, _, _, _, 1, rfl, hzc, HT4.out, HU4.out, HF4.out, by omega, HPre.out, by omega, .inl ⟨rfl, rfl⟩⟩
    case rest =>
      obtain ⟨TA, tn, tc, tb, T, S1, was, kf, rfl, htc, hb, hu, hf, hkf, hpre, htb, hth⟩ := hcut
      obtain ⟨ds, r, hsp, hds, hnod⟩ := split_any hb.by_
      obtain ⟨⟨s, S2, hput, hls, hfew, hs0, hs2⟩, hwas⟩ := hpre
      have htn := hb.len
      have htg := tr_ge ds
      have hsl2 : (tr ds).length + r.length = tn := by rw [← htn, hsp, List.length_append]
      have HB := Lib.hid hb
      have HU1 := Lib.hid hu
      have HFa := Lib.hid hf
      have HPut := Lib.hid hput
      have HD1 := Lib.hid hds
      have HN := Lib.hid hnod
      have HSp := Lib.hid hsp
      have HAh := Lib.hid (show Ahead S2 T ([120], s) ds r was from ⟨hls, hfew, hds, hnod, by rw [← hsp]; omega, by simp, by
        rw [← hsp]
        rcases hth with ⟨_, h2⟩ | ⟨_, h2, h3⟩
        · exact .inr h2
        · refine .inl ⟨h2, h3, ?_⟩
          rcases hwas with h | ⟨b, h⟩
          · exact h.1
          · rw [h2] at h; cases h⟩)
      have HTh := Lib.hid hth
      obtain ⟨full, hfull⟩ : ∃ full, (there && decide (r = [])) = full := ⟨_, rfl⟩
      have hfi : full = true ↔ (T ≠ none ∧ r = []) := by
        rw [← hfull, Bool.and_eq_true, decide_eq_true_eq]
        rcases hth with ⟨h1, h2⟩ | ⟨h1, h2, _⟩
        · rw [h1, h2]; simp
        · rw [h1, h2]; simp
      have hel : (((tr ds).length : Int) == (tn : Int)) = decide (r = []) := by
        rw [Bool.eq_iff_iff, beq_iff_eq, decide_eq_true_eq]
        constructor
        · intro e; exact List.length_eq_zero_iff.1 (by omega)
        · intro e; rw [e] at hsl2; simp at hsl2; omega
      have HFi := Lib.hid hfi
      have HFull := Lib.hid hfull
      have HEl := Lib.hid hel
      clear hfull hel hb hu hf hput hds hnod hsp hls hfew hth hwas HF3 HT HU ht1b hfi
      go_wp2_with fail
      refine (rtraceN_any TA tn tc tb ds r _ HB.out htc (by omega) HSp.out HD1.out HN.out).mono ?_
      rintro e w4 ⟨⟨NA, nc, rfl, hrow⟩, hb4⟩
      have HF4 := Lib.hid (HFa.out.below hb4)
      have HB4 := Lib.hid (HB.out.below hb4)
      have HU4 := Lib.hid (HU1.out.below hb4)
      have HR4 := Lib.hid (hrow.more (b2 := w.heap.size) HFa.out.bel.size)
      clear hrow hb4 HFa HB HU1
      go_wp2_with fail
      refine (put_h HF4.out.alloc (by omega) nmL [120] (some ⟨w4.heap.size, 0, none⟩) 1 1 (by decide) (by omega) (bs_lit (l := [120]) (by intro x hx; simp at hx; omega) (by decide) rfl)).mono ?_
      rintro e w5 ⟨rfl, h5, o5⟩
      rw [HPut.out] at h5 ⊢
      have HF5 := Lib.hid h5
      have HB5 := Lib.hid (HF4.out.alloc.bs (HB4.out.alloc _) (HU4.out.below (bl_alloc (Below.refl _ _))) o5)
      have HU5 := Lib.hid (HF4.out.alloc.u8 (HU4.out.below (bl_alloc (Below.refl _ _))) o5)
      have HR5 := Lib.hid ((HR4.out.below (bl_alloc (Below.refl _ _))).onlyB HF4.out.alloc rfl (OnlyB.of_only o5))
      clear h5 o5 HF4 HB4 HU4 HR4 HPut
      go_upto_if 94 with fail
      obtain ⟨g, hg⟩ : ∃ g, g = w5.heap.size := ⟨_, rfl⟩
      rw [← hg]
      have hwg : w.heap.size ≤ g := by rw [hg]; exact HF5.out.bel.size
      refine at_world (fun W => Pad w W fb mb g s TA tn tb NA ds.length nc ds S2 (kf + 1)) ⟨HF5.out.alloc, blk_guard hg, hwg, HR5.out.below (bl_alloc (Below.refl _ _)), HB5.out.alloc _, HU5.out.below (bl_alloc (Below.refl _ _))⟩ ?_
      clear HF5 HB5 HU5 HR5 hg
      rintro W6 hpad
      have HP6 := Lib.hid hpad
      have z1 := hpad.g_.frozen 1
      clear hpad
      go_cut [18] (fun v wx => ∃ st, v = .pointer (some ⟨g, 0, none⟩) ∧ Pad w wx fb mb g st TA tn tb NA ds.length nc ds S2 (kf + 1) ∧ (mine = true ∧ st = s ∨ mine = false ∧ st ≠ s))
      case first =>
        cases mine
        · have g1 : W6.cell? ⟨g, 1, none⟩ = some (.int .i64 s) := HP6.out.g_.cell 1
          go_wp2_with fail
          go_meet
          exact ⟨s + 1, rfl, HP6.out.set _, .inr ⟨rfl, by omega⟩⟩
        · go_wp2_with fail
          go_meet
          exact ⟨s, rfl, HP6.out, .inl ⟨rfl, rfl⟩⟩
      case rest =>
        obtain ⟨st, rfl, hpad, hmine⟩ := hcut
        have HP7 := Lib.hid hpad
        have HMi := Lib.hid hmine
        clear hpad hmine HP6 z1
        go_wp2_with fail
        refine (stamp_h HP7.out.fs nmT (by decide)).mono ?_
        rintro e w' ⟨rfl, rfl⟩
        rw [HAh.out.st]
        obtain ⟨hold, hhold⟩ : ∃ hold, hold = (mine || full) := ⟨_, rfl⟩
        have HC := Lib.hid (show FixC.ok ⟨w, fb, mb, g, st, s, there, mine, full, hold, TA, tn, tc, tb, NA, nc, ds, T, r, was⟩ from ⟨hhold, HFi.out, HFull.out, HEl.out, HMi.out, HSp.out, htb, htg⟩)
        clear hhold
        go_wp2_with fail
        refine wp_loop (FixL ⟨w, fb, mb, g, st, s, there, mine, full, hold, TA, tn, tc, tb, NA, nc, ds, T, r, was⟩) fixMu ⟨rfl, ⟨rfl, rfl, rfl, rfl, rfl, rfl, rfl, rfl⟩, 0, S2, T, r, was, kf + 1, by omega, rfl, rfl, ⟨HAh.out, HP7.out, by omega, RndI.start _ _ _ _⟩⟩ ?_
        rintro ⟨t, df⟩ wr ⟨q1, sl, q, Sq, Tq, rq, wasq, k, hq, s19, s20, hw⟩
        simp only at q1 sl s19 s20
        subst q1
        by_cases hq1 : q ≤ 1
        · cases hold
          · exact fix_busy HC.out ⟨sl, s19, s20, hq1, hw⟩
          · exact fix_held HC.out ⟨sl, s19, s20, hq1, hw⟩
        · have HP := Lib.hid hw.pad
          have hq2 : q = 2 := by omega
          subst hq2
          obtain ⟨v, rfl⟩ := frameF t sl.sz _ _ _ _ _ _ _ _ _ sl.s3 sl.s4 sl.s11 sl.s12 sl.s14 sl.s15 sl.s18 s19 s20
          clear sl s19 s20 hw HC HAh HP7 HFi HFull HEl HMi HSp
          go_wp2_with fail
          refine (awake14_any _).mono ?_
          rintro e w9 ⟨rfl, hb9⟩
          have Hb := Lib.hid (HP.out.fs.bel.trans (hb9.mono HP.out.fs.bel.size))
          clear hb9
          go_wp2_with fail
          go_ret
          exact ⟨rfl, Hb.out⟩
end Go.Proofs.YtahdeighocmijaaGreat
namespace Go.Proofs.YtahdeighocmijaaGreat
open Go.RowKit
theorem logsfixes_row {A RA : Option Addr} {n c rn rc : Nat} {l raw : List Int} {x : Int} {w : World} (hb : Came .i64 w A n c l) (yb : n * 8 ≤ 140737488351232) (_ : (Lit.int .i64 x).wf = true) (hr : Came .u8 w RA rn rc raw) (yr : rn * 1 ≤ 140737488351232) (b d : Bool) (W : World) (hW : W = w) :
    Calls Tryz.prog 3 #[.slice A n c, .int .i64 x, .slice RA rn rc, .bool b, .bool d] W fun e w' => e = .returned (.bool true) ∧ Below W.heap.size W w' := by
  subst hW
  exact logsfixes_any A n c l x RA rn rc raw b d W (came_ints hb yb) (came_bytes hr yr)
end Go.Proofs.YtahdeighocmijaaGreat
