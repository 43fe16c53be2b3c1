/- LogsFixes: a round that is busy. -/
import Derived.Test.YtahdeighocmijaaGreatLFixA
import Derived.Test.YtahdeighocmijaaGreatAwake14
namespace Go.Proofs.YtahdeighocmijaaGreat
set_option linter.unusedSimpArgs false
set_option linter.unusedVariables false
open Go.RowKit
open Crc (Bytes)
set_option maxRecDepth 100000 in
set_option maxHeartbeats 16000000 in
theorem fix_busy {w Wo : World} {fb mb g : Nat} {st s : Int} {there mine full : Bool} {TA : Option Addr} {tn tc : Nat} {tb : List Int} {NA : Option Addr} {nc : Nat} {ds : List Dn} {T : Option (List Int × Int)} {r : List Int} {was : Int} {t : Array Value} {q : Nat} {Sq : Fs} {Tq : Option (List Int × Int)} {rq : List Int} {wasq : Int} {k : Nat} {K : Act → World → Prop} {R : Ending → World → Prop}
    (C : FixC.ok ⟨w, fb, mb, g, st, s, there, mine, full, false, TA, tn, tc, tb, NA, nc, ds, T, r, was⟩) (H : FixR ⟨w, fb, mb, g, st, s, there, mine, full, false, TA, tn, tc, tb, NA, nc, ds, T, r, was⟩ t q Sq Tq rq wasq k Wo) :
    Code.wp Tryz.prog fixBody (FixQ ⟨w, fb, mb, g, st, s, there, mine, full, false, TA, tn, tc, tb, NA, nc, ds, T, r, was⟩ t Wo (Exit.inBlock 2 (Exit.then K (bodyPost Tryz.prog Tryz.f3 R)))) ⟨t, []⟩ Wo := by
  obtain ⟨sl, s19, s20, hq, hah, hpad, hk, hri⟩ := H
  obtain ⟨hho, hfi, hfu, hel, hmi, hsp, htl, htg⟩ := C
  have hMU := Lib.hid (show fixMu ⟨t, []⟩ Wo = 2 - q by unfold fixMu; rw [s20]; simp [intOf])
  unfold FixQ
  rw [hMU.out]
  obtain ⟨v, rfl⟩ := frameF t sl.sz _ _ _ _ _ _ _ _ _ sl.s3 sl.s4 sl.s11 sl.s12 sl.s14 sl.s15 sl.s18 s19 s20
  simp only at hho hfi hfu hel hmi hsp htl htg hah hpad hri
  have htn := hpad.tb.len
  have hsl2 : (tr ds).length + r.length = tn := by rw [← htn, hsp, List.length_append]
  have HHo := Lib.hid hho
  have HFi := Lib.hid hfi
  have HFull := Lib.hid hfu
  have HEl := Lib.hid hel
  have HMi := Lib.hid hmi
  have HSp := Lib.hid hsp
  have HP := Lib.hid hpad
  have HAq := Lib.hid hah
  have HRi := Lib.hid hri
  clear sl s19 s20 hMU hho hfi hfu hel hmi hsp hah hpad hri
  conv => arg 2; whnf
  obtain ⟨wh, hwh⟩ : ∃ wh, (decide (q = 1) || full) = wh := ⟨_, rfl⟩
  have hlt' : (q : Int) < 2 := by omega
  obtain ⟨m, X, S3, hrnd⟩ := rnd_any (hold := false) (by omega) HHo.out hwh.symm HFi.out HMi.out HRi.out HAq.out
  have HRd := Lib.hid hrnd
  have HWh := Lib.hid hwh
  clear hrnd HRi hwh
  have g0 : Wo.cell? ⟨g, 0, none⟩ = some (.string nmL) := HP.out.g_.cell 0
  have g1 : Wo.cell? ⟨g, 1, none⟩ = some (.int .i64 st) := HP.out.g_.cell 1
  have hm0 := HRd.out.run.run.m0
  have hm1 := HRd.out.run.run.m1
  go_wp2_with fail
  refine (fixnew_any nmL nmP st _ (by decide) (by decide)).mono ?_
  rintro e w3 ⟨xb, rfl, hx, hb3⟩
  have HX := Lib.hid (show FixAt w3 Wo.heap.size xb (fix0 st) from hx)
  have HF3 := Lib.hid (HP.out.fs.below hb3)
  have HB3 := Lib.hid hb3
  have hbw := hb3.size
  have hww : w.heap.size ≤ Wo.heap.size := HP.out.fs.bel.size
  clear hx hb3 g0 g1
  go_wp2_with fail
  go_loopw [22, 23] (fun kv nv wr2 => ∃ z : Nat, z ≤ m ∧ nv = .int .i64 z ∧ kv = .int .i64 (X z).1 ∧ LoopX w w3 Wo.heap.size fb mb xb (k + z) (X z) wr2) (fun _ i _ => m - (intOf i).toNat)
  case atStart => exact ⟨0, by omega, rfl, by rw [HRd.out.run.run.zero], by rw [HRd.out.run.run.zero]; exact HX.out, by rw [HRd.out.run.run.zero]; exact HF3.out, OnlyB.refl _ _ _⟩
  case round =>
    obtain ⟨z, hz, rfl, rfl, hx⟩ := hrel
    have HX2 := Lib.hid hx
    clear hx
    have hz8 : (z : Int) < 8 := by omega
    by_cases hzm : z < m
    · rw [HRd.out.run.run.work z hzm]
      go_wp2_with fail
      refine (run_stepC HRd.out.run.run hzm HX2.out (by omega) hww hbw HAq.out.read).mono ?_
      rintro e w4 ⟨rfl, hx⟩
      have HX3 := Lib.hid hx
      clear hx
      go_wp2_with fail
      exact ⟨⟨z + 1, by omega, by go_num, rfl, HX3.out⟩, by simp [intOf]; omega⟩
    · obtain rfl : z = m := by omega
      rw [HRd.out.run.cd]
      have hcd : (if (false = true) then (1 : Int) else 2) = 2 := rfl
      obtain ⟨hab, hrb⟩ := HRd.out.busy rfl
      have HRR := Lib.hid (hrb.busy rfl).2.1
      have HAb := Lib.hid hab
      have HRb := Lib.hid hrb
      clear hab hrb
      rw [hcd]
      go_wp2_with fail
      refine (fixtrace2_any HX2.out.fix HRd.out.run.at_ (HRd.out.run.told.trans hcd)).mono ?_
      rintro e w5 ⟨rfl, hb5⟩
      have hO5 : OnlyB Wo.heap.size [fb, mb] Wo w5 := (HX2.out.onlyB HB3.out rfl).trans (OnlyB.below hb5 (Nat.le_trans hbw HX2.out.o.size))
      have HP5 := Lib.hid (HP.out.onlyB rfl hO5 (show FsH w w5 fb mb S3 (k + z) from by have := HX2.out.fs.below hb5; rw [HRd.out.run.fs] at this; exact this))
      clear hO5 hb5
      go_upto_region 32 with fail
      obtain ⟨gy, hgy⟩ : ∃ gy, gy = w5.heap.size := ⟨_, rfl⟩
      rw [← hgy]
      refine at_world (fun W => Pad w W fb mb g st TA tn tb NA ds.length nc ds S3 (k + z)) (HP5.out.below (bl_alloc (Below.refl _ _))) ?_
      clear HP5 hgy
      rintro W6 hpad
      have HP6 := Lib.hid hpad
      clear hpad
      go_cut [26] (fun v wx => v = .bool wh ∧ wx = W6)
      case first =>
        clear HP6 HRd HAq HP HX2 HX HF3 HB3
        have hq2 : q = 0 ∨ q = 1 := by omega
        rcases hq2 with rfl | rfl
        · cases there
          · go_wp2_with fail
            go_meet
            exact ⟨by rw [← HWh.out, ← HFull.out]; simp, rfl⟩
          · by_cases hr0 : r = []
            · have he : (((tr ds).length : Int) == (tn : Int)) = true := by rw [HEl.out]; simp [hr0]
              go_wp2_with fail
              go_meet
              exact ⟨by rw [← HWh.out, ← HFull.out]; simp [hr0], rfl⟩
            · have he : (((tr ds).length : Int) == (tn : Int)) = false := by rw [HEl.out]; simp [hr0]
              go_wp2_with fail
              go_meet
              exact ⟨by rw [← HWh.out, ← HFull.out]; simp [hr0], rfl⟩
        · go_wp2_with fail
          go_meet
          exact ⟨by rw [← HWh.out]; simp, rfl⟩
      case rest =>
        obtain ⟨rfl, hw6⟩ := hcut
        subst hw6
        go_upto_region 33 with fail
        go_cut [146] (fun v wx => v = .bool (!false) ∧ wx = wc)
        case first =>
          clear HP6 HRd HAq HP HX2 HX HF3 HB3
          cases mine
          · cases there
            · (first | (exfalso; have hho := HHo.out; rw [← HFull.out] at hho; simp at hho; done) | (go_wp2_with fail; go_meet; exact ⟨rfl, rfl⟩))
            · by_cases hr0 : r = []
              · have he : (((tr ds).length : Int) == (tn : Int)) = true := by rw [HEl.out]; simp [hr0]
                (first | (exfalso; have hho := HHo.out; rw [← HFull.out] at hho; simp [hr0] at hho; done) | (go_wp2_with fail; go_meet; exact ⟨rfl, rfl⟩))
              · have he : (((tr ds).length : Int) == (tn : Int)) = false := by rw [HEl.out]; simp [hr0]
                (first | (exfalso; have hho := HHo.out; rw [← HFull.out] at hho; simp [hr0] at hho; done) | (go_wp2_with fail; go_meet; exact ⟨rfl, rfl⟩))
          · (first | (exfalso; have hho := HHo.out; simp at hho; done) | (go_wp2_with fail; go_meet; exact ⟨rfl, rfl⟩))
        case rest =>
          obtain ⟨rfl, hw7⟩ := hcut
          subst hw7
          clear HRd HAq HP HX2 HX HF3 HB3
          go_wp2_with fail
          refine (read_h HP6.out.fs nmT (by decide)).mono ?_
          rintro e w7 ⟨RA2, rn2, rc2, rfl, hrn, hown, hb7⟩
          rw [HAb.out.by_, HRR.out, ← HSp.out] at hrn hown
          have HP7 := Lib.hid (HP6.out.below hb7)
          have hb2 := own_bs hown HP6.out.tb.by_ (by omega)
          have hs1 := conv_str (P := Tryz.prog) (c := rc2) (src := 23) (dst := 9) Tryz.underlying23 Tryz.underlying5 Tryz.underlying9 hb2
          have hs2 := conv_str (P := Tryz.prog) (c := tc) (src := 23) (dst := 9) Tryz.underlying23 Tryz.underlying5 Tryz.underlying9 HP7.out.tb
          clear hrn hown hb7 hb2 HP6
          go_wp2_with fail
          refine (stamp_h HP7.out.fs nmT (by decide)).mono ?_
          rintro e w' ⟨rfl, rfl⟩
          rw [HAb.out.st]
          go_wp2_with fail
          refine (list_h HP7.out.fs ⟨#[116, 109, 112]⟩ (by decide)).mono ?_
          rintro e w8 ⟨ks, LA, n0, c0, hks, rfl, hln, -, b8⟩
          obtain rfl : n0 = 0 := by rw [hln]; exact HAb.out.ls.tmp HAb.out.few hks
          have HP8 := Lib.hid (HP7.out.below b8)
          clear hks hln b8 HP7 hs1 hs2
          go_wp2_with fail
          exact ⟨⟨rfl, ⟨rfl, rfl, rfl, rfl, rfl, rfl, rfl, rfl⟩, q + 1, S3, Tq, rq, wasq, k + z, by omega, rfl, by go_num, ⟨HAb.out, HP8.out, by omega, HRb.out⟩⟩, by simp [fixMu, intOf]; omega⟩
end Go.Proofs.YtahdeighocmijaaGreat
