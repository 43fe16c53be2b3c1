/- LogsTells: the law's walk. -/
import Derived.Test.YtebplbnkjpffpaaHeld
import Derived.Test.YtebplbnkjpffpaaInts
namespace Go.Proofs.Ytebplbnkjpffpaa
set_option linter.unusedSimpArgs false
set_option linter.unusedVariables false
open Go.RowKit
open Crc (Bytes)

/-- Between two rounds. -/
structure TellsAt (w wr : World) (fb mb g i : Nat) (wv : Value) : Prop where
  ex : ∃ (S : Fs) (ds : List Dn) (WA : Option Addr) (wn wc k : Nat), wv = .slice WA wn wc ∧ DRow wr w.heap.size WA wn wc ds ∧ Held S ds ([120], 1) ∧ FsH w wr fb mb S k ∧ k ≤ 1 + 6 * i ∧ (tr ds).length ≤ 50 * i ∧ ds.length ≤ i
  g_ : Blk wr g 30 [.string nmL, .int .i64 1]
set_option maxRecDepth 100000 in
set_option maxHeartbeats 16000000 in
theorem logstells_any (A : Option Addr) (n c : Nat) (l : List Int) (at_ cut : Int) (w : World) (h : Is w A n l) : Calls Try.prog 5 #[.slice A n c, .int .i64 at_, .int .i64 cut] w fun e w' => e = .returned (.bool true) ∧ Below w.heap.size w w' := by
  have HA := Lib.hid h
  have hnle := h.le
  clear h
  obtain ⟨a, ha, ha1⟩ := maskN 3 (by decide) at_ 7 (by decide)
  obtain ⟨p, hp, hp1⟩ := maskN 8 (by decide) cut 255 (by decide)
  have kc := @conv_const Try.prog _ _ Try.underlying28 Try.underlying5
  go_enter Try.func5, Try.ntmps5
  go_wp2_with fail
  refine (new_h w 1048576).mono ?_
  rintro e w1 ⟨fb, mb, rfl, h0⟩
  have H0 := Lib.hid h0
  clear h0
  obtain ⟨hp1', hls⟩ := held_new
  have HP1 := Lib.hid hp1'
  have HLS := Lib.hid hls
  clear hp1' hls
  go_wp2_with fail
  refine (put_h H0.out.alloc (by omega) nmL [120] (some ⟨w1.heap.size, 0, none⟩) 1 1 (by decide) (by omega) (bs_lit (l := [120]) (by intro x hx; simp at hx; omega) (by decide) rfl)).mono ?_
  rintro e w2 ⟨rfl, h1, o1⟩
  rw [HP1.out] at h1 ⊢
  have H1 := Lib.hid h1
  clear h1 o1 H0
  generalize hS0 : (fs0 1048576).write nmL [120] = S0 at *
  clear hS0
  go_upto_region 6 with fail
  obtain ⟨g, hg⟩ : ∃ g, g = w2.heap.size := ⟨_, rfl⟩
  rw [← hg]
  refine at_world (fun W => TellsAt w W fb mb g 0 (.slice none 0 0)) ⟨⟨S0, [], none, 0, 0, 1, rfl, DRow.nil _ _, HLS.out, H1.out.alloc, by omega, by simp [tr], by simp⟩, blk_guard hg⟩ ?_
  rintro W0 ht0
  have HT0 := Lib.hid ht0
  clear ht0 hg H1 HLS HP1
  go_wp2_with fail
  go_loopw [11, 12] (fun wv i wr => ∃ j : Nat, j ≤ 10 ∧ j ≤ n ∧ i = .int .i64 j ∧ TellsAt w wr fb mb g j wv) (fun _ i _ => 10 - (intOf i).toNat)
  case atStart => exact ⟨0, by omega, by omega, rfl, HT0.out⟩
  case round =>
    clear HT0
    obtain ⟨Wo, hWo⟩ : ∃ Wo, Wo = wr := ⟨_, rfl⟩
    subst hWo
    obtain ⟨j, hj, hjn, rfl, ⟨S, ds, WA, wn, wc, k, rfl, hrow, hheld, hfs, hk, htl, hdl⟩, hgb⟩ := hrel
    have HRow := Lib.hid hrow
    have HH := Lib.hid hheld
    have HF := Lib.hid hfs
    have HG := Lib.hid hgb
    have hbel := hfs.bel
    have hgl := hgb.lt
    have hgn := hfs.ne hgb.at_ (by decide)
    have HBel := Lib.hid hbel
    clear hrow hheld hfs hgb hbel
    by_cases hlt : j < n
    · have hltn : (j : Int) < (n : Int) := by omega
      by_cases hlt10 : j < 10
      · have hlt10' : (j : Int) < 10 := by omega
        obtain ⟨m, X, S', ts, hfix⟩ := HH.out.fix
        obtain ⟨r, hrun, hrd⟩ := hfix.ex
        have HR := Lib.hid hrun
        have HD := Lib.hid hrd
        have HX0 := Lib.hid hfix
        clear hrun hrd hfix
        have g0 : Wo.cell? ⟨g, 0, none⟩ = some (.string nmL) := HG.out.cell 0
        have g1 : Wo.cell? ⟨g, 1, none⟩ = some (.int .i64 1) := HG.out.cell 1
        go_wp2_with fail
        refine (fixnew_any nmL nmP 1 _ (by decide) (by decide)).mono ?_
        rintro e w3 ⟨xb, rfl, hx, hb3⟩
        have HX := Lib.hid (show FixAt w3 Wo.heap.size xb (fix0 1) from hx)
        have HF3 := Lib.hid (HF.out.below hb3)
        have HB3 := Lib.hid hb3
        have hbw := hb3.size
        have hww : w.heap.size ≤ Wo.heap.size := HF.out.bel.size
        clear hx hb3 g0 g1
        have hm0 := HR.out.m0
        have hm1 := HR.out.m1
        go_wp2_with fail
        go_loopw [14] (fun i wr2 => ∃ q : Nat, q < m ∧ i = .int .i64 q ∧ LoopX w w3 Wo.heap.size fb mb xb (k + q) (X q) wr2) (fun i _ => m - (intOf i).toNat)
        case atStart => exact ⟨0, by omega, rfl, by rw [HR.out.zero]; exact HX.out, by rw [HR.out.zero]; exact HF3.out, OnlyB.refl _ _ _⟩
        case round =>
          obtain ⟨q, hq, rfl, hx⟩ := hrel
          have HX2 := Lib.hid hx
          clear hx
          have hq8 : (q : Int) < 8 := by omega
          go_wp2_with fail
          refine (run_step HR.out hq HX2.out (by omega) hww hbw HD.out).mono ?_
          rintro e w4 ⟨rfl, hx⟩
          have HX3 := Lib.hid hx
          clear hx
          by_cases hqe : q + 1 = m
          · rw [show (X (q + 1)).1 = 1 by rw [hqe]; exact HR.out.hold]
            rw [hqe] at HX3
            clear HX2
            go_wp2_with fail
            refine (fixtrace_any HX3.out.fix HR.out.at_ HR.out.told).mono ?_
            rintro e w5 ⟨rfl, hb5⟩
            rw [HR.out.tn, HR.out.tts]
            have hO5 : OnlyB Wo.heap.size [fb, mb] Wo w5 := (HX3.out.onlyB HB3.out rfl).trans (OnlyB.below hb5 (Nat.le_trans hbw HX3.out.o.size))
            have HF5 := Lib.hid (show FsH w w5 fb mb S' (k + q + 1) from by have := HX3.out.fs.below hb5; rw [HR.out.fs] at this; exact this)
            have HG5 := Lib.hid (HG.out.onlyB hO5 hgl hgn)
            have HRow5 := Lib.hid (HRow.out.onlyB HF.out rfl hO5)
            clear hO5 hb5 HX3 HR HD HX HF3 HB3 HG HRow HF
            obtain ⟨ad, hAd, hcell, hwf1, hwf2⟩ := (HA.out.below HF5.out.bel).get hlt
            subst hAd
            obtain ⟨x, hx⟩ : ∃ x, ix l j = x := ⟨_, rfl⟩
            rw [hx] at hcell
            have hadl : ad.block < w5.heap.size := by have := World.block_lt_of_cell? w5 (ad.add j) hcell; rw [addr_block] at this; exact this
            have hcz : ∀ o : Obj, (w5.alloc o).cell? (ad.add j) = some (.int .i64 x) := fun o => (World.cell?_of_block (Below.heap_alloc w5 o _ (by rw [addr_block]; exact hadl))).trans hcell
            have hjn0 : (0 : Int) ≤ (j : Int) := by omega
            go_wp2_with fail
            refine (lawDone_any x _).mono ?_
            rintro e w6 ⟨⟨P, pm, rfl, hpb, hpu, hpm⟩, hb6⟩
            have hb6' : Below w5.heap.size w5 w6 := bl_then (bl_alloc (Below.refl _ _)) hb6
            obtain ⟨gt, hgt⟩ : ∃ gt, gt = w5.heap.size := ⟨_, rfl⟩
            obtain ⟨gd, hgd⟩ : ∃ gd, gd = w6.heap.size := ⟨_, rfl⟩
            have hr := lawD_right x
            have hraw := lawD_raw x
            obtain ⟨d, hd⟩ : ∃ d, lawD x = d := ⟨_, rfl⟩
            rw [hd] at hpb hr hraw ⊢
            unfold dnV
            go_upto_region 21 with fail
            rw [← hgt, ← hgd]
            refine at_world (fun W => Blk W g 30 [.string nmL, .int .i64 1] ∧ Blk W gt 30 [.string nmT, .int .i64 ts] ∧ Blk W gd 39 [.string d.t, .int .i64 d.who, .int .i64 d.inc, .slice P pm 2] ∧ Bs W P pm d.p ∧ U8 W P pm ∧ DRow W w.heap.size WA wn wc ds ∧ FsH w W fb mb S' (k + q + 1))
              ⟨(HG5.out.below hb6').alloc _, ((blk_guard hgt).below hb6).alloc _, blk_new hgd, hpb.alloc _, hpu.below (bl_alloc (Below.refl _ _)), (HRow5.out.below hb6').below (bl_alloc (Below.refl _ _)), (HF5.out.below hb6').alloc⟩ ?_
            have hWA : ∀ k, ob WA = some k → k ≠ gd := fun k hk => by
              obtain ⟨xs, _, h2, _⟩ := HRow5.out.ex
              have := (h2.blk k hk).2
              have := hb6'.size
              omega
            clear hb6 hb6' hpb hpu hcz hcell hadl hgt hgd HF5 HG5 HRow5 hwf1 hwf2 hx hd
            rintro W7 ⟨b1, b2, b3, b4, b5, b6, b7⟩
            have HG7 := Lib.hid b1
            have HT7 := Lib.hid b2
            have HD7 := Lib.hid b3
            have HP7 := Lib.hid b4
            have HU7 := Lib.hid b5
            have HRow7 := Lib.hid b6
            have HF7 := Lib.hid b7
            have d0 : W7.cell? ⟨gd, 0, none⟩ = some (.string d.t) := b3.cell 0
            have d1 : W7.cell? ⟨gd, 1, none⟩ = some (.int .i64 d.who) := b3.cell 1
            have d2 : W7.cell? ⟨gd, 2, none⟩ = some (.int .i64 d.inc) := b3.cell 2
            have d3 : W7.cell? ⟨gd, 3, none⟩ = some (.slice P pm 2) := b3.cell 3
            clear b1 b2 b3 b4 b5 b6 b7
            go_wp2_with fail
            refine (rdone_any d P pm 2 _ hr.1 HP7.out).mono ?_
            rintro e w8 ⟨Y, yn, yc, rfl, hyn, hown, hnone, hb8⟩
            have hyn' := hyn.out
            have HY := Lib.hid (own_bs hown (Dn.raw_bytes hr.2.1) (by omega))
            have HB8 := Lib.hid hb8
            clear hyn hown hnone hb8
            go_wp2_with fail
            refine (rput_any none Y 0 yn 0 yc [] d.raw _ (Bs.nil _ _) HY.out (by omega)).mono ?_
            rintro e w9 ⟨Z, zn, zc, rfl, hzn, hown, hnone, hb9⟩
            rw [List.nil_append] at hzn
            have hzn' := hzn.out
            rw [framed_len] at hzn'
            have HB9 := Lib.hid (HB8.out.trans (hb9.mono HB8.out.size))
            clear hzn hown hnone hb9 HB8 HY d0 d1 d2 d3
            have HG9 := Lib.hid (HG7.out.below HB9.out)
            have HT9 := Lib.hid (HT7.out.below HB9.out)
            have HD9 := Lib.hid (HD7.out.below HB9.out)
            have HP9 := Lib.hid (HP7.out.below HB9.out)
            have HU9 := Lib.hid (HU7.out.below HB9.out)
            have HRow9 := Lib.hid (HRow7.out.below HB9.out)
            have HF9 := Lib.hid (HF7.out.below HB9.out)
            clear HG7 HT7 HD7 HP7 HU7 HRow7 HF7 HB9
            have hz0 : ((zn : Int) == 0) = false := by rw [beq_eq_false_iff_ne]; omega
            obtain ⟨kk, hkk, hkl⟩ : ∃ kk : Nat, (p : Int).tmod (zn : Int) = (kk : Int) ∧ kk < zn := ⟨p % zn, by rw [Int.tmod_eq_emod_of_nonneg (by omega), Int.natCast_emod], Nat.mod_lt _ (by omega)⟩
            by_cases hja : j = a
            · have hje : ((j : Int) == (a : Int)) = true := by rw [beq_iff_eq, hja]
              clear hja
              obtain ⟨S3, q3, e1, e2, e3, e4⟩ := held_cut HX0.out HH.out d kk hraw.1 (by rw [framed_len]; omega)
              have E1 := Lib.hid (show ({ S' with cuts := true, cut := max (kk : Int) 0 } : Fs).appF nmT (framed d.raw) [(nmL, 1), (nmT, ts)] = ((0, 7), S3) from e1)
              have E3 := Lib.hid e3
              have E4 := Lib.hid e4
              clear e1 e3 e4
              go_wp2_with fail
              refine (cut_h HF9.out (by omega) (kk : Int)).mono ?_
              rintro e w10 ⟨rfl, h10, o10⟩
              have HG10 := Lib.hid (HG9.out.only o10 (HF9.out.ne HG9.out.at_ (by decide)))
              have HT10 := Lib.hid (HT9.out.only o10 (HF9.out.ne HT9.out.at_ (by decide)))
              have HD10 := Lib.hid (HD9.out.only o10 (HF9.out.ne HD9.out.at_ (by decide)))
              have HP10 := Lib.hid (HF9.out.bs HP9.out HU9.out o10)
              have HRow10 := Lib.hid (HRow9.out.onlyB HF9.out rfl (OnlyB.of_only o10))
              have HF10 := Lib.hid h10
              clear h10 o10 HG9 HT9 HD9 HP9 HU9 HRow9 HF9
              have d0 : w10.cell? ⟨gd, 0, none⟩ = some (.string d.t) := HD10.out.cell 0
              have d1 : w10.cell? ⟨gd, 1, none⟩ = some (.int .i64 d.who) := HD10.out.cell 1
              have d2 : w10.cell? ⟨gd, 2, none⟩ = some (.int .i64 d.inc) := HD10.out.cell 2
              have d3 : w10.cell? ⟨gd, 3, none⟩ = some (.slice P pm 2) := HD10.out.cell 3
              have g0 : w10.cell? ⟨g, 0, none⟩ = some (.string nmL) := HG10.out.cell 0
              have g1 : w10.cell? ⟨g, 1, none⟩ = some (.int .i64 1) := HG10.out.cell 1
              have t0 : w10.cell? ⟨gt, 0, none⟩ = some (.string nmT) := HT10.out.cell 0
              have t1 : w10.cell? ⟨gt, 1, none⟩ = some (.int .i64 ts) := HT10.out.cell 1
              go_wp2_with fail
              refine (tell_any HF10.out.alloc (by omega) d P pm 2 hr.1 (HP10.out.alloc _) [(nmL, 1), (nmT, ts)] (some ⟨w10.heap.size, 0, none⟩) 2 2 (Grd.two rfl nmL nmT (by decide) (by decide) 1 ts) (by omega) (by omega)).mono ?_
              rintro e w11 ⟨rfl, h11, o11⟩
              rw [E1.out] at h11 ⊢
              have HF11 := Lib.hid h11
              have HG11 := Lib.hid ((HG10.out.alloc _).only o11 (HF10.out.ne HG10.out.at_ (by decide)))
              have HRow11 := Lib.hid ((HRow10.out.below (bl_alloc (Below.refl _ _))).onlyB HF10.out.alloc rfl (OnlyB.of_only o11))
              have hbig : (tr ds ++ (framed d.raw).take kk).length ≤ 2000 := by rw [List.length_append, List.length_take, framed_len]; have := HH.out.len; omega
              clear h11 o11 HG10 HT10 HD10 HP10 HRow10 HF10 d0 d1 d2 d3 g0 g1 t0 t1
              (go_wp2_with fail; refine (read_h HF11.out nmT (by decide)).mono ?_; rintro e w20 ⟨RA, rn, rc, rfl, hrn, hown, hb20⟩; rw [e2] at hrn hown ⊢; have hrn' : (tr ds ++ (framed d.raw).take kk).length = rn := hrn; have hrn2 : rn ≤ 2000 := (by rw [← hrn']; exact hbig); have hcap := hown.cap; have HRA := Lib.hid (own_bs (l := tr ds ++ (framed d.raw).take kk) hown (bytes_app (tr_bytes HH.out.ok) (fun x hx => framed_bytes (Dn.raw_bytes hr.2.1) x (List.mem_of_mem_take hx))) (by omega)); have HF20 := Lib.hid (HF11.out.below hb20); have HRow20 := Lib.hid (HRow11.out.below hb20); have HG20 := Lib.hid (HG11.out.below hb20); clear hrn hown hb20 HF11 HRow11 HG11; go_wp2_with fail; refine (rtrace_any RA rn rc (tr ds ++ (framed d.raw).take kk) (ds) ((framed d.raw).take kk) _ HRA.out hcap (by omega) rfl HH.out.ok E3.out).mono ?_; rintro e w21 ⟨⟨YA, yc2, rfl, hyrow⟩, hb21⟩; have HF21 := Lib.hid (HF20.out.below hb21); have HRow21 := Lib.hid (HRow20.out.below hb21); have HG21 := Lib.hid (HG20.out.below hb21); have HY21 := Lib.hid hyrow; have hwn := HRow21.out.len; clear hyrow hb21 HF20 HRow20 HG20 HRA; rw [hwn] at HY21 ⊢; go_wp2_with fail; refine (samedones_any (ds) YA _ _ yc2 _ _ _ _ HY21.out HRow21.out (by omega)).mono ?_; rintro e w22 ⟨rfl, hb22⟩; have HF22 := Lib.hid (HF21.out.below hb22); have HRow22 := Lib.hid (HRow21.out.below hb22); have HG22 := Lib.hid (HG21.out.below hb22); clear hb22 HF21 HRow21 HG21 HY21; go_wp2_with fail)
              exact ⟨⟨j + 1, by omega, by omega, by go_num, ⟨S3, ds, WA, wn, wc, _, rfl, HRow22.out, E4.out, HF22.out, by omega, by omega, by omega⟩, HG22.out⟩, by simp [intOf]; omega⟩
            · have hje : ((j : Int) == (a : Int)) = false := by rw [beq_eq_false_iff_ne]; omega
              clear hja
              have htr := tr_snoc_len htl hraw.1
              obtain ⟨e1, e2, e3, e4, -⟩ := held_tell HX0.out HH.out d hr.1 hr.2.1 (by omega)
              generalize S'.write nmT (tr (ds ++ [d])) = S3 at e1 e2 e3 e4
              generalize S'.last + 1 = q3 at e1 e3
              have E1 := Lib.hid (show S'.appF nmT (framed d.raw) [(nmL, 1), (nmT, ts)] = ((q3, 0), S3) from e1)
              have E2 := Lib.hid (show S3.appF nmT (framed d.raw) [(nmL, 1), (nmT, ts)] = ((0, 5), S3) from e2)
              have E4 := Lib.hid e4
              clear e1 e2 e4
              have d0 : w9.cell? ⟨gd, 0, none⟩ = some (.string d.t) := HD9.out.cell 0
              have d1 : w9.cell? ⟨gd, 1, none⟩ = some (.int .i64 d.who) := HD9.out.cell 1
              have d2 : w9.cell? ⟨gd, 2, none⟩ = some (.int .i64 d.inc) := HD9.out.cell 2
              have d3 : w9.cell? ⟨gd, 3, none⟩ = some (.slice P pm 2) := HD9.out.cell 3
              have g0 : w9.cell? ⟨g, 0, none⟩ = some (.string nmL) := HG9.out.cell 0
              have g1 : w9.cell? ⟨g, 1, none⟩ = some (.int .i64 1) := HG9.out.cell 1
              have t0 : w9.cell? ⟨gt, 0, none⟩ = some (.string nmT) := HT9.out.cell 0
              have t1 : w9.cell? ⟨gt, 1, none⟩ = some (.int .i64 ts) := HT9.out.cell 1
              go_wp2_with fail
              refine (tell_any HF9.out.alloc (by omega) d P pm 2 hr.1 (HP9.out.alloc _) [(nmL, 1), (nmT, ts)] (some ⟨w9.heap.size, 0, none⟩) 2 2 (Grd.two rfl nmL nmT (by decide) (by decide) 1 ts) (by omega) (by omega)).mono ?_
              rintro e w11 ⟨rfl, h11, o11⟩
              rw [E1.out] at h11 ⊢
              have hbl : Below w9.heap.size w9 (w9.alloc (Obj.cells #[.string nmL, .int .i64 1, .string nmT, .int .i64 ts] 30)) := bl_alloc (Below.refl _ _)
              have HF11 := Lib.hid h11
              have HG11 := Lib.hid ((HG9.out.below hbl).only o11 (HF9.out.ne HG9.out.at_ (by decide)))
              have HT11 := Lib.hid ((HT9.out.below hbl).only o11 (HF9.out.ne HT9.out.at_ (by decide)))
              have HD11 := Lib.hid ((HD9.out.below hbl).only o11 (HF9.out.ne HD9.out.at_ (by decide)))
              have HP11 := Lib.hid (HF9.out.alloc.bs (HP9.out.below hbl) (HU9.out.below hbl) o11)
              have HU11 := Lib.hid (HF9.out.alloc.u8 (HU9.out.below hbl) o11)
              have HRow11 := Lib.hid ((HRow9.out.below hbl).onlyB HF9.out.alloc rfl (OnlyB.of_only o11))
              clear h11 o11 hbl HG9 HT9 HD9 HP9 HU9 HRow9 HF9 d0 d1 d2 d3 g0 g1 t0 t1
              obtain ⟨xs, x1, x2, x3⟩ := HRow11.out.ex
              have X2 := Lib.hid x2
              have X3 := Lib.hid x3
              have hwl := HRow11.out.len
              clear x2 x3
              have d0 : w11.cell? ⟨gd, 0, none⟩ = some (.string d.t) := HD11.out.cell 0
              have d1 : w11.cell? ⟨gd, 1, none⟩ = some (.int .i64 d.who) := HD11.out.cell 1
              have d2 : w11.cell? ⟨gd, 2, none⟩ = some (.int .i64 d.inc) := HD11.out.cell 2
              have d3 : w11.cell? ⟨gd, 3, none⟩ = some (.slice P pm 2) := HD11.out.cell 3
              have hsz11 : w.heap.size ≤ w11.heap.size := HF11.out.bel.size
              go_wp2_with (
                 at_builtin
                 refine wpList_app rfl (.tmp 109) (.tmp 111) 31 rfl Try.underlying31 dnInfo rfl (by decide) rfl (X2.out.alloc _) rfl (Rd.lit w11 #[.string d.t, .int .i64 d.who, .int .i64 d.inc, .slice P pm 2] 39 (0, 0) 4 1 rfl) (by simp [Value.oneCell']) (by omega) (by omega) (by simp; omega) rfl rfl ?_
                 intro Z2 zc2 w12 hx1 hg1 hx2
                 have hbl : Below w11.heap.size w11 (w11.alloc (Obj.cells #[.string d.t, .int .i64 d.who, .int .i64 d.inc, .slice P pm 2] 39)) := bl_alloc (Below.refl _ _)
                 have hk := fun (b : Nat) (hb : b < w11.heap.size) (hn : ob WA ≠ some b) => (hg1.block b (by simp; omega) (fun e => hn e.symm)).trans (hbl.block b hb)
                 have hrw : ∀ k, ob WA = some k → w.heap.size ≤ k ∧ ∃ t cs fr, (w11.alloc (Obj.cells #[.string d.t, .int .i64 d.who, .int .i64 d.inc, .slice P pm 2] 39)).heap[k]? = some (Obj.cells cs t fr) ∧ t ≠ 5 ∧ t ≠ 79 := fun k hk => by
                   obtain ⟨cs, fr, e⟩ := own_at (X2.out.alloc _) hk
                   exact ⟨(X2.out.blk k hk).1, _, cs, fr, e, by decide, by decide⟩
                 have HG12 := Lib.hid (HG11.out.keep (hk g HG11.out.lt (own_ne_blk X2.out HG11.out (by decide))))
                 have HT12 := Lib.hid (HT11.out.keep (hk gt HT11.out.lt (own_ne_blk X2.out HT11.out (by decide))))
                 have HD12 := Lib.hid (HD11.out.keep (hk gd HD11.out.lt (fun e => hWA gd e rfl)))
                 have hkp := (HU11.out.below hbl).grown hg1 (fun k hk => by obtain ⟨-, t, cs, fr, e, h1, -⟩ := hrw k hk; exact ⟨t, cs, fr, e, h1⟩)
                 have HP12 := Lib.hid (show Bs w12 P pm d.p from ⟨(HP11.out.below hbl).rd.keep hg1.size hkp, HP11.out.by_, HP11.out.le⟩)
                 have HRow12 := Lib.hid (DRow.app (x := ⟨d, P, pm, 2⟩) (o := Obj.cells #[.string d.t, .int .i64 d.who, .int .i64 d.inc, .slice P pm 2] 39) ⟨HP11.out, HU11.out, hpm⟩ x1 X2.out X3.out hg1 hx1)
                 have HF12 := Lib.hid (HF11.out.alloc.grown hg1 hrw)
                 have d0 : w12.cell? ⟨gd, 0, none⟩ = some (.string d.t) := HD12.out.cell 0
                 have d1 : w12.cell? ⟨gd, 1, none⟩ = some (.int .i64 d.who) := HD12.out.cell 1
                 have d2 : w12.cell? ⟨gd, 2, none⟩ = some (.int .i64 d.inc) := HD12.out.cell 2
                 have d3 : w12.cell? ⟨gd, 3, none⟩ = some (.slice P pm 2) := HD12.out.cell 3
                 have g0 : w12.cell? ⟨g, 0, none⟩ = some (.string nmL) := HG12.out.cell 0
                 have g1 : w12.cell? ⟨g, 1, none⟩ = some (.int .i64 1) := HG12.out.cell 1
                 have t0 : w12.cell? ⟨gt, 0, none⟩ = some (.string nmT) := HT12.out.cell 0
                 have t1 : w12.cell? ⟨gt, 1, none⟩ = some (.int .i64 ts) := HT12.out.cell 1
                 clear hbl hk hrw hkp hx1 hg1 hx2 x1 X2 X3 HG11 HT11 HD11 HP11 HU11 HRow11 HF11)
              refine (tell_any HF12.out.alloc (by omega) d P pm 2 hr.1 (HP12.out.alloc _) [(nmL, 1), (nmT, ts)] (some ⟨w12.heap.size, 0, none⟩) 2 2 (Grd.two rfl nmL nmT (by decide) (by decide) 1 ts) (by omega) (by omega)).mono ?_
              rintro e w13 ⟨rfl, h13, o13⟩
              rw [E2.out] at h13 ⊢
              have hbl : Below w12.heap.size w12 (w12.alloc (Obj.cells #[.string nmL, .int .i64 1, .string nmT, .int .i64 ts] 30)) := bl_alloc (Below.refl _ _)
              have HF13 := Lib.hid h13
              have HG13 := Lib.hid ((HG12.out.below hbl).only o13 (HF12.out.ne HG12.out.at_ (by decide)))
              have HRow13 := Lib.hid ((HRow12.out.below hbl).onlyB HF12.out.alloc rfl (OnlyB.of_only o13))
              have hbig : (tr (ds ++ [d])).length ≤ 2000 := by omega
              have hdl2 : (ds ++ [d]).length ≤ j + 1 := by simp; omega
              clear h13 o13 hbl HG12 HT12 HD12 HP12 HRow12 HF12 d0 d1 d2 d3 g0 g1 t0 t1
              (go_wp2_with fail; refine (read_h HF13.out nmT (by decide)).mono ?_; rintro e w20 ⟨RA, rn, rc, rfl, hrn, hown, hb20⟩; rw [e3] at hrn hown ⊢; have hrn' : (tr (ds ++ [d])).length = rn := hrn; have hrn2 : rn ≤ 2000 := (by rw [← hrn']; exact hbig); have hcap := hown.cap; have HRA := Lib.hid (own_bs (l := tr (ds ++ [d])) hown (tr_bytes E4.out.ok) (by omega)); have HF20 := Lib.hid (HF13.out.below hb20); have HRow20 := Lib.hid (HRow13.out.below hb20); have HG20 := Lib.hid (HG13.out.below hb20); clear hrn hown hb20 HF13 HRow13 HG13; go_wp2_with fail; refine (rtrace_any RA rn rc (tr (ds ++ [d])) (ds ++ [d]) ([]) _ HRA.out hcap (by omega) (List.append_nil _).symm E4.out.ok rfl).mono ?_; rintro e w21 ⟨⟨YA, yc2, rfl, hyrow⟩, hb21⟩; have HF21 := Lib.hid (HF20.out.below hb21); have HRow21 := Lib.hid (HRow20.out.below hb21); have HG21 := Lib.hid (HG20.out.below hb21); have HY21 := Lib.hid hyrow; have hwn := HRow21.out.len; clear hyrow hb21 HF20 HRow20 HG20 HRA; rw [hwn] at HY21 ⊢; go_wp2_with fail; refine (samedones_any (ds ++ [d]) YA _ _ yc2 _ _ _ _ HY21.out HRow21.out (by omega)).mono ?_; rintro e w22 ⟨rfl, hb22⟩; have HF22 := Lib.hid (HF21.out.below hb22); have HRow22 := Lib.hid (HRow21.out.below hb22); have HG22 := Lib.hid (HG21.out.below hb22); clear hb22 HF21 HRow21 HG21 HY21; go_wp2_with fail)
              exact ⟨⟨j + 1, by omega, by omega, by go_num, ⟨S3, ds ++ [d], Z2, wn + 1, zc2, _, rfl, HRow22.out, E4.out, HF22.out, by omega, htr, hdl2⟩, HG22.out⟩, by simp [intOf]; omega⟩
          · rw [HR.out.work (q + 1) (by omega)]
            go_wp2_with fail
            exact ⟨⟨q + 1, by omega, by go_num, HX3.out⟩, by simp [intOf]; omega⟩
      · have hlt10' : ¬ (j : Int) < 10 := by omega
        go_wp2_with fail
        refine (awake14_any _).mono ?_
        rintro e w9 ⟨rfl, hb9⟩
        have Hb := Lib.hid (HF.out.bel.trans (hb9.mono HF.out.bel.size))
        clear hb9
        go_wp2_with fail
        go_ret
        exact ⟨rfl, Hb.out⟩
    · have hltn : ¬ (j : Int) < (n : Int) := by omega
      go_wp2_with fail
      refine (awake14_any _).mono ?_
      rintro e w9 ⟨rfl, hb9⟩
      have Hb := Lib.hid (HF.out.bel.trans (hb9.mono HF.out.bel.size))
      clear hb9
      go_wp2_with fail
      go_ret
      exact ⟨rfl, Hb.out⟩
theorem logstells_row {A : Option Addr} {n c : Nat} {l : List Int} {x y : Int} {w : World} (hb : Came .i64 w A n c l) (yb : n * 8 ≤ 140737488351232) (_ : (Lit.int .i64 x).wf = true) (_ : (Lit.int .i64 y).wf = true) (W : World) (hW : W = w) :
    Calls Try.prog 5 #[.slice A n c, .int .i64 x, .int .i64 y] W fun e w' => e = .returned (.bool true) ∧ Below W.heap.size W w' := by
  subst hW
  exact logstells_any A n c l x y W (came_ints hb yb)
end Go.Proofs.Ytebplbnkjpffpaa
