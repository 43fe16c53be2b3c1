/- Locks: LockOne: the ways of a round, one by one. -/
import Derived.Test.YtahdeighocmijaaGreatDoorLOneA
namespace Go.Proofs.YtahdeighocmijaaGreatDoor
set_option linter.unusedSimpArgs false
set_option linter.unusedVariables false
open Go.RowKit
open Crc (Bytes)
section
variable {w0 wr : World} {ad : Addr} {ln lc fb mb ab i n e p j r : Nat} {t : Array Value} {h : Nat → Hd} {S S' : Fs} {x k : Int} {tb wb : Nat} {tk tk' : Tk} {wk wk' : Wk} {K : Act → World → Prop} {R : Ending → World → Prop}
set_option maxRecDepth 100000 in
set_option maxHeartbeats 4000000 in
theorem arm_tick (H : Arm w0 ad ln lc fb mb ab t wr i n e h S x p j r) (hr15 : r = 15) : Code.wp Tryz.prog oneBody (OneQ w0 ad ln lc fb mb ab t wr (Exit.inBlock 0 (Exit.then K (bodyPost Tryz.prog Tryz.f5 R)))) ⟨t, []⟩ wr := by
  have HI0 := H.I
  have HJ := Lib.hid H.hj
  have HO := Lib.hid H.I
  have HA := Lib.hid H.H
  have HN := Lib.hid (And.intro H.hn (And.intro H.he (And.intro H.hi H.hlen)))
  have HCX := Lib.hid H.hc
  have HR1 := Lib.hid H.hr1
  have hp := H.hp
  have hpj := H.hpj
  have hr := H.hr
  have hc := H.hc _ H.H.fs.bel
  have hlen := H.hlen
  have h300i : (i : Int) < 300 := by have := H.hi; omega
  have hleni : (i : Int) < (ln : Int) := by have := H.hlen; omega
  have hj0 : (0 : Int) ≤ (j : Int) := by omega
  have hj3 : (j : Int) < 3 := by have := H.hj; omega
  have HMU := Lib.hid (show oneMu ⟨t, []⟩ wr = 301 - i by unfold oneMu; rw [H.s7]; simp [intOf])
  unfold OneQ
  rw [HMU.out]
  obtain ⟨v, rfl⟩ := frameOne t H.sz _ _ _ _ _ _ H.s0 H.s3 H.s4 H.s5 H.s6 H.s7
  clear H HI0 HMU
  conv => arg 2; whnf
  go_upto_region 11 with fail
  rw [hpj]
  clear hpj hp h300i hleni hj0 hj3
  subst hr15
  obtain ⟨d, hd, hd1⟩ := maskN 6 (by decide) (x / 4096) 63 (by decide)
  have hwd : IntKind.i64.wrap ((n : Int) + (d : Int)) = ((n + d : Nat) : Int) := by have := HN.out; rw [IntKind.wrap_i64]; omega
  have HD1 := Lib.hid hd1
  have hw1 : IntKind.i64.wrap ((i : Int) + 1) = ((i + 1 : Nat) : Int) := by have := HN.out; rw [IntKind.wrap_i64]; omega
  clear hd1
  go_wp2_with fail
  have h1 := HN.out
  have h2 := HD1.out
  exact ⟨⟨rfl, rfl, rfl, rfl, rfl, i + 1, n + d, e, _, _, rfl, rfl, rfl, by omega, by omega, by omega, HO.out, HA.out.more (by omega) (by omega)⟩, by simp [oneMu, intOf]; omega⟩
set_option maxRecDepth 100000 in
set_option maxHeartbeats 4000000 in
theorem arm_take0 (H : Arm w0 ad ln lc fb mb ab t wr i n e h S x p j r) (hr15 : ¬ r = 15) (htj : (h j).t = some (tb, tk)) (hwf : tk.wf) (hlen2 : (S.readF tk.file).2.1.length ≤ 100000) (hst : stepT n S tk = (0, tk', S')) (hI : OneI S' e (hset h j { h j with t := some (tb, tk') })) : Code.wp Tryz.prog oneBody (OneQ w0 ad ln lc fb mb ab t wr (Exit.inBlock 0 (Exit.then K (bodyPost Tryz.prog Tryz.f5 R)))) ⟨t, []⟩ wr := by
  have HI0 := H.I
  have HJ := Lib.hid H.hj
  have HO := Lib.hid H.I
  have HA := Lib.hid H.H
  have HN := Lib.hid (And.intro H.hn (And.intro H.he (And.intro H.hi H.hlen)))
  have HCX := Lib.hid H.hc
  have HR1 := Lib.hid H.hr1
  have hp := H.hp
  have hpj := H.hpj
  have hr := H.hr
  have hc := H.hc _ H.H.fs.bel
  have hlen := H.hlen
  have h300i : (i : Int) < 300 := by have := H.hi; omega
  have hleni : (i : Int) < (ln : Int) := by have := H.hlen; omega
  have hj0 : (0 : Int) ≤ (j : Int) := by omega
  have hj3 : (j : Int) < 3 := by have := H.hj; omega
  have HMU := Lib.hid (show oneMu ⟨t, []⟩ wr = 301 - i by unfold oneMu; rw [H.s7]; simp [intOf])
  unfold OneQ
  rw [HMU.out]
  obtain ⟨v, rfl⟩ := frameOne t H.sz _ _ _ _ _ _ H.s0 H.s3 H.s4 H.s5 H.s6 H.s7
  clear H HI0 HMU
  conv => arg 2; whnf
  go_upto_region 11 with fail
  rw [hpj]
  clear hpj hp h300i hleni hj0 hj3
  have h15i : ((r : Int) == 15) = false := by rw [beq_eq_false_iff_ne]; omega
  clear hr15
  have HTJ := Lib.hid htj
  have HWF := Lib.hid (And.intro hwf hlen2)
  have HST := Lib.hid hst
  have HT := Lib.hid (HA.out.all.t j HJ.out _ htj)
  have c0 : wr.cell? ⟨ab, j * 10, none⟩ = some (.pointer (some ⟨tb, 0, none⟩)) := HA.out.all.cell HJ.out (f := 0) (by decide) (by unfold Hd.cells; rw [htj]; rfl)
  clear htj hwf hlen2 hst
  have HII := Lib.hid hI
  clear hI
  go_wp2_with fail
  refine (stamp_h HA.out.fs nmC (by decide)).mono ?_
  rintro en w2 ⟨rfl, rfl⟩
  clear hr h15i hc
  go_wp2_with fail
  refine (tstep_any HA.out.fs HT.out.1 HT.out.2 HWF.out.1 (n : Int) (by have := HN.out; omega) (fun _ => HWF.out.2)).mono ?_
  rintro en w2 hdd
  have hm := HA.out.took HO.out HJ.out HTJ.out hdd
  rw [HST.out] at hdd hm
  obtain rfl := hdd.ret
  have HX := Lib.hid hdd.x
  have HM := Lib.hid hm
  clear hdd hm HA HT HWF HST c0
  have c0 : w2.cell? ⟨ab, j * 10, none⟩ = some (.pointer (some ⟨tb, 0, none⟩)) := HM.out.all.cell HJ.out (f := 0) (by decide) (by rw [hset_same]; rfl)
  have z0 := HM.out.all.blk.frozen (j * 10)
  have hw1 : IntKind.i64.wrap ((i : Int) + 1) = ((i + 1 : Nat) : Int) := by have := HN.out; rw [IntKind.wrap_i64]; omega
  go_wp2_with fail
  have h1 := HN.out
  exact ⟨⟨rfl, rfl, rfl, rfl, rfl, i + 1, n, e, _, _, rfl, rfl, rfl, by omega, by omega, by omega, HII.out, HM.out.more (by omega) (by omega)⟩, by simp [oneMu, intOf]; omega⟩
set_option maxRecDepth 100000 in
set_option maxHeartbeats 4000000 in
theorem arm_take2 (H : Arm w0 ad ln lc fb mb ab t wr i n e h S x p j r) (hr15 : ¬ r = 15) (htj : (h j).t = some (tb, tk)) (hwf : tk.wf) (hlen2 : (S.readF tk.file).2.1.length ≤ 100000) (hst : stepT n S tk = (2, tk', S')) (hI : OneI S' e (hset h j { h j with t := none })) : Code.wp Tryz.prog oneBody (OneQ w0 ad ln lc fb mb ab t wr (Exit.inBlock 0 (Exit.then K (bodyPost Tryz.prog Tryz.f5 R)))) ⟨t, []⟩ wr := by
  have HI0 := H.I
  have HJ := Lib.hid H.hj
  have HO := Lib.hid H.I
  have HA := Lib.hid H.H
  have HN := Lib.hid (And.intro H.hn (And.intro H.he (And.intro H.hi H.hlen)))
  have HCX := Lib.hid H.hc
  have HR1 := Lib.hid H.hr1
  have hp := H.hp
  have hpj := H.hpj
  have hr := H.hr
  have hc := H.hc _ H.H.fs.bel
  have hlen := H.hlen
  have h300i : (i : Int) < 300 := by have := H.hi; omega
  have hleni : (i : Int) < (ln : Int) := by have := H.hlen; omega
  have hj0 : (0 : Int) ≤ (j : Int) := by omega
  have hj3 : (j : Int) < 3 := by have := H.hj; omega
  have HMU := Lib.hid (show oneMu ⟨t, []⟩ wr = 301 - i by unfold oneMu; rw [H.s7]; simp [intOf])
  unfold OneQ
  rw [HMU.out]
  obtain ⟨v, rfl⟩ := frameOne t H.sz _ _ _ _ _ _ H.s0 H.s3 H.s4 H.s5 H.s6 H.s7
  clear H HI0 HMU
  conv => arg 2; whnf
  go_upto_region 11 with fail
  rw [hpj]
  clear hpj hp h300i hleni hj0 hj3
  have h15i : ((r : Int) == 15) = false := by rw [beq_eq_false_iff_ne]; omega
  clear hr15
  have HTJ := Lib.hid htj
  have HWF := Lib.hid (And.intro hwf hlen2)
  have HST := Lib.hid hst
  have HT := Lib.hid (HA.out.all.t j HJ.out _ htj)
  have c0 : wr.cell? ⟨ab, j * 10, none⟩ = some (.pointer (some ⟨tb, 0, none⟩)) := HA.out.all.cell HJ.out (f := 0) (by decide) (by unfold Hd.cells; rw [htj]; rfl)
  clear htj hwf hlen2 hst
  have HII := Lib.hid hI
  clear hI
  go_wp2_with fail
  refine (stamp_h HA.out.fs nmC (by decide)).mono ?_
  rintro en w2 ⟨rfl, rfl⟩
  clear hr h15i hc
  go_wp2_with fail
  refine (tstep_any HA.out.fs HT.out.1 HT.out.2 HWF.out.1 (n : Int) (by have := HN.out; omega) (fun _ => HWF.out.2)).mono ?_
  rintro en w2 hdd
  have hm := HA.out.took HO.out HJ.out HTJ.out hdd
  rw [HST.out] at hdd hm
  obtain rfl := hdd.ret
  have HX := Lib.hid hdd.x
  have HM := Lib.hid hm
  clear hdd hm HA HT HWF HST c0
  have c0 : w2.cell? ⟨ab, j * 10, none⟩ = some (.pointer (some ⟨tb, 0, none⟩)) := HM.out.all.cell HJ.out (f := 0) (by decide) (by rw [hset_same]; rfl)
  have z0 := HM.out.all.blk.frozen (j * 10)
  have hw1 : IntKind.i64.wrap ((i : Int) + 1) = ((i + 1 : Nat) : Int) := by have := HN.out; rw [IntKind.wrap_i64]; omega
  go_wp2_with fail
  have h1 := HN.out
  have h3 := HM.out.noT HJ.out
  rw [hset_hset, hset_same] at h3
  exact ⟨⟨rfl, rfl, rfl, rfl, rfl, i + 1, n, e, _, _, rfl, rfl, rfl, by omega, by omega, by omega, HII.out, h3.more (by omega) (by omega)⟩, by simp [oneMu, intOf]; omega⟩
set_option maxRecDepth 100000 in
set_option maxHeartbeats 4000000 in
theorem arm_take1 (H : Arm w0 ad ln lc fb mb ab t wr i n e h S x p j r) (hr15 : ¬ r = 15) (htj : (h j).t = some (tb, tk)) (hwf : tk.wf) (hlen2 : (S.readF tk.file).2.1.length ≤ 100000) (hst : stepT n S tk = (1, tk', S')) (a5 : tk'.at_ = 5) (a1 : tk'.told = 1) (ag : tk'.gn = nmC) (aw : tk'.l.who = j) (ae : tk'.l.epoch = ((e : Nat) : Int) ∧ S.st nmC = tk'.gs) (am : S'.m nmC.data.toList = some (tk'.l.bytes, tk'.gs)) (ao : openLk tk'.l.bytes = some tk'.l) (hI : OneI S' ((e : Nat) : Int) (hset h j { h j with t := none, gn := tk'.gn, gs := tk'.gs, l := tk'.l, held := true })) : Code.wp Tryz.prog oneBody (OneQ w0 ad ln lc fb mb ab t wr (Exit.inBlock 0 (Exit.then K (bodyPost Tryz.prog Tryz.f5 R)))) ⟨t, []⟩ wr := by
  have HI0 := H.I
  have HJ := Lib.hid H.hj
  have HO := Lib.hid H.I
  have HA := Lib.hid H.H
  have HN := Lib.hid (And.intro H.hn (And.intro H.he (And.intro H.hi H.hlen)))
  have HCX := Lib.hid H.hc
  have HR1 := Lib.hid H.hr1
  have hp := H.hp
  have hpj := H.hpj
  have hr := H.hr
  have hc := H.hc _ H.H.fs.bel
  have hlen := H.hlen
  have h300i : (i : Int) < 300 := by have := H.hi; omega
  have hleni : (i : Int) < (ln : Int) := by have := H.hlen; omega
  have hj0 : (0 : Int) ≤ (j : Int) := by omega
  have hj3 : (j : Int) < 3 := by have := H.hj; omega
  have HMU := Lib.hid (show oneMu ⟨t, []⟩ wr = 301 - i by unfold oneMu; rw [H.s7]; simp [intOf])
  unfold OneQ
  rw [HMU.out]
  obtain ⟨v, rfl⟩ := frameOne t H.sz _ _ _ _ _ _ H.s0 H.s3 H.s4 H.s5 H.s6 H.s7
  clear H HI0 HMU
  conv => arg 2; whnf
  go_upto_region 11 with fail
  rw [hpj]
  clear hpj hp h300i hleni hj0 hj3
  have h15i : ((r : Int) == 15) = false := by rw [beq_eq_false_iff_ne]; omega
  clear hr15
  have HTJ := Lib.hid htj
  have HWF := Lib.hid (And.intro hwf hlen2)
  have HST := Lib.hid hst
  have HT := Lib.hid (HA.out.all.t j HJ.out _ htj)
  have c0 : wr.cell? ⟨ab, j * 10, none⟩ = some (.pointer (some ⟨tb, 0, none⟩)) := HA.out.all.cell HJ.out (f := 0) (by decide) (by unfold Hd.cells; rw [htj]; rfl)
  clear htj hwf hlen2 hst
  have HII := Lib.hid hI
  have AM := Lib.hid am
  have AO := Lib.hid ao
  have AE := Lib.hid ae
  have AW := Lib.hid (And.intro aw ag)
  have A5 := Lib.hid (And.intro a5 a1)
  clear hI am ao ae aw ag a5 a1
  go_wp2_with fail
  refine (stamp_h HA.out.fs nmC (by decide)).mono ?_
  rintro en w2 ⟨rfl, rfl⟩
  clear hr h15i hc
  go_wp2_with fail
  refine (tstep_any HA.out.fs HT.out.1 HT.out.2 HWF.out.1 (n : Int) (by have := HN.out; omega) (fun _ => HWF.out.2)).mono ?_
  rintro en w2 hdd
  have hm := HA.out.took HO.out HJ.out HTJ.out hdd
  rw [HST.out] at hdd hm
  obtain rfl := hdd.ret
  have HX := Lib.hid hdd.x
  have HM := Lib.hid hm
  clear hdd hm HA HT HWF HST c0
  have c0 : w2.cell? ⟨ab, j * 10, none⟩ = some (.pointer (some ⟨tb, 0, none⟩)) := HM.out.all.cell HJ.out (f := 0) (by decide) (by rw [hset_same]; rfl)
  have z0 := HM.out.all.blk.frozen (j * 10)
  go_wp2_with fail
  refine (tgot_any HX.out A5.out.1 A5.out.2).mono ?_
  rintro en w3 ⟨rfl, b3⟩
  have HM3 := Lib.hid (HM.out.below b3)
  obtain ⟨L, hL⟩ : ∃ L, tk'.l = L := ⟨_, rfl⟩
  obtain ⟨sg, hsg⟩ : ∃ sg, tk'.gs = sg := ⟨_, rfl⟩
  obtain ⟨e2, he2⟩ : ∃ e2 : Nat, e2 = e := ⟨_, rfl⟩
  unfold heldV lkV
  rw [AW.out.1, AW.out.2, hsg]
  have hep : tk'.l.epoch = (e2 : Int) := by rw [he2]; exact AE.out.1
  rw [hep, hL]
  have HEP := Lib.hid hep
  have HL := Lib.hid hL
  have HSG := Lib.hid hsg
  have HE2 := Lib.hid he2
  clear b3 HM HX c0 z0 hsg hL hep he2
  go_upto_region 28 with fail
  obtain ⟨g2, hg2⟩ : ∃ g2, g2 = w3.heap.size := ⟨_, rfl⟩
  obtain ⟨k2, hk2⟩ : ∃ k2, k2 = w3.heap.size + 1 := ⟨_, rfl⟩
  rw [← hk2, ← hg2]
  refine at_world (fun W => Blk W g2 26 [.string nmC, .int .i64 sg] ∧ Blk W k2 28 [.int .i64 j, .int .i64 L.inc, .int .i64 e2, .int .i64 L.till] ∧ OneAt w0 W fb mb ab S' (hset h j { h j with t := some (tb, tk') }) (2 * i + 1)) ⟨(blk_new hg2).alloc _, blk_new (by simp [hk2, hg2]), HM3.out.alloc.alloc⟩ ?_
  clear HM3 hg2 hk2
  rintro V ⟨k1, k2', k3⟩
  have HG := Lib.hid k1
  have HK := Lib.hid k2'
  have HM := Lib.hid k3
  have HKc := Lib.hid (fun (w' : World) (hbl : Below V.heap.size V w') => (show w'.cell? ⟨g2, 0, none⟩ = some (.string ⟨#[99, 108, 97, 105, 109, 47, 97]⟩) ∧ w'.cell? ⟨g2, 1, none⟩ = some (.int .i64 sg) ∧ w'.cell? ⟨k2, 0, none⟩ = some (.int .i64 j) ∧ w'.cell? ⟨k2, 2, none⟩ = some (.int .i64 e2) from ⟨(k1.below hbl).cell 0, (k1.below hbl).cell 1, (k2'.below hbl).cell 0, (k2'.below hbl).cell 2⟩))
  have HMD := Lib.hid k3.fs.drew
  have HS := Lib.hid (show S'.st nmC = sg from (by_of AM.out).2.1.trans HSG.out)
  have hp1 : ¬ (e2 : Int) < (e : Int) := by have := HE2.out; omega
  have hp2 : ¬ (e : Int) + 1 < (e2 : Int) := by have := HE2.out; omega
  have hd1 : decide ((e2 : Int) < (e : Int)) = false := decide_eq_false hp1
  have hd2 : decide ((e : Int) + 1 < (e2 : Int)) = false := decide_eq_false hp2
  have hwe : IntKind.i64.wrap ((e : Int) + 1) = (e : Int) + 1 := by have := HN.out; rw [IntKind.wrap_i64]; omega
  clear k1 k2' k3
  (refine wp_region_held_drew (S := fun w' => w'.cell? ⟨g2, 0, none⟩ = some (.string ⟨#[99, 108, 97, 105, 109, 47, 97]⟩) ∧ w'.cell? ⟨g2, 1, none⟩ = some (.int .i64 sg) ∧ w'.cell? ⟨k2, 0, none⟩ = some (.int .i64 j) ∧ w'.cell? ⟨k2, 2, none⟩ = some (.int .i64 e2)) (by kernel_rfl) (HKc.out _ (Below.refl _ _).drew) (fun hHeld => ?_))
  (refine wpAnyH_take (i := 0) (oi := _) (v := ?_) (ops_at rfl) (by kernel_rfl) (by kernel_rfl) (by kernel_rfl) (fun _ _ _ h => h) (Or.inl ⟨by rfl, ?_⟩) (by assumption) ?_; rotate_left; (focus (intro w hSw; (try dsimp only at hSw); go_simp; (try with_reducible rfl))); (try simp only [Act.put, List.setIfInBounds_toArray, List.set_cons_zero, List.set_cons_succ])); (refine wpAnyH_take (i := 1) (oi := _) (v := ?_) (ops_at rfl) (by kernel_rfl) (by kernel_rfl) (by kernel_rfl) (fun _ _ _ h => h) (Or.inl ⟨by rfl, ?_⟩) (by assumption) ?_; rotate_left; (focus (intro w hSw; (try dsimp only at hSw); go_simp; (try with_reducible rfl))); (try simp only [Act.put, List.setIfInBounds_toArray, List.set_cons_zero, List.set_cons_succ])); (refine wpAnyH_take (i := 2) (oi := _) (v := ?_) (ops_at rfl) (by kernel_rfl) (by kernel_rfl) (by kernel_rfl) (fun _ _ _ h => h) (Or.inl ⟨by rfl, ?_⟩) (by assumption) ?_; rotate_left; (focus (intro w hSw; (try dsimp only at hSw); go_simp; (try with_reducible rfl))); (try simp only [Act.put, List.setIfInBounds_toArray, List.set_cons_zero, List.set_cons_succ])); (refine wpAnyH_take (i := 3) (oi := _) (v := ?_) (ops_at rfl) (by kernel_rfl) (by kernel_rfl) (by kernel_rfl) (fun _ _ _ h => h) (Or.inl ⟨by rfl, ?_⟩) (by assumption) ?_; rotate_left; (focus (intro w hSw; (try dsimp only at hSw); go_simp; (try with_reducible rfl))); (try simp only [Act.put, List.setIfInBounds_toArray, List.set_cons_zero, List.set_cons_succ])); (refine wpAnyH_take (i := 4) (oi := _) (v := ?_) (ops_at rfl) (by kernel_rfl) (by kernel_rfl) (by kernel_rfl) (fun _ _ _ h => h) (Or.inl ⟨by rfl, ?_⟩) (by assumption) ?_; rotate_left; (focus (intro w hSw; (try dsimp only at hSw); go_simp; (try with_reducible rfl))); (try simp only [Act.put, List.setIfInBounds_toArray, List.set_cons_zero, List.set_cons_succ])); (refine wpAnyH_take (i := 5) (oi := _) (v := ?_) (ops_at rfl) (by kernel_rfl) (by kernel_rfl) (by kernel_rfl) (fun _ _ _ h => h) (Or.inl ⟨by rfl, ?_⟩) (by assumption) ?_; rotate_left; (focus (intro w hSw; (try dsimp only at hSw); go_simp; (try with_reducible rfl))); (try simp only [Act.put, List.setIfInBounds_toArray, List.set_cons_zero, List.set_cons_succ])); (refine wpAnyH_take (i := 6) (oi := _) (v := ?_) (ops_at rfl) (by kernel_rfl) (by kernel_rfl) (by kernel_rfl) (fun _ _ _ h => h) (Or.inl ⟨by rfl, ?_⟩) (by assumption) ?_; rotate_left; (focus (intro w hSw; (try dsimp only at hSw); go_simp; (try with_reducible rfl))); (try simp only [Act.put, List.setIfInBounds_toArray, List.set_cons_zero, List.set_cons_succ])); (refine wpAnyH_take (i := 7) (oi := _) (v := ?_) (ops_at rfl) (by kernel_rfl) (by kernel_rfl) (by kernel_rfl) (fun _ _ _ h => h) (Or.inl ⟨by rfl, ?_⟩) (by assumption) ?_; rotate_left; (focus (intro w hSw; (try dsimp only at hSw); go_simp; (try with_reducible rfl))); (try simp only [Act.put, List.setIfInBounds_toArray, List.set_cons_zero, List.set_cons_succ])); (refine wpAnyH_take (i := 8) (oi := _) (v := ?_) (ops_at rfl) (by kernel_rfl) (by kernel_rfl) (by kernel_rfl) (fun _ _ _ h => h) (Or.inl ⟨by rfl, ?_⟩) (by assumption) ?_; rotate_left; (focus (intro w hSw; (try dsimp only at hSw); go_simp; (try with_reducible rfl))); (try simp only [Act.put, List.setIfInBounds_toArray, List.set_cons_zero, List.set_cons_succ])); (refine wpAnyH_take (i := 9) (oi := _) (v := ?_) (ops_at rfl) (by kernel_rfl) (by kernel_rfl) (by kernel_rfl) (fun _ _ _ h => h) (Or.inl ⟨by rfl, ?_⟩) (by assumption) ?_; rotate_left; (focus (intro w hSw; (try dsimp only at hSw); go_simp; (try with_reducible rfl))); (try simp only [Act.put, List.setIfInBounds_toArray, List.set_cons_zero, List.set_cons_succ])); (refine wpAnyH_take (i := 10) (oi := _) (v := ?_) (ops_at rfl) (by kernel_rfl) (by kernel_rfl) (by kernel_rfl) (fun _ _ _ h => h) (Or.inl ⟨by rfl, ?_⟩) (by assumption) ?_; rotate_left; (focus (intro w hSw; (try dsimp only at hSw); go_simp; (try with_reducible rfl))); (try simp only [Act.put, List.setIfInBounds_toArray, List.set_cons_zero, List.set_cons_succ]))
  (refine wpAnyH_ready (rs := [11]) (by kernel_rfl) (by simp) (AllReadyH.cons (ops_at rfl) (fun K hK => ?_) AllReadyH.nil); go_simp; (refine (stamp_h HMD.out nmC (by decide)).mono ?_; rintro en w' ⟨rfl, rfl⟩; rw [HS.out]); refine hK.out _ _ (HKc.out _ (Below.refl _ _).drew) (fun hHeld => ?_); clear hK K; (try simp only [Act.put, List.setIfInBounds_toArray, List.set_cons_zero, List.set_cons_succ]))
  (refine wpAnyH_take (i := 12) (oi := _) (v := ?_) (ops_at rfl) (by kernel_rfl) (by kernel_rfl) (by kernel_rfl) (fun _ _ _ h => h) (Or.inl ⟨by rfl, ?_⟩) (by assumption) ?_; rotate_left; (focus (intro w hSw; (try dsimp only at hSw); go_simp; (try with_reducible rfl))); (try simp only [Act.put, List.setIfInBounds_toArray, List.set_cons_zero, List.set_cons_succ])); (refine wpAnyH_take (i := 13) (oi := _) (v := ?_) (ops_at rfl) (by kernel_rfl) (by kernel_rfl) (by kernel_rfl) (fun _ _ _ h => h) (Or.inl ⟨by rfl, ?_⟩) (by assumption) ?_; rotate_left; (focus (intro w hSw; (try dsimp only at hSw); go_simp; (try with_reducible rfl))); (try simp only [Act.put, List.setIfInBounds_toArray, List.set_cons_zero, List.set_cons_succ])); (refine wpAnyH_take (i := 14) (oi := _) (v := ?_) (ops_at rfl) (by kernel_rfl) (by kernel_rfl) (by kernel_rfl) (fun _ _ _ h => h) (Or.inl ⟨by rfl, ?_⟩) (by assumption) ?_; rotate_left; (focus (intro w hSw; (try dsimp only at hSw); go_simp; (try with_reducible rfl))); (try simp only [Act.put, List.setIfInBounds_toArray, List.set_cons_zero, List.set_cons_succ])); (refine wpAnyH_take (i := 15) (oi := _) (v := ?_) (ops_at rfl) (by kernel_rfl) (by kernel_rfl) (by kernel_rfl) (fun _ _ _ h => h) (Or.inl ⟨by rfl, ?_⟩) (by assumption) ?_; rotate_left; (focus (intro w hSw; (try dsimp only at hSw); go_simp; (try with_reducible rfl))); (try simp only [Act.put, List.setIfInBounds_toArray, List.set_cons_zero, List.set_cons_succ])); (refine wpAnyH_take (i := 16) (oi := _) (v := ?_) (ops_at rfl) (by kernel_rfl) (by kernel_rfl) (by kernel_rfl) (fun _ _ _ h => h) (Or.inl ⟨by rfl, ?_⟩) (by assumption) ?_; rotate_left; (focus (intro w hSw; (try dsimp only at hSw); go_simp; (try with_reducible rfl))); (try simp only [Act.put, List.setIfInBounds_toArray, List.set_cons_zero, List.set_cons_succ])); (refine wpAnyH_take (i := 17) (oi := _) (v := ?_) (ops_at rfl) (by kernel_rfl) (by kernel_rfl) (by kernel_rfl) (fun _ _ _ h => h) (Or.inl ⟨by rfl, ?_⟩) (by assumption) ?_; rotate_left; (focus (intro w hSw; (try dsimp only at hSw); go_simp; (try with_reducible rfl))); (try simp only [Act.put, List.setIfInBounds_toArray, List.set_cons_zero, List.set_cons_succ])); (refine wpAnyH_take (i := 18) (oi := _) (v := ?_) (ops_at rfl) (by kernel_rfl) (by kernel_rfl) (by kernel_rfl) (fun _ _ _ h => h) (Or.inl ⟨by rfl, ?_⟩) (by assumption) ?_; rotate_left; (focus (intro w hSw; (try dsimp only at hSw); go_simp; (try with_reducible rfl))); (try simp only [Act.put, List.setIfInBounds_toArray, List.set_cons_zero, List.set_cons_succ])); (refine wpAnyH_take (i := 19) (oi := _) (v := ?_) (ops_at rfl) (by kernel_rfl) (by kernel_rfl) (by kernel_rfl) (fun _ _ _ h => h) (Or.inl ⟨by rfl, ?_⟩) (by assumption) ?_; rotate_left; (focus (intro w hSw; (try dsimp only at hSw); go_simp; (try with_reducible rfl))); (try simp only [Act.put, List.setIfInBounds_toArray, List.set_cons_zero, List.set_cons_succ])); (refine wpAnyH_take (i := 20) (oi := _) (v := ?_) (ops_at rfl) (by kernel_rfl) (by kernel_rfl) (by kernel_rfl) (fun _ _ _ h => h) (Or.inl ⟨by rfl, ?_⟩) (by assumption) ?_; rotate_left; (focus (intro w hSw; (try dsimp only at hSw); go_simp; (try with_reducible rfl))); (try simp only [Act.put, List.setIfInBounds_toArray, List.set_cons_zero, List.set_cons_succ])); (refine wpAnyH_take (i := 21) (oi := _) (v := ?_) (ops_at rfl) (by kernel_rfl) (by kernel_rfl) (by kernel_rfl) (fun _ _ _ h => h) (Or.inl ⟨by rfl, ?_⟩) (by assumption) ?_; rotate_left; (focus (intro w hSw; (try dsimp only at hSw); go_simp; (try with_reducible rfl))); (try simp only [Act.put, List.setIfInBounds_toArray, List.set_cons_zero, List.set_cons_succ])); (refine wpAnyH_take (i := 22) (oi := _) (v := ?_) (ops_at rfl) (by kernel_rfl) (by kernel_rfl) (by kernel_rfl) (fun _ _ _ h => h) (Or.inl ⟨by rfl, ?_⟩) (by assumption) ?_; rotate_left; (focus (intro w hSw; (try dsimp only at hSw); go_simp; (try with_reducible rfl))); (try simp only [Act.put, List.setIfInBounds_toArray, List.set_cons_zero, List.set_cons_succ])); (refine wpAnyH_take (i := 23) (oi := _) (v := ?_) (ops_at rfl) (by kernel_rfl) (by kernel_rfl) (by kernel_rfl) (fun _ _ _ h => h) (Or.inl ⟨by rfl, ?_⟩) (by assumption) ?_; rotate_left; (focus (intro w hSw; (try dsimp only at hSw); go_simp; (try with_reducible rfl))); (try simp only [Act.put, List.setIfInBounds_toArray, List.set_cons_zero, List.set_cons_succ])); (refine wpAnyH_take (i := 24) (oi := _) (v := ?_) (ops_at rfl) (by kernel_rfl) (by kernel_rfl) (by kernel_rfl) (fun _ _ _ h => h) (Or.inl ⟨by rfl, ?_⟩) (by assumption) ?_; rotate_left; (focus (intro w hSw; (try dsimp only at hSw); go_simp; (try with_reducible rfl))); (try simp only [Act.put, List.setIfInBounds_toArray, List.set_cons_zero, List.set_cons_succ])); (refine wpAnyH_take (i := 25) (oi := _) (v := ?_) (ops_at rfl) (by kernel_rfl) (by kernel_rfl) (by kernel_rfl) (fun _ _ _ h => h) (Or.inl ⟨by rfl, ?_⟩) (by assumption) ?_; rotate_left; (focus (intro w hSw; (try dsimp only at hSw); go_simp; (try with_reducible rfl))); (try simp only [Act.put, List.setIfInBounds_toArray, List.set_cons_zero, List.set_cons_succ])); (refine wpAnyH_take (i := 26) (oi := _) (v := ?_) (ops_at rfl) (by kernel_rfl) (by kernel_rfl) (by kernel_rfl) (fun _ _ _ h => h) (Or.inl ⟨by rfl, ?_⟩) (by assumption) ?_; rotate_left; (focus (intro w hSw; (try dsimp only at hSw); go_simp; (try with_reducible rfl))); (try simp only [Act.put, List.setIfInBounds_toArray, List.set_cons_zero, List.set_cons_succ])); (refine wpAnyH_take (i := 27) (oi := _) (v := ?_) (ops_at rfl) (by kernel_rfl) (by kernel_rfl) (by kernel_rfl) (fun _ _ _ h => h) (Or.inl ⟨by rfl, ?_⟩) (by assumption) ?_; rotate_left; (focus (intro w hSw; (try dsimp only at hSw); go_simp; (try with_reducible rfl))); (try simp only [Act.put, List.setIfInBounds_toArray, List.set_cons_zero, List.set_cons_succ])); (refine wpAnyH_take (i := 28) (oi := _) (v := ?_) (ops_at rfl) (by kernel_rfl) (by kernel_rfl) (by kernel_rfl) (fun _ _ _ h => h) (Or.inl ⟨by rfl, ?_⟩) (by assumption) ?_; rotate_left; (focus (intro w hSw; (try dsimp only at hSw); go_simp; (try with_reducible rfl))); (try simp only [Act.put, List.setIfInBounds_toArray, List.set_cons_zero, List.set_cons_succ])); (refine wpAnyH_take (i := 29) (oi := _) (v := ?_) (ops_at rfl) (by kernel_rfl) (by kernel_rfl) (by kernel_rfl) (fun _ _ _ h => h) (Or.inl ⟨by rfl, ?_⟩) (by assumption) ?_; rotate_left; (focus (intro w hSw; (try dsimp only at hSw); go_simp; (try with_reducible rfl))); (try simp only [Act.put, List.setIfInBounds_toArray, List.set_cons_zero, List.set_cons_succ])); (refine wpAnyH_take (i := 30) (oi := _) (v := ?_) (ops_at rfl) (by kernel_rfl) (by kernel_rfl) (by kernel_rfl) (fun _ _ _ h => h) (Or.inl ⟨by rfl, ?_⟩) (by assumption) ?_; rotate_left; (focus (intro w hSw; (try dsimp only at hSw); go_simp; (try with_reducible rfl))); (try simp only [Act.put, List.setIfInBounds_toArray, List.set_cons_zero, List.set_cons_succ])); (refine wpAnyH_take (i := 31) (oi := _) (v := ?_) (ops_at rfl) (by kernel_rfl) (by kernel_rfl) (by kernel_rfl) (fun _ _ _ h => h) (Or.inl ⟨by rfl, ?_⟩) (by assumption) ?_; rotate_left; (focus (intro w hSw; (try dsimp only at hSw); go_simp; (try with_reducible rfl))); (try simp only [Act.put, List.setIfInBounds_toArray, List.set_cons_zero, List.set_cons_succ])); (refine wpAnyH_take (i := 32) (oi := _) (v := ?_) (ops_at rfl) (by kernel_rfl) (by kernel_rfl) (by kernel_rfl) (fun _ _ _ h => h) (Or.inl ⟨by rfl, ?_⟩) (by assumption) ?_; rotate_left; (focus (intro w hSw; (try dsimp only at hSw); go_simp; (try with_reducible rfl))); (try simp only [Act.put, List.setIfInBounds_toArray, List.set_cons_zero, List.set_cons_succ])); (refine wpAnyH_take (i := 33) (oi := _) (v := ?_) (ops_at rfl) (by kernel_rfl) (by kernel_rfl) (by kernel_rfl) (fun _ _ _ h => h) (Or.inl ⟨by rfl, ?_⟩) (by assumption) ?_; rotate_left; (focus (intro w hSw; (try dsimp only at hSw); go_simp; (try with_reducible rfl))); (try simp only [Act.put, List.setIfInBounds_toArray, List.set_cons_zero, List.set_cons_succ])); (refine wpAnyH_take (i := 34) (oi := _) (v := ?_) (ops_at rfl) (by kernel_rfl) (by kernel_rfl) (by kernel_rfl) (fun _ _ _ h => h) (Or.inl ⟨by rfl, ?_⟩) (by assumption) ?_; rotate_left; (focus (intro w hSw; (try dsimp only at hSw); go_simp; (try with_reducible rfl))); (try simp only [Act.put, List.setIfInBounds_toArray, List.set_cons_zero, List.set_cons_succ])); (refine wpAnyH_take (i := 35) (oi := _) (v := ?_) (ops_at rfl) (by kernel_rfl) (by kernel_rfl) (by kernel_rfl) (fun _ _ _ h => h) (Or.inl ⟨by rfl, ?_⟩) (by assumption) ?_; rotate_left; (focus (intro w hSw; (try dsimp only at hSw); go_simp; (try with_reducible rfl))); (try simp only [Act.put, List.setIfInBounds_toArray, List.set_cons_zero, List.set_cons_succ])); (refine wpAnyH_take (i := 36) (oi := _) (v := ?_) (ops_at rfl) (by kernel_rfl) (by kernel_rfl) (by kernel_rfl) (fun _ _ _ h => h) (Or.inl ⟨by rfl, ?_⟩) (by assumption) ?_; rotate_left; (focus (intro w hSw; (try dsimp only at hSw); go_simp; (try with_reducible rfl))); (try simp only [Act.put, List.setIfInBounds_toArray, List.set_cons_zero, List.set_cons_succ]))
  have heq : (e2 : Int) = (e : Int) := by have := HE2.out; omega
  have heb : ((e2 : Int) == (e : Int)) = true := by rw [beq_iff_eq]; exact heq
  have heb2 : (e2 == e) = true := by rw [beq_iff_eq]; exact HE2.out
  have hed : decide (e2 = e) = true := decide_eq_true HE2.out
  have he3 : e2 = e := HE2.out
  have hst : S.st nmC = sg := AE.out.2.trans HSG.out
  have hsb : (S.st nmC == sg) = true := by rw [beq_iff_eq]; exact hst
  (refine wpAnyH_take (i := 37) (oi := _) (v := ?_) (ops_at rfl) (by kernel_rfl) (by kernel_rfl) (by kernel_rfl) (fun _ _ _ h => h) (Or.inl ⟨by rfl, ?_⟩) (by assumption) ?_; rotate_left; (focus (intro w hSw; (try dsimp only at hSw); go_simp; (try with_reducible rfl))); (try simp only [Act.put, List.setIfInBounds_toArray, List.set_cons_zero, List.set_cons_succ])); (refine wpAnyH_take (i := 38) (oi := _) (v := ?_) (ops_at rfl) (by kernel_rfl) (by kernel_rfl) (by kernel_rfl) (fun _ _ _ h => h) (Or.inl ⟨by rfl, ?_⟩) (by assumption) ?_; rotate_left; (focus (intro w hSw; (try dsimp only at hSw); go_simp; (try with_reducible rfl))); (try simp only [Act.put, List.setIfInBounds_toArray, List.set_cons_zero, List.set_cons_succ])); (refine wpAnyH_take (i := 39) (oi := _) (v := ?_) (ops_at rfl) (by kernel_rfl) (by kernel_rfl) (by kernel_rfl) (fun _ _ _ h => h) (Or.inl ⟨by rfl, ?_⟩) (by assumption) ?_; rotate_left; (focus (intro w hSw; (try dsimp only at hSw); go_simp; (try with_reducible rfl))); (try simp only [Act.put, List.setIfInBounds_toArray, List.set_cons_zero, List.set_cons_succ])); (refine wpAnyH_take (i := 40) (oi := _) (v := ?_) (ops_at rfl) (by kernel_rfl) (by kernel_rfl) (by kernel_rfl) (fun _ _ _ h => h) (Or.inl ⟨by rfl, ?_⟩) (by assumption) ?_; rotate_left; (focus (intro w hSw; (try dsimp only at hSw); go_simp; (try with_reducible rfl))); (try simp only [Act.put, List.setIfInBounds_toArray, List.set_cons_zero, List.set_cons_succ])); (refine wpAnyH_take (i := 41) (oi := _) (v := ?_) (ops_at rfl) (by kernel_rfl) (by kernel_rfl) (by kernel_rfl) (fun _ _ _ h => h) (Or.inl ⟨by rfl, ?_⟩) (by assumption) ?_; rotate_left; (focus (intro w hSw; (try dsimp only at hSw); go_simp; (try with_reducible rfl))); (try simp only [Act.put, List.setIfInBounds_toArray, List.set_cons_zero, List.set_cons_succ])); (refine wpAnyH_take (i := 42) (oi := _) (v := ?_) (ops_at rfl) (by kernel_rfl) (by kernel_rfl) (by kernel_rfl) (fun _ _ _ h => h) (Or.inl ⟨by rfl, ?_⟩) (by assumption) ?_; rotate_left; (focus (intro w hSw; (try dsimp only at hSw); go_simp; (try with_reducible rfl))); (try simp only [Act.put, List.setIfInBounds_toArray, List.set_cons_zero, List.set_cons_succ])); (refine wpAnyH_take (i := 43) (oi := _) (v := ?_) (ops_at rfl) (by kernel_rfl) (by kernel_rfl) (by kernel_rfl) (fun _ _ _ h => h) (Or.inl ⟨by rfl, ?_⟩) (by assumption) ?_; rotate_left; (focus (intro w hSw; (try dsimp only at hSw); go_simp; (try with_reducible rfl))); (try simp only [Act.put, List.setIfInBounds_toArray, List.set_cons_zero, List.set_cons_succ])); (refine wpAnyH_take (i := 44) (oi := _) (v := ?_) (ops_at rfl) (by kernel_rfl) (by kernel_rfl) (by kernel_rfl) (fun _ _ _ h => h) (Or.inl ⟨by rfl, ?_⟩) (by assumption) ?_; rotate_left; (focus (intro w hSw; (try dsimp only at hSw); go_simp; (try with_reducible rfl))); (try simp only [Act.put, List.setIfInBounds_toArray, List.set_cons_zero, List.set_cons_succ]))
  (refine wpAnyH_done (by kernel_rfl) ?_ _)
  clear heq heb heb2 hed he3 hst hsb
  have HGd := Lib.hid HG.out.drew
  have HKd := Lib.hid HK.out.drew
  have HMd := Lib.hid HM.out.drew
  clear hHeld HG HK HM HKc HMD HS hp1 hp2 hd1 hd2 hwe
  have HRF := Lib.hid (readF_of nmC_ok AM.out)
  rw [HL.out, HSG.out] at HRF
  go_wp2_with fail
  refine (read_h HMd.out.fs nmC (by decide)).mono ?_
  rintro en w8 ⟨RA, rn, rc, rfl, hrn, hown, b8⟩
  rw [HRF.out] at hrn hown ⊢
  have hrn' : rn = 34 := by have : L.bytes.length = rn := hrn; rw [Lk.bytes_len] at this; exact this.symm
  subst hrn'
  have hcap := hown.cap
  have HRA := Lib.hid (own_bs (l := L.bytes) hown (Lk.bytes_by _) (by omega))
  have HM8 := Lib.hid (HMd.out.below b8)
  have HG8 := Lib.hid (HGd.out.below b8)
  have HK8 := Lib.hid (HKd.out.below b8)
  clear hrn hown b8 HMd HGd HKd
  go_wp2_with fail
  refine (ropenlock_any RA 34 rc L.bytes _ HRA.out hcap (by omega)).mono ?_
  rintro en w9 ⟨rfl, b9⟩
  have hao := AO.out
  rw [HL.out] at hao
  rw [hao]
  have HM9 := Lib.hid (HM8.out.below b9)
  have HG9 := Lib.hid (HG8.out.below b9)
  have HK9 := Lib.hid (HK8.out.below b9)
  have hkl := HK9.out.lt
  clear b9 HM8 HG8 HK8 HRA hao
  simp only [Option.getD_some, Option.isSome_some]
  unfold lkV
  have hLw : L.who = j := by rw [← HL.out]; exact AW.out.1
  have hLe : L.epoch = e2 := by rw [← HL.out]; exact HEP.out
  rw [hLw, hLe]
  have r0 : w9.cell? ⟨k2, 0, none⟩ = some (.int .i64 j) := HK9.out.cell 0
  have r1 : w9.cell? ⟨k2, 1, none⟩ = some (.int .i64 L.inc) := HK9.out.cell 1
  have r2 : w9.cell? ⟨k2, 2, none⟩ = some (.int .i64 e2) := HK9.out.cell 2
  have r3 : w9.cell? ⟨k2, 3, none⟩ = some (.int .i64 L.till) := HK9.out.cell 3
  go_upto_region 35 with fail
  refine at_world (fun W => Blk W g2 26 [.string nmC, .int .i64 sg] ∧ Blk W k2 28 [.int .i64 j, .int .i64 L.inc, .int .i64 e2, .int .i64 L.till] ∧ OneAt w0 W fb mb ab S' (hset h j { h j with t := some (tb, tk') }) (2 * i + 1)) ⟨HG9.out.alloc _, HK9.out.alloc _, HM9.out.alloc⟩ ?_
  clear HG9 HK9 HM9 r0 r1 r2 r3 hkl
  rintro V ⟨k1, k2', k3⟩
  have HG := Lib.hid k1
  have HK := Lib.hid k2'
  have HM := Lib.hid k3
  have hng : g2 ≠ ab := Blk.diff k1 k3.all.blk (by decide)
  have hnk : k2 ≠ ab := Blk.diff k2' k3.all.blk (by decide)
  have KC := Lib.hid (fun (w' : World) (p1 : Blk w' g2 26 [.string nmC, .int .i64 sg]) (p2 : Blk w' k2 28 [.int .i64 j, .int .i64 L.inc, .int .i64 e2, .int .i64 L.till]) => (show w'.cell? ⟨g2, 0, none⟩ = some (.string nmC) ∧ w'.cell? ⟨g2, 1, none⟩ = some (.int .i64 sg) ∧ w'.cell? ⟨k2, 0, none⟩ = some (.int .i64 j) ∧ w'.cell? ⟨k2, 1, none⟩ = some (.int .i64 L.inc) ∧ w'.cell? ⟨k2, 2, none⟩ = some (.int .i64 e2) ∧ w'.cell? ⟨k2, 3, none⟩ = some (.int .i64 L.till) from ⟨p1.cell 0, p1.cell 1, p2.cell 0, p2.cell 1, p2.cell 2, p2.cell 3⟩))
  have d3 : V.cell? ⟨ab, j * 10 + 3, none⟩ = some (.string (h j).gn) := k3.all.cell HJ.out (f := 3) (by decide) (by rw [hset_same]; rfl)
  have d4 : V.cell? ⟨ab, j * 10 + 4, none⟩ = some (.int .i64 (h j).gs) := k3.all.cell HJ.out (f := 4) (by decide) (by rw [hset_same]; rfl)
  have d5 : V.cell? ⟨ab, j * 10 + 5, none⟩ = some (.int .i64 (h j).l.who) := k3.all.cell HJ.out (f := 5) (by decide) (by rw [hset_same]; rfl)
  have d6 : V.cell? ⟨ab, j * 10 + 6, none⟩ = some (.int .i64 (h j).l.inc) := k3.all.cell HJ.out (f := 6) (by decide) (by rw [hset_same]; rfl)
  have d7 : V.cell? ⟨ab, j * 10 + 7, none⟩ = some (.int .i64 (h j).l.epoch) := k3.all.cell HJ.out (f := 7) (by decide) (by rw [hset_same]; rfl)
  have d8 : V.cell? ⟨ab, j * 10 + 8, none⟩ = some (.int .i64 (h j).l.till) := k3.all.cell HJ.out (f := 8) (by decide) (by rw [hset_same]; rfl)
  have d9 : V.cell? ⟨ab, j * 10 + 9, none⟩ = some (.bool (h j).held) := k3.all.cell HJ.out (f := 9) (by decide) (by rw [hset_same]; rfl)
  have z3 := k3.all.blk.frozen (j * 10 + 3)
  have z4 := k3.all.blk.frozen (j * 10 + 4)
  have z5 := k3.all.blk.frozen (j * 10 + 5)
  have z6 := k3.all.blk.frozen (j * 10 + 6)
  have z7 := k3.all.blk.frozen (j * 10 + 7)
  have z8 := k3.all.blk.frozen (j * 10 + 8)
  have z9 := k3.all.blk.frozen (j * 10 + 9)
  clear k1 k2' k3
  (refine wp_region_held_drew (S := fun w' => w'.cell? ⟨g2, 0, none⟩ = some (.string nmC) ∧ w'.cell? ⟨g2, 1, none⟩ = some (.int .i64 sg) ∧ w'.cell? ⟨k2, 0, none⟩ = some (.int .i64 j) ∧ w'.cell? ⟨k2, 1, none⟩ = some (.int .i64 L.inc) ∧ w'.cell? ⟨k2, 2, none⟩ = some (.int .i64 e2) ∧ w'.cell? ⟨k2, 3, none⟩ = some (.int .i64 L.till)) (by kernel_rfl) (KC.out _ HG.out.drew HK.out.drew) (fun hHeld => ?_))
  (refine wpAnyH_take (i := 0) (oi := _) (v := ?_) (ops_at rfl) (by kernel_rfl) (by kernel_rfl) (by kernel_rfl) (fun _ _ _ h => h) (Or.inl ⟨by rfl, ?_⟩) (by assumption) ?_; rotate_left; (focus (intro w hSw; (try dsimp only at hSw); go_simp; (try with_reducible rfl))); (try simp only [Act.put, List.setIfInBounds_toArray, List.set_cons_zero, List.set_cons_succ])); (refine wpAnyH_take (i := 1) (oi := _) (v := ?_) (ops_at rfl) (by kernel_rfl) (by kernel_rfl) (by kernel_rfl) (fun _ _ _ h => h) (Or.inl ⟨by rfl, ?_⟩) (by assumption) ?_; rotate_left; (focus (intro w hSw; (try dsimp only at hSw); go_simp; (try with_reducible rfl))); (try simp only [Act.put, List.setIfInBounds_toArray, List.set_cons_zero, List.set_cons_succ])); (refine wpAnyH_take (i := 2) (oi := _) (v := ?_) (ops_at rfl) (by kernel_rfl) (by kernel_rfl) (by kernel_rfl) (fun _ _ _ h => h) (Or.inl ⟨by rfl, ?_⟩) (by assumption) ?_; rotate_left; (focus (intro w hSw; (try dsimp only at hSw); go_simp; (try with_reducible rfl))); (try simp only [Act.put, List.setIfInBounds_toArray, List.set_cons_zero, List.set_cons_succ])); (refine wpAnyH_take (i := 3) (oi := _) (v := ?_) (ops_at rfl) (by kernel_rfl) (by kernel_rfl) (by kernel_rfl) (fun _ _ _ h => h) (Or.inl ⟨by rfl, ?_⟩) (by assumption) ?_; rotate_left; (focus (intro w hSw; (try dsimp only at hSw); go_simp; (try with_reducible rfl))); (try simp only [Act.put, List.setIfInBounds_toArray, List.set_cons_zero, List.set_cons_succ])); (refine wpAnyH_take (i := 4) (oi := _) (v := ?_) (ops_at rfl) (by kernel_rfl) (by kernel_rfl) (by kernel_rfl) (fun _ _ _ h => h) (Or.inl ⟨by rfl, ?_⟩) (by assumption) ?_; rotate_left; (focus (intro w hSw; (try dsimp only at hSw); go_simp; (try with_reducible rfl))); (try simp only [Act.put, List.setIfInBounds_toArray, List.set_cons_zero, List.set_cons_succ])); (refine wpAnyH_take (i := 5) (oi := _) (v := ?_) (ops_at rfl) (by kernel_rfl) (by kernel_rfl) (by kernel_rfl) (fun _ _ _ h => h) (Or.inl ⟨by rfl, ?_⟩) (by assumption) ?_; rotate_left; (focus (intro w hSw; (try dsimp only at hSw); go_simp; (try with_reducible rfl))); (try simp only [Act.put, List.setIfInBounds_toArray, List.set_cons_zero, List.set_cons_succ])); (refine wpAnyH_take (i := 6) (oi := _) (v := ?_) (ops_at rfl) (by kernel_rfl) (by kernel_rfl) (by kernel_rfl) (fun _ _ _ h => h) (Or.inl ⟨by rfl, ?_⟩) (by assumption) ?_; rotate_left; (focus (intro w hSw; (try dsimp only at hSw); go_simp; (try with_reducible rfl))); (try simp only [Act.put, List.setIfInBounds_toArray, List.set_cons_zero, List.set_cons_succ]))
  (refine wpAnyH_ready (rs := [7]) (by kernel_rfl) (by simp) (AllReadyH.cons (ops_at rfl) (fun K hK => ?_) AllReadyH.nil); go_simp; skip; refine hK.out _ _ (KC.out _ ((HG.out.far hng _).far hng _).drew ((HK.out.far hnk _).far hnk _).drew) (fun hHeld => ?_); clear hK K; (try simp only [Act.put, List.setIfInBounds_toArray, List.set_cons_zero, List.set_cons_succ]))
  (refine wpAnyH_take (i := 8) (oi := _) (v := ?_) (ops_at rfl) (by kernel_rfl) (by kernel_rfl) (by kernel_rfl) (fun _ _ _ h => h) (Or.inl ⟨by rfl, ?_⟩) (by assumption) ?_; rotate_left; (focus (intro w hSw; (try dsimp only at hSw); go_simp; (try with_reducible rfl))); (try simp only [Act.put, List.setIfInBounds_toArray, List.set_cons_zero, List.set_cons_succ])); (refine wpAnyH_take (i := 9) (oi := _) (v := ?_) (ops_at rfl) (by kernel_rfl) (by kernel_rfl) (by kernel_rfl) (fun _ _ _ h => h) (Or.inl ⟨by rfl, ?_⟩) (by assumption) ?_; rotate_left; (focus (intro w hSw; (try dsimp only at hSw); go_simp; (try with_reducible rfl))); (try simp only [Act.put, List.setIfInBounds_toArray, List.set_cons_zero, List.set_cons_succ]))
  (refine wpAnyH_ready (rs := [10]) (by kernel_rfl) (by simp) (AllReadyH.cons (ops_at rfl) (fun K hK => ?_) AllReadyH.nil); go_simp; skip; refine hK.out _ _ (KC.out _ ((((((HG.out.far hng _).far hng _).far hng _).far hng _).far hng _).far hng _).drew ((((((HK.out.far hnk _).far hnk _).far hnk _).far hnk _).far hnk _).far hnk _).drew) (fun hHeld => ?_); clear hK K; (try simp only [Act.put, List.setIfInBounds_toArray, List.set_cons_zero, List.set_cons_succ]))
  (refine wpAnyH_take (i := 11) (oi := _) (v := ?_) (ops_at rfl) (by kernel_rfl) (by kernel_rfl) (by kernel_rfl) (fun _ _ _ h => h) (Or.inl ⟨by rfl, ?_⟩) (by assumption) ?_; rotate_left; (focus (intro w hSw; (try dsimp only at hSw); go_simp; (try with_reducible rfl))); (try simp only [Act.put, List.setIfInBounds_toArray, List.set_cons_zero, List.set_cons_succ])); (refine wpAnyH_take (i := 12) (oi := _) (v := ?_) (ops_at rfl) (by kernel_rfl) (by kernel_rfl) (by kernel_rfl) (fun _ _ _ h => h) (Or.inl ⟨by rfl, ?_⟩) (by assumption) ?_; rotate_left; (focus (intro w hSw; (try dsimp only at hSw); go_simp; (try with_reducible rfl))); (try simp only [Act.put, List.setIfInBounds_toArray, List.set_cons_zero, List.set_cons_succ]))
  (refine wpAnyH_ready (rs := [13]) (by kernel_rfl) (by simp) (AllReadyH.cons (ops_at rfl) (fun K hK => ?_) AllReadyH.nil); go_simp; skip; refine hK.out _ _ (KC.out _ (((((((HG.out.far hng _).far hng _).far hng _).far hng _).far hng _).far hng _).far hng _).drew (((((((HK.out.far hnk _).far hnk _).far hnk _).far hnk _).far hnk _).far hnk _).far hnk _).drew) (fun hHeld => ?_); clear hK K; (try simp only [Act.put, List.setIfInBounds_toArray, List.set_cons_zero, List.set_cons_succ]))
  (refine wpAnyH_done (by kernel_rfl) ?_ _)
  clear hHeld
  have hL4 : (⟨j, L.inc, e2, L.till⟩ : Lk) = L := lk_ext hLw.symm rfl hLe.symm rfl
  have h7 := ((HM.out.gl HJ.out nmC sg ⟨j, L.inc, e2, L.till⟩).held HJ.out true).drew
  simp only [hset_hset, hset_same] at h7
  rw [hL4] at h7
  have H7 := Lib.hid h7
  clear h7 HM HG HK KC hng hnk d3 d4 d5 d6 d7 d8 d9 z3 z4 z5 z6 z7 z8 z9 hL4 hLw hLe
  go_upto_region 36 with fail
  refine at_world (fun W => OneAt w0 W fb mb ab S' (hset h j { h j with t := some (tb, tk'), gn := nmC, gs := sg, l := L, held := true }) (2 * i + 1)) H7.out ?_
  clear H7
  rintro W9 hm9
  have HM := Lib.hid hm9
  have c0 : W9.cell? ⟨ab, j * 10, none⟩ = some (.pointer (some ⟨tb, 0, none⟩)) := hm9.all.cell HJ.out (f := 0) (by decide) (by rw [hset_same]; rfl)
  have z0 := hm9.all.blk.frozen (j * 10)
  have hw1 : IntKind.i64.wrap ((i : Int) + 1) = ((i + 1 : Nat) : Int) := by have := HN.out; rw [IntKind.wrap_i64]; omega
  clear hm9
  go_wp2_with fail
  have h1 := HN.out
  have h2 := HE2.out
  have h3 := HM.out.noT HJ.out
  rw [hset_hset, hset_same] at h3
  have h4 := HII.out
  rw [AW.out.2, HSG.out, HL.out, ← h2] at h4
  exact ⟨⟨rfl, rfl, rfl, rfl, rfl, i + 1, n, e2, _, _, rfl, rfl, rfl, by omega, by omega, by omega, h4, h3.more (by omega) (by omega)⟩, by simp [oneMu, intOf]; omega⟩
set_option maxRecDepth 100000 in
set_option maxHeartbeats 4000000 in
theorem arm_take1n (H : Arm w0 ad ln lc fb mb ab t wr i n e h S x p j r) (hr15 : ¬ r = 15) (htj : (h j).t = some (tb, tk)) (hwf : tk.wf) (hlen2 : (S.readF tk.file).2.1.length ≤ 100000) (hst : stepT n S tk = (1, tk', S')) (a5 : tk'.at_ = 5) (a1 : tk'.told = 1) (ag : tk'.gn = nmC) (aw : tk'.l.who = j) (ae : tk'.l.epoch = ((e + 1 : Nat) : Int) ∧ True) (am : S'.m nmC.data.toList = some (tk'.l.bytes, tk'.gs)) (ao : openLk tk'.l.bytes = some tk'.l) (hI : OneI S' ((e + 1 : Nat) : Int) (hset h j { h j with t := none, gn := tk'.gn, gs := tk'.gs, l := tk'.l, held := true })) : Code.wp Tryz.prog oneBody (OneQ w0 ad ln lc fb mb ab t wr (Exit.inBlock 0 (Exit.then K (bodyPost Tryz.prog Tryz.f5 R)))) ⟨t, []⟩ wr := by
  have HI0 := H.I
  have HJ := Lib.hid H.hj
  have HO := Lib.hid H.I
  have HA := Lib.hid H.H
  have HN := Lib.hid (And.intro H.hn (And.intro H.he (And.intro H.hi H.hlen)))
  have HCX := Lib.hid H.hc
  have HR1 := Lib.hid H.hr1
  have hp := H.hp
  have hpj := H.hpj
  have hr := H.hr
  have hc := H.hc _ H.H.fs.bel
  have hlen := H.hlen
  have h300i : (i : Int) < 300 := by have := H.hi; omega
  have hleni : (i : Int) < (ln : Int) := by have := H.hlen; omega
  have hj0 : (0 : Int) ≤ (j : Int) := by omega
  have hj3 : (j : Int) < 3 := by have := H.hj; omega
  have HMU := Lib.hid (show oneMu ⟨t, []⟩ wr = 301 - i by unfold oneMu; rw [H.s7]; simp [intOf])
  unfold OneQ
  rw [HMU.out]
  obtain ⟨v, rfl⟩ := frameOne t H.sz _ _ _ _ _ _ H.s0 H.s3 H.s4 H.s5 H.s6 H.s7
  clear H HI0 HMU
  conv => arg 2; whnf
  go_upto_region 11 with fail
  rw [hpj]
  clear hpj hp h300i hleni hj0 hj3
  have h15i : ((r : Int) == 15) = false := by rw [beq_eq_false_iff_ne]; omega
  clear hr15
  have HTJ := Lib.hid htj
  have HWF := Lib.hid (And.intro hwf hlen2)
  have HST := Lib.hid hst
  have HT := Lib.hid (HA.out.all.t j HJ.out _ htj)
  have c0 : wr.cell? ⟨ab, j * 10, none⟩ = some (.pointer (some ⟨tb, 0, none⟩)) := HA.out.all.cell HJ.out (f := 0) (by decide) (by unfold Hd.cells; rw [htj]; rfl)
  clear htj hwf hlen2 hst
  have HII := Lib.hid hI
  have AM := Lib.hid am
  have AO := Lib.hid ao
  have AE := Lib.hid ae
  have AW := Lib.hid (And.intro aw ag)
  have A5 := Lib.hid (And.intro a5 a1)
  clear hI am ao ae aw ag a5 a1
  go_wp2_with fail
  refine (stamp_h HA.out.fs nmC (by decide)).mono ?_
  rintro en w2 ⟨rfl, rfl⟩
  clear hr h15i hc
  go_wp2_with fail
  refine (tstep_any HA.out.fs HT.out.1 HT.out.2 HWF.out.1 (n : Int) (by have := HN.out; omega) (fun _ => HWF.out.2)).mono ?_
  rintro en w2 hdd
  have hm := HA.out.took HO.out HJ.out HTJ.out hdd
  rw [HST.out] at hdd hm
  obtain rfl := hdd.ret
  have HX := Lib.hid hdd.x
  have HM := Lib.hid hm
  clear hdd hm HA HT HWF HST c0
  have c0 : w2.cell? ⟨ab, j * 10, none⟩ = some (.pointer (some ⟨tb, 0, none⟩)) := HM.out.all.cell HJ.out (f := 0) (by decide) (by rw [hset_same]; rfl)
  have z0 := HM.out.all.blk.frozen (j * 10)
  go_wp2_with fail
  refine (tgot_any HX.out A5.out.1 A5.out.2).mono ?_
  rintro en w3 ⟨rfl, b3⟩
  have HM3 := Lib.hid (HM.out.below b3)
  obtain ⟨L, hL⟩ : ∃ L, tk'.l = L := ⟨_, rfl⟩
  obtain ⟨sg, hsg⟩ : ∃ sg, tk'.gs = sg := ⟨_, rfl⟩
  obtain ⟨e2, he2⟩ : ∃ e2 : Nat, e2 = e + 1 := ⟨_, rfl⟩
  unfold heldV lkV
  rw [AW.out.1, AW.out.2, hsg]
  have hep : tk'.l.epoch = (e2 : Int) := by rw [he2]; exact AE.out.1
  rw [hep, hL]
  have HEP := Lib.hid hep
  have HL := Lib.hid hL
  have HSG := Lib.hid hsg
  have HE2 := Lib.hid he2
  clear b3 HM HX c0 z0 hsg hL hep he2
  go_upto_region 28 with fail
  obtain ⟨g2, hg2⟩ : ∃ g2, g2 = w3.heap.size := ⟨_, rfl⟩
  obtain ⟨k2, hk2⟩ : ∃ k2, k2 = w3.heap.size + 1 := ⟨_, rfl⟩
  rw [← hk2, ← hg2]
  refine at_world (fun W => Blk W g2 26 [.string nmC, .int .i64 sg] ∧ Blk W k2 28 [.int .i64 j, .int .i64 L.inc, .int .i64 e2, .int .i64 L.till] ∧ OneAt w0 W fb mb ab S' (hset h j { h j with t := some (tb, tk') }) (2 * i + 1)) ⟨(blk_new hg2).alloc _, blk_new (by simp [hk2, hg2]), HM3.out.alloc.alloc⟩ ?_
  clear HM3 hg2 hk2
  rintro V ⟨k1, k2', k3⟩
  have HG := Lib.hid k1
  have HK := Lib.hid k2'
  have HM := Lib.hid k3
  have HKc := Lib.hid (fun (w' : World) (hbl : Below V.heap.size V w') => (show w'.cell? ⟨g2, 0, none⟩ = some (.string ⟨#[99, 108, 97, 105, 109, 47, 97]⟩) ∧ w'.cell? ⟨g2, 1, none⟩ = some (.int .i64 sg) ∧ w'.cell? ⟨k2, 0, none⟩ = some (.int .i64 j) ∧ w'.cell? ⟨k2, 2, none⟩ = some (.int .i64 e2) from ⟨(k1.below hbl).cell 0, (k1.below hbl).cell 1, (k2'.below hbl).cell 0, (k2'.below hbl).cell 2⟩))
  have HMD := Lib.hid k3.fs.drew
  have HS := Lib.hid (show S'.st nmC = sg from (by_of AM.out).2.1.trans HSG.out)
  have hp1 : ¬ (e2 : Int) < (e : Int) := by have := HE2.out; omega
  have hp2 : ¬ (e : Int) + 1 < (e2 : Int) := by have := HE2.out; omega
  have hd1 : decide ((e2 : Int) < (e : Int)) = false := decide_eq_false hp1
  have hd2 : decide ((e : Int) + 1 < (e2 : Int)) = false := decide_eq_false hp2
  have hwe : IntKind.i64.wrap ((e : Int) + 1) = (e : Int) + 1 := by have := HN.out; rw [IntKind.wrap_i64]; omega
  clear k1 k2' k3
  (refine wp_region_held_drew (S := fun w' => w'.cell? ⟨g2, 0, none⟩ = some (.string ⟨#[99, 108, 97, 105, 109, 47, 97]⟩) ∧ w'.cell? ⟨g2, 1, none⟩ = some (.int .i64 sg) ∧ w'.cell? ⟨k2, 0, none⟩ = some (.int .i64 j) ∧ w'.cell? ⟨k2, 2, none⟩ = some (.int .i64 e2)) (by kernel_rfl) (HKc.out _ (Below.refl _ _).drew) (fun hHeld => ?_))
  (refine wpAnyH_take (i := 0) (oi := _) (v := ?_) (ops_at rfl) (by kernel_rfl) (by kernel_rfl) (by kernel_rfl) (fun _ _ _ h => h) (Or.inl ⟨by rfl, ?_⟩) (by assumption) ?_; rotate_left; (focus (intro w hSw; (try dsimp only at hSw); go_simp; (try with_reducible rfl))); (try simp only [Act.put, List.setIfInBounds_toArray, List.set_cons_zero, List.set_cons_succ])); (refine wpAnyH_take (i := 1) (oi := _) (v := ?_) (ops_at rfl) (by kernel_rfl) (by kernel_rfl) (by kernel_rfl) (fun _ _ _ h => h) (Or.inl ⟨by rfl, ?_⟩) (by assumption) ?_; rotate_left; (focus (intro w hSw; (try dsimp only at hSw); go_simp; (try with_reducible rfl))); (try simp only [Act.put, List.setIfInBounds_toArray, List.set_cons_zero, List.set_cons_succ])); (refine wpAnyH_take (i := 2) (oi := _) (v := ?_) (ops_at rfl) (by kernel_rfl) (by kernel_rfl) (by kernel_rfl) (fun _ _ _ h => h) (Or.inl ⟨by rfl, ?_⟩) (by assumption) ?_; rotate_left; (focus (intro w hSw; (try dsimp only at hSw); go_simp; (try with_reducible rfl))); (try simp only [Act.put, List.setIfInBounds_toArray, List.set_cons_zero, List.set_cons_succ])); (refine wpAnyH_take (i := 3) (oi := _) (v := ?_) (ops_at rfl) (by kernel_rfl) (by kernel_rfl) (by kernel_rfl) (fun _ _ _ h => h) (Or.inl ⟨by rfl, ?_⟩) (by assumption) ?_; rotate_left; (focus (intro w hSw; (try dsimp only at hSw); go_simp; (try with_reducible rfl))); (try simp only [Act.put, List.setIfInBounds_toArray, List.set_cons_zero, List.set_cons_succ])); (refine wpAnyH_take (i := 4) (oi := _) (v := ?_) (ops_at rfl) (by kernel_rfl) (by kernel_rfl) (by kernel_rfl) (fun _ _ _ h => h) (Or.inl ⟨by rfl, ?_⟩) (by assumption) ?_; rotate_left; (focus (intro w hSw; (try dsimp only at hSw); go_simp; (try with_reducible rfl))); (try simp only [Act.put, List.setIfInBounds_toArray, List.set_cons_zero, List.set_cons_succ])); (refine wpAnyH_take (i := 5) (oi := _) (v := ?_) (ops_at rfl) (by kernel_rfl) (by kernel_rfl) (by kernel_rfl) (fun _ _ _ h => h) (Or.inl ⟨by rfl, ?_⟩) (by assumption) ?_; rotate_left; (focus (intro w hSw; (try dsimp only at hSw); go_simp; (try with_reducible rfl))); (try simp only [Act.put, List.setIfInBounds_toArray, List.set_cons_zero, List.set_cons_succ])); (refine wpAnyH_take (i := 6) (oi := _) (v := ?_) (ops_at rfl) (by kernel_rfl) (by kernel_rfl) (by kernel_rfl) (fun _ _ _ h => h) (Or.inl ⟨by rfl, ?_⟩) (by assumption) ?_; rotate_left; (focus (intro w hSw; (try dsimp only at hSw); go_simp; (try with_reducible rfl))); (try simp only [Act.put, List.setIfInBounds_toArray, List.set_cons_zero, List.set_cons_succ])); (refine wpAnyH_take (i := 7) (oi := _) (v := ?_) (ops_at rfl) (by kernel_rfl) (by kernel_rfl) (by kernel_rfl) (fun _ _ _ h => h) (Or.inl ⟨by rfl, ?_⟩) (by assumption) ?_; rotate_left; (focus (intro w hSw; (try dsimp only at hSw); go_simp; (try with_reducible rfl))); (try simp only [Act.put, List.setIfInBounds_toArray, List.set_cons_zero, List.set_cons_succ])); (refine wpAnyH_take (i := 8) (oi := _) (v := ?_) (ops_at rfl) (by kernel_rfl) (by kernel_rfl) (by kernel_rfl) (fun _ _ _ h => h) (Or.inl ⟨by rfl, ?_⟩) (by assumption) ?_; rotate_left; (focus (intro w hSw; (try dsimp only at hSw); go_simp; (try with_reducible rfl))); (try simp only [Act.put, List.setIfInBounds_toArray, List.set_cons_zero, List.set_cons_succ])); (refine wpAnyH_take (i := 9) (oi := _) (v := ?_) (ops_at rfl) (by kernel_rfl) (by kernel_rfl) (by kernel_rfl) (fun _ _ _ h => h) (Or.inl ⟨by rfl, ?_⟩) (by assumption) ?_; rotate_left; (focus (intro w hSw; (try dsimp only at hSw); go_simp; (try with_reducible rfl))); (try simp only [Act.put, List.setIfInBounds_toArray, List.set_cons_zero, List.set_cons_succ])); (refine wpAnyH_take (i := 10) (oi := _) (v := ?_) (ops_at rfl) (by kernel_rfl) (by kernel_rfl) (by kernel_rfl) (fun _ _ _ h => h) (Or.inl ⟨by rfl, ?_⟩) (by assumption) ?_; rotate_left; (focus (intro w hSw; (try dsimp only at hSw); go_simp; (try with_reducible rfl))); (try simp only [Act.put, List.setIfInBounds_toArray, List.set_cons_zero, List.set_cons_succ]))
  (refine wpAnyH_ready (rs := [11]) (by kernel_rfl) (by simp) (AllReadyH.cons (ops_at rfl) (fun K hK => ?_) AllReadyH.nil); go_simp; (refine (stamp_h HMD.out nmC (by decide)).mono ?_; rintro en w' ⟨rfl, rfl⟩; rw [HS.out]); refine hK.out _ _ (HKc.out _ (Below.refl _ _).drew) (fun hHeld => ?_); clear hK K; (try simp only [Act.put, List.setIfInBounds_toArray, List.set_cons_zero, List.set_cons_succ]))
  (refine wpAnyH_take (i := 12) (oi := _) (v := ?_) (ops_at rfl) (by kernel_rfl) (by kernel_rfl) (by kernel_rfl) (fun _ _ _ h => h) (Or.inl ⟨by rfl, ?_⟩) (by assumption) ?_; rotate_left; (focus (intro w hSw; (try dsimp only at hSw); go_simp; (try with_reducible rfl))); (try simp only [Act.put, List.setIfInBounds_toArray, List.set_cons_zero, List.set_cons_succ])); (refine wpAnyH_take (i := 13) (oi := _) (v := ?_) (ops_at rfl) (by kernel_rfl) (by kernel_rfl) (by kernel_rfl) (fun _ _ _ h => h) (Or.inl ⟨by rfl, ?_⟩) (by assumption) ?_; rotate_left; (focus (intro w hSw; (try dsimp only at hSw); go_simp; (try with_reducible rfl))); (try simp only [Act.put, List.setIfInBounds_toArray, List.set_cons_zero, List.set_cons_succ])); (refine wpAnyH_take (i := 14) (oi := _) (v := ?_) (ops_at rfl) (by kernel_rfl) (by kernel_rfl) (by kernel_rfl) (fun _ _ _ h => h) (Or.inl ⟨by rfl, ?_⟩) (by assumption) ?_; rotate_left; (focus (intro w hSw; (try dsimp only at hSw); go_simp; (try with_reducible rfl))); (try simp only [Act.put, List.setIfInBounds_toArray, List.set_cons_zero, List.set_cons_succ])); (refine wpAnyH_take (i := 15) (oi := _) (v := ?_) (ops_at rfl) (by kernel_rfl) (by kernel_rfl) (by kernel_rfl) (fun _ _ _ h => h) (Or.inl ⟨by rfl, ?_⟩) (by assumption) ?_; rotate_left; (focus (intro w hSw; (try dsimp only at hSw); go_simp; (try with_reducible rfl))); (try simp only [Act.put, List.setIfInBounds_toArray, List.set_cons_zero, List.set_cons_succ])); (refine wpAnyH_take (i := 16) (oi := _) (v := ?_) (ops_at rfl) (by kernel_rfl) (by kernel_rfl) (by kernel_rfl) (fun _ _ _ h => h) (Or.inl ⟨by rfl, ?_⟩) (by assumption) ?_; rotate_left; (focus (intro w hSw; (try dsimp only at hSw); go_simp; (try with_reducible rfl))); (try simp only [Act.put, List.setIfInBounds_toArray, List.set_cons_zero, List.set_cons_succ])); (refine wpAnyH_take (i := 17) (oi := _) (v := ?_) (ops_at rfl) (by kernel_rfl) (by kernel_rfl) (by kernel_rfl) (fun _ _ _ h => h) (Or.inl ⟨by rfl, ?_⟩) (by assumption) ?_; rotate_left; (focus (intro w hSw; (try dsimp only at hSw); go_simp; (try with_reducible rfl))); (try simp only [Act.put, List.setIfInBounds_toArray, List.set_cons_zero, List.set_cons_succ])); (refine wpAnyH_take (i := 18) (oi := _) (v := ?_) (ops_at rfl) (by kernel_rfl) (by kernel_rfl) (by kernel_rfl) (fun _ _ _ h => h) (Or.inl ⟨by rfl, ?_⟩) (by assumption) ?_; rotate_left; (focus (intro w hSw; (try dsimp only at hSw); go_simp; (try with_reducible rfl))); (try simp only [Act.put, List.setIfInBounds_toArray, List.set_cons_zero, List.set_cons_succ])); (refine wpAnyH_take (i := 19) (oi := _) (v := ?_) (ops_at rfl) (by kernel_rfl) (by kernel_rfl) (by kernel_rfl) (fun _ _ _ h => h) (Or.inl ⟨by rfl, ?_⟩) (by assumption) ?_; rotate_left; (focus (intro w hSw; (try dsimp only at hSw); go_simp; (try with_reducible rfl))); (try simp only [Act.put, List.setIfInBounds_toArray, List.set_cons_zero, List.set_cons_succ])); (refine wpAnyH_take (i := 20) (oi := _) (v := ?_) (ops_at rfl) (by kernel_rfl) (by kernel_rfl) (by kernel_rfl) (fun _ _ _ h => h) (Or.inl ⟨by rfl, ?_⟩) (by assumption) ?_; rotate_left; (focus (intro w hSw; (try dsimp only at hSw); go_simp; (try with_reducible rfl))); (try simp only [Act.put, List.setIfInBounds_toArray, List.set_cons_zero, List.set_cons_succ])); (refine wpAnyH_take (i := 21) (oi := _) (v := ?_) (ops_at rfl) (by kernel_rfl) (by kernel_rfl) (by kernel_rfl) (fun _ _ _ h => h) (Or.inl ⟨by rfl, ?_⟩) (by assumption) ?_; rotate_left; (focus (intro w hSw; (try dsimp only at hSw); go_simp; (try with_reducible rfl))); (try simp only [Act.put, List.setIfInBounds_toArray, List.set_cons_zero, List.set_cons_succ])); (refine wpAnyH_take (i := 22) (oi := _) (v := ?_) (ops_at rfl) (by kernel_rfl) (by kernel_rfl) (by kernel_rfl) (fun _ _ _ h => h) (Or.inl ⟨by rfl, ?_⟩) (by assumption) ?_; rotate_left; (focus (intro w hSw; (try dsimp only at hSw); go_simp; (try with_reducible rfl))); (try simp only [Act.put, List.setIfInBounds_toArray, List.set_cons_zero, List.set_cons_succ])); (refine wpAnyH_take (i := 23) (oi := _) (v := ?_) (ops_at rfl) (by kernel_rfl) (by kernel_rfl) (by kernel_rfl) (fun _ _ _ h => h) (Or.inl ⟨by rfl, ?_⟩) (by assumption) ?_; rotate_left; (focus (intro w hSw; (try dsimp only at hSw); go_simp; (try with_reducible rfl))); (try simp only [Act.put, List.setIfInBounds_toArray, List.set_cons_zero, List.set_cons_succ])); (refine wpAnyH_take (i := 24) (oi := _) (v := ?_) (ops_at rfl) (by kernel_rfl) (by kernel_rfl) (by kernel_rfl) (fun _ _ _ h => h) (Or.inl ⟨by rfl, ?_⟩) (by assumption) ?_; rotate_left; (focus (intro w hSw; (try dsimp only at hSw); go_simp; (try with_reducible rfl))); (try simp only [Act.put, List.setIfInBounds_toArray, List.set_cons_zero, List.set_cons_succ])); (refine wpAnyH_take (i := 25) (oi := _) (v := ?_) (ops_at rfl) (by kernel_rfl) (by kernel_rfl) (by kernel_rfl) (fun _ _ _ h => h) (Or.inl ⟨by rfl, ?_⟩) (by assumption) ?_; rotate_left; (focus (intro w hSw; (try dsimp only at hSw); go_simp; (try with_reducible rfl))); (try simp only [Act.put, List.setIfInBounds_toArray, List.set_cons_zero, List.set_cons_succ])); (refine wpAnyH_take (i := 26) (oi := _) (v := ?_) (ops_at rfl) (by kernel_rfl) (by kernel_rfl) (by kernel_rfl) (fun _ _ _ h => h) (Or.inl ⟨by rfl, ?_⟩) (by assumption) ?_; rotate_left; (focus (intro w hSw; (try dsimp only at hSw); go_simp; (try with_reducible rfl))); (try simp only [Act.put, List.setIfInBounds_toArray, List.set_cons_zero, List.set_cons_succ])); (refine wpAnyH_take (i := 27) (oi := _) (v := ?_) (ops_at rfl) (by kernel_rfl) (by kernel_rfl) (by kernel_rfl) (fun _ _ _ h => h) (Or.inl ⟨by rfl, ?_⟩) (by assumption) ?_; rotate_left; (focus (intro w hSw; (try dsimp only at hSw); go_simp; (try with_reducible rfl))); (try simp only [Act.put, List.setIfInBounds_toArray, List.set_cons_zero, List.set_cons_succ])); (refine wpAnyH_take (i := 28) (oi := _) (v := ?_) (ops_at rfl) (by kernel_rfl) (by kernel_rfl) (by kernel_rfl) (fun _ _ _ h => h) (Or.inl ⟨by rfl, ?_⟩) (by assumption) ?_; rotate_left; (focus (intro w hSw; (try dsimp only at hSw); go_simp; (try with_reducible rfl))); (try simp only [Act.put, List.setIfInBounds_toArray, List.set_cons_zero, List.set_cons_succ])); (refine wpAnyH_take (i := 29) (oi := _) (v := ?_) (ops_at rfl) (by kernel_rfl) (by kernel_rfl) (by kernel_rfl) (fun _ _ _ h => h) (Or.inl ⟨by rfl, ?_⟩) (by assumption) ?_; rotate_left; (focus (intro w hSw; (try dsimp only at hSw); go_simp; (try with_reducible rfl))); (try simp only [Act.put, List.setIfInBounds_toArray, List.set_cons_zero, List.set_cons_succ])); (refine wpAnyH_take (i := 30) (oi := _) (v := ?_) (ops_at rfl) (by kernel_rfl) (by kernel_rfl) (by kernel_rfl) (fun _ _ _ h => h) (Or.inl ⟨by rfl, ?_⟩) (by assumption) ?_; rotate_left; (focus (intro w hSw; (try dsimp only at hSw); go_simp; (try with_reducible rfl))); (try simp only [Act.put, List.setIfInBounds_toArray, List.set_cons_zero, List.set_cons_succ])); (refine wpAnyH_take (i := 31) (oi := _) (v := ?_) (ops_at rfl) (by kernel_rfl) (by kernel_rfl) (by kernel_rfl) (fun _ _ _ h => h) (Or.inl ⟨by rfl, ?_⟩) (by assumption) ?_; rotate_left; (focus (intro w hSw; (try dsimp only at hSw); go_simp; (try with_reducible rfl))); (try simp only [Act.put, List.setIfInBounds_toArray, List.set_cons_zero, List.set_cons_succ])); (refine wpAnyH_take (i := 32) (oi := _) (v := ?_) (ops_at rfl) (by kernel_rfl) (by kernel_rfl) (by kernel_rfl) (fun _ _ _ h => h) (Or.inl ⟨by rfl, ?_⟩) (by assumption) ?_; rotate_left; (focus (intro w hSw; (try dsimp only at hSw); go_simp; (try with_reducible rfl))); (try simp only [Act.put, List.setIfInBounds_toArray, List.set_cons_zero, List.set_cons_succ])); (refine wpAnyH_take (i := 33) (oi := _) (v := ?_) (ops_at rfl) (by kernel_rfl) (by kernel_rfl) (by kernel_rfl) (fun _ _ _ h => h) (Or.inl ⟨by rfl, ?_⟩) (by assumption) ?_; rotate_left; (focus (intro w hSw; (try dsimp only at hSw); go_simp; (try with_reducible rfl))); (try simp only [Act.put, List.setIfInBounds_toArray, List.set_cons_zero, List.set_cons_succ])); (refine wpAnyH_take (i := 34) (oi := _) (v := ?_) (ops_at rfl) (by kernel_rfl) (by kernel_rfl) (by kernel_rfl) (fun _ _ _ h => h) (Or.inl ⟨by rfl, ?_⟩) (by assumption) ?_; rotate_left; (focus (intro w hSw; (try dsimp only at hSw); go_simp; (try with_reducible rfl))); (try simp only [Act.put, List.setIfInBounds_toArray, List.set_cons_zero, List.set_cons_succ])); (refine wpAnyH_take (i := 35) (oi := _) (v := ?_) (ops_at rfl) (by kernel_rfl) (by kernel_rfl) (by kernel_rfl) (fun _ _ _ h => h) (Or.inl ⟨by rfl, ?_⟩) (by assumption) ?_; rotate_left; (focus (intro w hSw; (try dsimp only at hSw); go_simp; (try with_reducible rfl))); (try simp only [Act.put, List.setIfInBounds_toArray, List.set_cons_zero, List.set_cons_succ])); (refine wpAnyH_take (i := 36) (oi := _) (v := ?_) (ops_at rfl) (by kernel_rfl) (by kernel_rfl) (by kernel_rfl) (fun _ _ _ h => h) (Or.inl ⟨by rfl, ?_⟩) (by assumption) ?_; rotate_left; (focus (intro w hSw; (try dsimp only at hSw); go_simp; (try with_reducible rfl))); (try simp only [Act.put, List.setIfInBounds_toArray, List.set_cons_zero, List.set_cons_succ]))
  have hne : ((e2 : Int) == (e : Int)) = false := by rw [beq_eq_false_iff_ne]; have := HE2.out; omega
  have hne2 : ¬ (e2 : Int) = (e : Int) := by have := HE2.out; omega
  have hne3 : ¬ e2 = e := by have := HE2.out; omega
  have hne4 : (e2 == e) = false := by rw [beq_eq_false_iff_ne]; exact hne3
  have hne5 : decide (e2 = e) = false := decide_eq_false hne3
  (refine wpAnyH_take (i := 37) (oi := _) (v := ?_) (ops_at rfl) (by kernel_rfl) (by kernel_rfl) (by kernel_rfl) (fun _ _ _ h => h) (Or.inl ⟨by rfl, ?_⟩) (by assumption) ?_; rotate_left; (focus (intro w hSw; (try dsimp only at hSw); go_simp; (try with_reducible rfl))); (try simp only [Act.put, List.setIfInBounds_toArray, List.set_cons_zero, List.set_cons_succ])); (refine wpAnyH_take (i := 38) (oi := _) (v := ?_) (ops_at rfl) (by kernel_rfl) (by kernel_rfl) (by kernel_rfl) (fun _ _ _ h => h) (Or.inl ⟨by rfl, ?_⟩) (by assumption) ?_; rotate_left; (focus (intro w hSw; (try dsimp only at hSw); go_simp; (try with_reducible rfl))); (try simp only [Act.put, List.setIfInBounds_toArray, List.set_cons_zero, List.set_cons_succ]))
  (refine wpAnyH_take (i := 39) (oi := _) (v := undef) (ops_at rfl) (by kernel_rfl) (by kernel_rfl) (by kernel_rfl) (fun _ _ _ h => h) (Or.inr ⟨by rfl, rfl⟩) (by assumption) ?_; (try simp only [Act.put, List.setIfInBounds_toArray, List.set_cons_zero, List.set_cons_succ])); (refine wpAnyH_take (i := 40) (oi := _) (v := undef) (ops_at rfl) (by kernel_rfl) (by kernel_rfl) (by kernel_rfl) (fun _ _ _ h => h) (Or.inr ⟨by rfl, rfl⟩) (by assumption) ?_; (try simp only [Act.put, List.setIfInBounds_toArray, List.set_cons_zero, List.set_cons_succ])); (refine wpAnyH_take (i := 41) (oi := _) (v := undef) (ops_at rfl) (by kernel_rfl) (by kernel_rfl) (by kernel_rfl) (fun _ _ _ h => h) (Or.inr ⟨by rfl, rfl⟩) (by assumption) ?_; (try simp only [Act.put, List.setIfInBounds_toArray, List.set_cons_zero, List.set_cons_succ])); (refine wpAnyH_take (i := 42) (oi := _) (v := undef) (ops_at rfl) (by kernel_rfl) (by kernel_rfl) (by kernel_rfl) (fun _ _ _ h => h) (Or.inr ⟨by rfl, rfl⟩) (by assumption) ?_; (try simp only [Act.put, List.setIfInBounds_toArray, List.set_cons_zero, List.set_cons_succ]))
  (refine wpAnyH_take (i := 43) (oi := _) (v := ?_) (ops_at rfl) (by kernel_rfl) (by kernel_rfl) (by kernel_rfl) (fun _ _ _ h => h) (Or.inl ⟨by rfl, ?_⟩) (by assumption) ?_; rotate_left; (focus (intro w hSw; (try dsimp only at hSw); go_simp; (try with_reducible rfl))); (try simp only [Act.put, List.setIfInBounds_toArray, List.set_cons_zero, List.set_cons_succ])); (refine wpAnyH_take (i := 44) (oi := _) (v := ?_) (ops_at rfl) (by kernel_rfl) (by kernel_rfl) (by kernel_rfl) (fun _ _ _ h => h) (Or.inl ⟨by rfl, ?_⟩) (by assumption) ?_; rotate_left; (focus (intro w hSw; (try dsimp only at hSw); go_simp; (try with_reducible rfl))); (try simp only [Act.put, List.setIfInBounds_toArray, List.set_cons_zero, List.set_cons_succ]))
  (refine wpAnyH_done (by kernel_rfl) ?_ _)
  clear hne hne2 hne3 hne4 hne5
  have HGd := Lib.hid HG.out.drew
  have HKd := Lib.hid HK.out.drew
  have HMd := Lib.hid HM.out.drew
  clear hHeld HG HK HM HKc HMD HS hp1 hp2 hd1 hd2 hwe
  have HRF := Lib.hid (readF_of nmC_ok AM.out)
  rw [HL.out, HSG.out] at HRF
  go_wp2_with fail
  refine (read_h HMd.out.fs nmC (by decide)).mono ?_
  rintro en w8 ⟨RA, rn, rc, rfl, hrn, hown, b8⟩
  rw [HRF.out] at hrn hown ⊢
  have hrn' : rn = 34 := by have : L.bytes.length = rn := hrn; rw [Lk.bytes_len] at this; exact this.symm
  subst hrn'
  have hcap := hown.cap
  have HRA := Lib.hid (own_bs (l := L.bytes) hown (Lk.bytes_by _) (by omega))
  have HM8 := Lib.hid (HMd.out.below b8)
  have HG8 := Lib.hid (HGd.out.below b8)
  have HK8 := Lib.hid (HKd.out.below b8)
  clear hrn hown b8 HMd HGd HKd
  go_wp2_with fail
  refine (ropenlock_any RA 34 rc L.bytes _ HRA.out hcap (by omega)).mono ?_
  rintro en w9 ⟨rfl, b9⟩
  have hao := AO.out
  rw [HL.out] at hao
  rw [hao]
  have HM9 := Lib.hid (HM8.out.below b9)
  have HG9 := Lib.hid (HG8.out.below b9)
  have HK9 := Lib.hid (HK8.out.below b9)
  have hkl := HK9.out.lt
  clear b9 HM8 HG8 HK8 HRA hao
  simp only [Option.getD_some, Option.isSome_some]
  unfold lkV
  have hLw : L.who = j := by rw [← HL.out]; exact AW.out.1
  have hLe : L.epoch = e2 := by rw [← HL.out]; exact HEP.out
  rw [hLw, hLe]
  have r0 : w9.cell? ⟨k2, 0, none⟩ = some (.int .i64 j) := HK9.out.cell 0
  have r1 : w9.cell? ⟨k2, 1, none⟩ = some (.int .i64 L.inc) := HK9.out.cell 1
  have r2 : w9.cell? ⟨k2, 2, none⟩ = some (.int .i64 e2) := HK9.out.cell 2
  have r3 : w9.cell? ⟨k2, 3, none⟩ = some (.int .i64 L.till) := HK9.out.cell 3
  go_upto_region 35 with fail
  refine at_world (fun W => Blk W g2 26 [.string nmC, .int .i64 sg] ∧ Blk W k2 28 [.int .i64 j, .int .i64 L.inc, .int .i64 e2, .int .i64 L.till] ∧ OneAt w0 W fb mb ab S' (hset h j { h j with t := some (tb, tk') }) (2 * i + 1)) ⟨HG9.out.alloc _, HK9.out.alloc _, HM9.out.alloc⟩ ?_
  clear HG9 HK9 HM9 r0 r1 r2 r3 hkl
  rintro V ⟨k1, k2', k3⟩
  have HG := Lib.hid k1
  have HK := Lib.hid k2'
  have HM := Lib.hid k3
  have hng : g2 ≠ ab := Blk.diff k1 k3.all.blk (by decide)
  have hnk : k2 ≠ ab := Blk.diff k2' k3.all.blk (by decide)
  have KC := Lib.hid (fun (w' : World) (p1 : Blk w' g2 26 [.string nmC, .int .i64 sg]) (p2 : Blk w' k2 28 [.int .i64 j, .int .i64 L.inc, .int .i64 e2, .int .i64 L.till]) => (show w'.cell? ⟨g2, 0, none⟩ = some (.string nmC) ∧ w'.cell? ⟨g2, 1, none⟩ = some (.int .i64 sg) ∧ w'.cell? ⟨k2, 0, none⟩ = some (.int .i64 j) ∧ w'.cell? ⟨k2, 1, none⟩ = some (.int .i64 L.inc) ∧ w'.cell? ⟨k2, 2, none⟩ = some (.int .i64 e2) ∧ w'.cell? ⟨k2, 3, none⟩ = some (.int .i64 L.till) from ⟨p1.cell 0, p1.cell 1, p2.cell 0, p2.cell 1, p2.cell 2, p2.cell 3⟩))
  have d3 : V.cell? ⟨ab, j * 10 + 3, none⟩ = some (.string (h j).gn) := k3.all.cell HJ.out (f := 3) (by decide) (by rw [hset_same]; rfl)
  have d4 : V.cell? ⟨ab, j * 10 + 4, none⟩ = some (.int .i64 (h j).gs) := k3.all.cell HJ.out (f := 4) (by decide) (by rw [hset_same]; rfl)
  have d5 : V.cell? ⟨ab, j * 10 + 5, none⟩ = some (.int .i64 (h j).l.who) := k3.all.cell HJ.out (f := 5) (by decide) (by rw [hset_same]; rfl)
  have d6 : V.cell? ⟨ab, j * 10 + 6, none⟩ = some (.int .i64 (h j).l.inc) := k3.all.cell HJ.out (f := 6) (by decide) (by rw [hset_same]; rfl)
  have d7 : V.cell? ⟨ab, j * 10 + 7, none⟩ = some (.int .i64 (h j).l.epoch) := k3.all.cell HJ.out (f := 7) (by decide) (by rw [hset_same]; rfl)
  have d8 : V.cell? ⟨ab, j * 10 + 8, none⟩ = some (.int .i64 (h j).l.till) := k3.all.cell HJ.out (f := 8) (by decide) (by rw [hset_same]; rfl)
  have d9 : V.cell? ⟨ab, j * 10 + 9, none⟩ = some (.bool (h j).held) := k3.all.cell HJ.out (f := 9) (by decide) (by rw [hset_same]; rfl)
  have z3 := k3.all.blk.frozen (j * 10 + 3)
  have z4 := k3.all.blk.frozen (j * 10 + 4)
  have z5 := k3.all.blk.frozen (j * 10 + 5)
  have z6 := k3.all.blk.frozen (j * 10 + 6)
  have z7 := k3.all.blk.frozen (j * 10 + 7)
  have z8 := k3.all.blk.frozen (j * 10 + 8)
  have z9 := k3.all.blk.frozen (j * 10 + 9)
  clear k1 k2' k3
  (refine wp_region_held_drew (S := fun w' => w'.cell? ⟨g2, 0, none⟩ = some (.string nmC) ∧ w'.cell? ⟨g2, 1, none⟩ = some (.int .i64 sg) ∧ w'.cell? ⟨k2, 0, none⟩ = some (.int .i64 j) ∧ w'.cell? ⟨k2, 1, none⟩ = some (.int .i64 L.inc) ∧ w'.cell? ⟨k2, 2, none⟩ = some (.int .i64 e2) ∧ w'.cell? ⟨k2, 3, none⟩ = some (.int .i64 L.till)) (by kernel_rfl) (KC.out _ HG.out.drew HK.out.drew) (fun hHeld => ?_))
  (refine wpAnyH_take (i := 0) (oi := _) (v := ?_) (ops_at rfl) (by kernel_rfl) (by kernel_rfl) (by kernel_rfl) (fun _ _ _ h => h) (Or.inl ⟨by rfl, ?_⟩) (by assumption) ?_; rotate_left; (focus (intro w hSw; (try dsimp only at hSw); go_simp; (try with_reducible rfl))); (try simp only [Act.put, List.setIfInBounds_toArray, List.set_cons_zero, List.set_cons_succ])); (refine wpAnyH_take (i := 1) (oi := _) (v := ?_) (ops_at rfl) (by kernel_rfl) (by kernel_rfl) (by kernel_rfl) (fun _ _ _ h => h) (Or.inl ⟨by rfl, ?_⟩) (by assumption) ?_; rotate_left; (focus (intro w hSw; (try dsimp only at hSw); go_simp; (try with_reducible rfl))); (try simp only [Act.put, List.setIfInBounds_toArray, List.set_cons_zero, List.set_cons_succ])); (refine wpAnyH_take (i := 2) (oi := _) (v := ?_) (ops_at rfl) (by kernel_rfl) (by kernel_rfl) (by kernel_rfl) (fun _ _ _ h => h) (Or.inl ⟨by rfl, ?_⟩) (by assumption) ?_; rotate_left; (focus (intro w hSw; (try dsimp only at hSw); go_simp; (try with_reducible rfl))); (try simp only [Act.put, List.setIfInBounds_toArray, List.set_cons_zero, List.set_cons_succ])); (refine wpAnyH_take (i := 3) (oi := _) (v := ?_) (ops_at rfl) (by kernel_rfl) (by kernel_rfl) (by kernel_rfl) (fun _ _ _ h => h) (Or.inl ⟨by rfl, ?_⟩) (by assumption) ?_; rotate_left; (focus (intro w hSw; (try dsimp only at hSw); go_simp; (try with_reducible rfl))); (try simp only [Act.put, List.setIfInBounds_toArray, List.set_cons_zero, List.set_cons_succ])); (refine wpAnyH_take (i := 4) (oi := _) (v := ?_) (ops_at rfl) (by kernel_rfl) (by kernel_rfl) (by kernel_rfl) (fun _ _ _ h => h) (Or.inl ⟨by rfl, ?_⟩) (by assumption) ?_; rotate_left; (focus (intro w hSw; (try dsimp only at hSw); go_simp; (try with_reducible rfl))); (try simp only [Act.put, List.setIfInBounds_toArray, List.set_cons_zero, List.set_cons_succ])); (refine wpAnyH_take (i := 5) (oi := _) (v := ?_) (ops_at rfl) (by kernel_rfl) (by kernel_rfl) (by kernel_rfl) (fun _ _ _ h => h) (Or.inl ⟨by rfl, ?_⟩) (by assumption) ?_; rotate_left; (focus (intro w hSw; (try dsimp only at hSw); go_simp; (try with_reducible rfl))); (try simp only [Act.put, List.setIfInBounds_toArray, List.set_cons_zero, List.set_cons_succ])); (refine wpAnyH_take (i := 6) (oi := _) (v := ?_) (ops_at rfl) (by kernel_rfl) (by kernel_rfl) (by kernel_rfl) (fun _ _ _ h => h) (Or.inl ⟨by rfl, ?_⟩) (by assumption) ?_; rotate_left; (focus (intro w hSw; (try dsimp only at hSw); go_simp; (try with_reducible rfl))); (try simp only [Act.put, List.setIfInBounds_toArray, List.set_cons_zero, List.set_cons_succ]))
  (refine wpAnyH_ready (rs := [7]) (by kernel_rfl) (by simp) (AllReadyH.cons (ops_at rfl) (fun K hK => ?_) AllReadyH.nil); go_simp; skip; refine hK.out _ _ (KC.out _ ((HG.out.far hng _).far hng _).drew ((HK.out.far hnk _).far hnk _).drew) (fun hHeld => ?_); clear hK K; (try simp only [Act.put, List.setIfInBounds_toArray, List.set_cons_zero, List.set_cons_succ]))
  (refine wpAnyH_take (i := 8) (oi := _) (v := ?_) (ops_at rfl) (by kernel_rfl) (by kernel_rfl) (by kernel_rfl) (fun _ _ _ h => h) (Or.inl ⟨by rfl, ?_⟩) (by assumption) ?_; rotate_left; (focus (intro w hSw; (try dsimp only at hSw); go_simp; (try with_reducible rfl))); (try simp only [Act.put, List.setIfInBounds_toArray, List.set_cons_zero, List.set_cons_succ])); (refine wpAnyH_take (i := 9) (oi := _) (v := ?_) (ops_at rfl) (by kernel_rfl) (by kernel_rfl) (by kernel_rfl) (fun _ _ _ h => h) (Or.inl ⟨by rfl, ?_⟩) (by assumption) ?_; rotate_left; (focus (intro w hSw; (try dsimp only at hSw); go_simp; (try with_reducible rfl))); (try simp only [Act.put, List.setIfInBounds_toArray, List.set_cons_zero, List.set_cons_succ]))
  (refine wpAnyH_ready (rs := [10]) (by kernel_rfl) (by simp) (AllReadyH.cons (ops_at rfl) (fun K hK => ?_) AllReadyH.nil); go_simp; skip; refine hK.out _ _ (KC.out _ ((((((HG.out.far hng _).far hng _).far hng _).far hng _).far hng _).far hng _).drew ((((((HK.out.far hnk _).far hnk _).far hnk _).far hnk _).far hnk _).far hnk _).drew) (fun hHeld => ?_); clear hK K; (try simp only [Act.put, List.setIfInBounds_toArray, List.set_cons_zero, List.set_cons_succ]))
  (refine wpAnyH_take (i := 11) (oi := _) (v := ?_) (ops_at rfl) (by kernel_rfl) (by kernel_rfl) (by kernel_rfl) (fun _ _ _ h => h) (Or.inl ⟨by rfl, ?_⟩) (by assumption) ?_; rotate_left; (focus (intro w hSw; (try dsimp only at hSw); go_simp; (try with_reducible rfl))); (try simp only [Act.put, List.setIfInBounds_toArray, List.set_cons_zero, List.set_cons_succ])); (refine wpAnyH_take (i := 12) (oi := _) (v := ?_) (ops_at rfl) (by kernel_rfl) (by kernel_rfl) (by kernel_rfl) (fun _ _ _ h => h) (Or.inl ⟨by rfl, ?_⟩) (by assumption) ?_; rotate_left; (focus (intro w hSw; (try dsimp only at hSw); go_simp; (try with_reducible rfl))); (try simp only [Act.put, List.setIfInBounds_toArray, List.set_cons_zero, List.set_cons_succ]))
  (refine wpAnyH_ready (rs := [13]) (by kernel_rfl) (by simp) (AllReadyH.cons (ops_at rfl) (fun K hK => ?_) AllReadyH.nil); go_simp; skip; refine hK.out _ _ (KC.out _ (((((((HG.out.far hng _).far hng _).far hng _).far hng _).far hng _).far hng _).far hng _).drew (((((((HK.out.far hnk _).far hnk _).far hnk _).far hnk _).far hnk _).far hnk _).far hnk _).drew) (fun hHeld => ?_); clear hK K; (try simp only [Act.put, List.setIfInBounds_toArray, List.set_cons_zero, List.set_cons_succ]))
  (refine wpAnyH_done (by kernel_rfl) ?_ _)
  clear hHeld
  have hL4 : (⟨j, L.inc, e2, L.till⟩ : Lk) = L := lk_ext hLw.symm rfl hLe.symm rfl
  have h7 := ((HM.out.gl HJ.out nmC sg ⟨j, L.inc, e2, L.till⟩).held HJ.out true).drew
  simp only [hset_hset, hset_same] at h7
  rw [hL4] at h7
  have H7 := Lib.hid h7
  clear h7 HM HG HK KC hng hnk d3 d4 d5 d6 d7 d8 d9 z3 z4 z5 z6 z7 z8 z9 hL4 hLw hLe
  go_upto_region 36 with fail
  refine at_world (fun W => OneAt w0 W fb mb ab S' (hset h j { h j with t := some (tb, tk'), gn := nmC, gs := sg, l := L, held := true }) (2 * i + 1)) H7.out ?_
  clear H7
  rintro W9 hm9
  have HM := Lib.hid hm9
  have c0 : W9.cell? ⟨ab, j * 10, none⟩ = some (.pointer (some ⟨tb, 0, none⟩)) := hm9.all.cell HJ.out (f := 0) (by decide) (by rw [hset_same]; rfl)
  have z0 := hm9.all.blk.frozen (j * 10)
  have hw1 : IntKind.i64.wrap ((i : Int) + 1) = ((i + 1 : Nat) : Int) := by have := HN.out; rw [IntKind.wrap_i64]; omega
  clear hm9
  go_wp2_with fail
  have h1 := HN.out
  have h2 := HE2.out
  have h3 := HM.out.noT HJ.out
  rw [hset_hset, hset_same] at h3
  have h4 := HII.out
  rw [AW.out.2, HSG.out, HL.out, ← h2] at h4
  exact ⟨⟨rfl, rfl, rfl, rfl, rfl, i + 1, n, e2, _, _, rfl, rfl, rfl, by omega, by omega, by omega, h4, h3.more (by omega) (by omega)⟩, by simp [oneMu, intOf]; omega⟩
end
end Go.Proofs.YtahdeighocmijaaGreatDoor
