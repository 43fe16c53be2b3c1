/- Locks: LockOne: the ways of a round, one by one (one who writes). -/
import Derived.Test.YtahdeighocmijaaGreatDoorLOne
namespace Go.Proofs.YtahdeighocmijaaGreatDoor
set_option linter.unusedSimpArgs false
set_option linter.unusedVariables false
open Go.RowKit
open Crc (Bytes)
section
variable {w0 wr : World} {ad : Addr} {ln lc fb mb ab i n e p j r : Nat} {t : Array Value} {h : Nat → Hd} {S S' : Fs} {x k : Int} {tb wb : Nat} {tk tk' : Tk} {wk wk' : Wk} {K : Act → World → Prop} {R : Ending → World → Prop}
set_option maxRecDepth 100000 in
set_option maxHeartbeats 4000000 in
theorem arm_write0 (H : Arm w0 ad ln lc fb mb ab t wr i n e h S x p j r) (hr15 : ¬ r = 15) (htn : (h j).t = none) (hwj : (h j).w = some (wb, wk)) (hp1 : wk.temp.size ≤ 1000) (hp2 : wk.gn.size ≤ 1000) (hp3 : wk.at_ = 2 ∨ wk.at_ = 3 ∨ wk.at_ = 4) (hst : stepW S wk = (0, wk', S')) (hI : OneI S' e (hset h j { h j with w := some (wb, wk') })) : Code.wp Tryz.prog oneBody (OneQ w0 ad ln lc fb mb ab t wr (Exit.inBlock 0 (Exit.then K (bodyPost Tryz.prog Tryz.f5 R)))) ⟨t, []⟩ wr := by
  have HI0 := H.I
  have HJ := Lib.hid H.hj
  have HO := Lib.hid H.I
  have HA := Lib.hid H.H
  have HN := Lib.hid (And.intro H.hn (And.intro H.he (And.intro H.hi H.hlen)))
  have HCX := Lib.hid H.hc
  have HR1 := Lib.hid H.hr1
  have hp := H.hp
  have hpj := H.hpj
  have hr := H.hr
  have hc := H.hc _ H.H.fs.bel
  have hlen := H.hlen
  have h300i : (i : Int) < 300 := by have := H.hi; omega
  have hleni : (i : Int) < (ln : Int) := by have := H.hlen; omega
  have hj0 : (0 : Int) ≤ (j : Int) := by omega
  have hj3 : (j : Int) < 3 := by have := H.hj; omega
  have HMU := Lib.hid (show oneMu ⟨t, []⟩ wr = 301 - i by unfold oneMu; rw [H.s7]; simp [intOf])
  unfold OneQ
  rw [HMU.out]
  obtain ⟨v, rfl⟩ := frameOne t H.sz _ _ _ _ _ _ H.s0 H.s3 H.s4 H.s5 H.s6 H.s7
  clear H HI0 HMU
  conv => arg 2; whnf
  go_upto_region 11 with fail
  rw [hpj]
  clear hpj hp h300i hleni hj0 hj3
  have h15i : ((r : Int) == 15) = false := by rw [beq_eq_false_iff_ne]; omega
  clear hr15
  have HWJ := Lib.hid hwj
  have HPP := Lib.hid (And.intro hp1 (And.intro hp2 hp3))
  have HST := Lib.hid hst
  have HW := Lib.hid (HA.out.all.w j HJ.out _ hwj)
  have c0 : wr.cell? ⟨ab, j * 10, none⟩ = some (.pointer none) := HA.out.all.cell HJ.out (f := 0) (by decide) (by unfold Hd.cells; rw [htn]; rfl)
  have c1 : wr.cell? ⟨ab, j * 10 + 1, none⟩ = some (.pointer (some ⟨wb, 0, none⟩)) := HA.out.all.cell HJ.out (f := 1) (by decide) (by unfold Hd.cells; rw [hwj]; rfl)
  clear hwj hp1 hp2 hp3 hst htn
  have HII := Lib.hid hI
  clear hI
  go_wp2_with fail
  refine (stamp_h HA.out.fs nmC (by decide)).mono ?_
  rintro en w2 ⟨rfl, rfl⟩
  clear hr h15i hc
  go_wp2_with fail
  refine (wstep_any HA.out.fs HW.out.1 HW.out.2 HPP.out.1 HPP.out.2.1 (by have := HN.out; omega) HPP.out.2.2).mono ?_
  rintro en w2 hdd
  have hm := HA.out.wrote HO.out HJ.out HWJ.out hdd
  rw [HST.out] at hdd hm
  obtain rfl := hdd.ret
  have HX := Lib.hid hdd.x
  have HM := Lib.hid hm
  clear hdd hm HA HW HPP HST c0 c1
  have hw1 : IntKind.i64.wrap ((i : Int) + 1) = ((i + 1 : Nat) : Int) := by have := HN.out; rw [IntKind.wrap_i64]; omega
  go_wp2_with fail
  have h1 := HN.out
  exact ⟨⟨rfl, rfl, rfl, rfl, rfl, i + 1, n, e, _, _, rfl, rfl, rfl, by omega, by omega, by omega, HII.out, HM.out.more (by omega) (by omega)⟩, by simp [oneMu, intOf]; omega⟩
set_option maxRecDepth 100000 in
set_option maxHeartbeats 4000000 in
theorem arm_write2 (H : Arm w0 ad ln lc fb mb ab t wr i n e h S x p j r) (hr15 : ¬ r = 15) (htn : (h j).t = none) (hwj : (h j).w = some (wb, wk)) (hp1 : wk.temp.size ≤ 1000) (hp2 : wk.gn.size ≤ 1000) (hp3 : wk.at_ = 2 ∨ wk.at_ = 3 ∨ wk.at_ = 4) (hst : stepW S wk = (2, wk', S')) (a5 : wk'.at_ = 5) (a1 : wk'.told = 2) (hI : OneI S' e (hset h j { h j with w := none, held := false })) : Code.wp Tryz.prog oneBody (OneQ w0 ad ln lc fb mb ab t wr (Exit.inBlock 0 (Exit.then K (bodyPost Tryz.prog Tryz.f5 R)))) ⟨t, []⟩ wr := by
  have HI0 := H.I
  have HJ := Lib.hid H.hj
  have HO := Lib.hid H.I
  have HA := Lib.hid H.H
  have HN := Lib.hid (And.intro H.hn (And.intro H.he (And.intro H.hi H.hlen)))
  have HCX := Lib.hid H.hc
  have HR1 := Lib.hid H.hr1
  have hp := H.hp
  have hpj := H.hpj
  have hr := H.hr
  have hc := H.hc _ H.H.fs.bel
  have hlen := H.hlen
  have h300i : (i : Int) < 300 := by have := H.hi; omega
  have hleni : (i : Int) < (ln : Int) := by have := H.hlen; omega
  have hj0 : (0 : Int) ≤ (j : Int) := by omega
  have hj3 : (j : Int) < 3 := by have := H.hj; omega
  have HMU := Lib.hid (show oneMu ⟨t, []⟩ wr = 301 - i by unfold oneMu; rw [H.s7]; simp [intOf])
  unfold OneQ
  rw [HMU.out]
  obtain ⟨v, rfl⟩ := frameOne t H.sz _ _ _ _ _ _ H.s0 H.s3 H.s4 H.s5 H.s6 H.s7
  clear H HI0 HMU
  conv => arg 2; whnf
  go_upto_region 11 with fail
  rw [hpj]
  clear hpj hp h300i hleni hj0 hj3
  have h15i : ((r : Int) == 15) = false := by rw [beq_eq_false_iff_ne]; omega
  clear hr15
  have HWJ := Lib.hid hwj
  have HPP := Lib.hid (And.intro hp1 (And.intro hp2 hp3))
  have HST := Lib.hid hst
  have HW := Lib.hid (HA.out.all.w j HJ.out _ hwj)
  have c0 : wr.cell? ⟨ab, j * 10, none⟩ = some (.pointer none) := HA.out.all.cell HJ.out (f := 0) (by decide) (by unfold Hd.cells; rw [htn]; rfl)
  have c1 : wr.cell? ⟨ab, j * 10 + 1, none⟩ = some (.pointer (some ⟨wb, 0, none⟩)) := HA.out.all.cell HJ.out (f := 1) (by decide) (by unfold Hd.cells; rw [hwj]; rfl)
  clear hwj hp1 hp2 hp3 hst htn
  have HII := Lib.hid hI
  have A5 := Lib.hid (And.intro a5 a1)
  clear hI a5 a1
  go_wp2_with fail
  refine (stamp_h HA.out.fs nmC (by decide)).mono ?_
  rintro en w2 ⟨rfl, rfl⟩
  clear hr h15i hc
  go_wp2_with fail
  refine (wstep_any HA.out.fs HW.out.1 HW.out.2 HPP.out.1 HPP.out.2.1 (by have := HN.out; omega) HPP.out.2.2).mono ?_
  rintro en w2 hdd
  have hm := HA.out.wrote HO.out HJ.out HWJ.out hdd
  rw [HST.out] at hdd hm
  obtain rfl := hdd.ret
  have HX := Lib.hid hdd.x
  have HM := Lib.hid hm
  clear hdd hm HA HW HPP HST c0 c1
  have c1 : w2.cell? ⟨ab, j * 10 + 1, none⟩ = some (.pointer (some ⟨wb, 0, none⟩)) := HM.out.all.cell HJ.out (f := 1) (by decide) (by rw [hset_same]; rfl)
  have d4 : w2.cell? ⟨ab, j * 10 + 4, none⟩ = some (.int .i64 (h j).gs) := HM.out.all.cell HJ.out (f := 4) (by decide) (by rw [hset_same]; rfl)
  go_wp2_with fail
  refine (wgot_none HX.out A5.out.1 (.inr (by rw [A5.out.2]; decide))).mono ?_
  rintro en w3 ⟨rfl, b3⟩
  have HM3 := Lib.hid (((HM.out.below b3).alloc (o := Obj.cells #[.string ⟨#[]⟩, .int .i64 0] 26)).alloc (o := Obj.cells #[.int .i64 0, .int .i64 0, .int .i64 0, .int .i64 0] 28))
  unfold noneV lkV lk0
  clear b3 HM HX c1 d4
  go_upto_region 44 with fail
  refine at_world (fun W => OneAt w0 W fb mb ab S' (hset h j { h j with w := some (wb, wk') }) (2 * i + 1)) HM3.out ?_
  clear HM3
  rintro V hm3
  have HM := Lib.hid hm3
  have HKc := Lib.hid (show V.drew.cell? ⟨ab, j * 10 + 2, none⟩ = some (.bool (h j).free) from hm3.drew.all.cell HJ.out (f := 2) (by decide) (by rw [hset_same]; rfl))
  clear hm3
  (refine wp_region_held_drew (S := fun _ => True) (by kernel_rfl) (trivial) (fun hHeld => ?_))
  (refine wpAnyH_take (i := 0) (oi := _) (v := ?_) (ops_at rfl) (by kernel_rfl) (by kernel_rfl) (by kernel_rfl) (fun _ _ _ h => h) (Or.inl ⟨by rfl, ?_⟩) (by assumption) ?_; rotate_left; (focus (intro w hSw; (try dsimp only at hSw); go_simp; (try with_reducible rfl))); (try simp only [Act.put, List.setIfInBounds_toArray, List.set_cons_zero, List.set_cons_succ])); (refine wpAnyH_take (i := 1) (oi := _) (v := ?_) (ops_at rfl) (by kernel_rfl) (by kernel_rfl) (by kernel_rfl) (fun _ _ _ h => h) (Or.inl ⟨by rfl, ?_⟩) (by assumption) ?_; rotate_left; (focus (intro w hSw; (try dsimp only at hSw); go_simp; (try with_reducible rfl))); (try simp only [Act.put, List.setIfInBounds_toArray, List.set_cons_zero, List.set_cons_succ])); (refine wpAnyH_take (i := 2) (oi := _) (v := ?_) (ops_at rfl) (by kernel_rfl) (by kernel_rfl) (by kernel_rfl) (fun _ _ _ h => h) (Or.inl ⟨by rfl, ?_⟩) (by assumption) ?_; rotate_left; (focus (intro w hSw; (try dsimp only at hSw); go_simp; (try with_reducible rfl))); (try simp only [Act.put, List.setIfInBounds_toArray, List.set_cons_zero, List.set_cons_succ])); (refine wpAnyH_take (i := 3) (oi := _) (v := ?_) (ops_at rfl) (by kernel_rfl) (by kernel_rfl) (by kernel_rfl) (fun _ _ _ h => h) (Or.inl ⟨by rfl, ?_⟩) (by assumption) ?_; rotate_left; (focus (intro w hSw; (try dsimp only at hSw); go_simp; (try with_reducible rfl))); (try simp only [Act.put, List.setIfInBounds_toArray, List.set_cons_zero, List.set_cons_succ]))
  (refine wpAnyH_take (i := 4) (oi := _) (v := undef) (ops_at rfl) (by kernel_rfl) (by kernel_rfl) (by kernel_rfl) (fun _ _ _ h => h) (Or.inr ⟨by rfl, rfl⟩) (by assumption) ?_; (try simp only [Act.put, List.setIfInBounds_toArray, List.set_cons_zero, List.set_cons_succ])); (refine wpAnyH_take (i := 5) (oi := _) (v := undef) (ops_at rfl) (by kernel_rfl) (by kernel_rfl) (by kernel_rfl) (fun _ _ _ h => h) (Or.inr ⟨by rfl, rfl⟩) (by assumption) ?_; (try simp only [Act.put, List.setIfInBounds_toArray, List.set_cons_zero, List.set_cons_succ])); (refine wpAnyH_take (i := 6) (oi := _) (v := undef) (ops_at rfl) (by kernel_rfl) (by kernel_rfl) (by kernel_rfl) (fun _ _ _ h => h) (Or.inr ⟨by rfl, rfl⟩) (by assumption) ?_; (try simp only [Act.put, List.setIfInBounds_toArray, List.set_cons_zero, List.set_cons_succ])); (refine wpAnyH_take (i := 7) (oi := _) (v := undef) (ops_at rfl) (by kernel_rfl) (by kernel_rfl) (by kernel_rfl) (fun _ _ _ h => h) (Or.inr ⟨by rfl, rfl⟩) (by assumption) ?_; (try simp only [Act.put, List.setIfInBounds_toArray, List.set_cons_zero, List.set_cons_succ])); (refine wpAnyH_take (i := 8) (oi := _) (v := undef) (ops_at rfl) (by kernel_rfl) (by kernel_rfl) (by kernel_rfl) (fun _ _ _ h => h) (Or.inr ⟨by rfl, rfl⟩) (by assumption) ?_; (try simp only [Act.put, List.setIfInBounds_toArray, List.set_cons_zero, List.set_cons_succ]))
  (refine wpAnyH_take (i := 9) (oi := _) (v := ?_) (ops_at rfl) (by kernel_rfl) (by kernel_rfl) (by kernel_rfl) (fun _ _ _ h => h) (Or.inl ⟨by rfl, ?_⟩) (by assumption) ?_; rotate_left; (focus (intro w hSw; (try dsimp only at hSw); go_simp; (try with_reducible rfl))); (try simp only [Act.put, List.setIfInBounds_toArray, List.set_cons_zero, List.set_cons_succ])); (refine wpAnyH_take (i := 10) (oi := _) (v := ?_) (ops_at rfl) (by kernel_rfl) (by kernel_rfl) (by kernel_rfl) (fun _ _ _ h => h) (Or.inl ⟨by rfl, ?_⟩) (by assumption) ?_; rotate_left; (focus (intro w hSw; (try dsimp only at hSw); go_simp; (try with_reducible rfl))); (try simp only [Act.put, List.setIfInBounds_toArray, List.set_cons_zero, List.set_cons_succ])); (refine wpAnyH_take (i := 11) (oi := _) (v := ?_) (ops_at rfl) (by kernel_rfl) (by kernel_rfl) (by kernel_rfl) (fun _ _ _ h => h) (Or.inl ⟨by rfl, ?_⟩) (by assumption) ?_; rotate_left; (focus (intro w hSw; (try dsimp only at hSw); go_simp; (try with_reducible rfl))); (try simp only [Act.put, List.setIfInBounds_toArray, List.set_cons_zero, List.set_cons_succ])); (refine wpAnyH_take (i := 12) (oi := _) (v := ?_) (ops_at rfl) (by kernel_rfl) (by kernel_rfl) (by kernel_rfl) (fun _ _ _ h => h) (Or.inl ⟨by rfl, ?_⟩) (by assumption) ?_; rotate_left; (focus (intro w hSw; (try dsimp only at hSw); go_simp; (try with_reducible rfl))); (try simp only [Act.put, List.setIfInBounds_toArray, List.set_cons_zero, List.set_cons_succ])); (refine wpAnyH_take (i := 13) (oi := _) (v := ?_) (ops_at rfl) (by kernel_rfl) (by kernel_rfl) (by kernel_rfl) (fun _ _ _ h => h) (Or.inl ⟨by rfl, ?_⟩) (by assumption) ?_; rotate_left; (focus (intro w hSw; (try dsimp only at hSw); go_simp; (try with_reducible rfl))); (try simp only [Act.put, List.setIfInBounds_toArray, List.set_cons_zero, List.set_cons_succ]))
  (refine wpAnyH_take (i := 14) (oi := _) (v := undef) (ops_at rfl) (by kernel_rfl) (by kernel_rfl) (by kernel_rfl) (fun _ _ _ h => h) (Or.inr ⟨by rfl, rfl⟩) (by assumption) ?_; (try simp only [Act.put, List.setIfInBounds_toArray, List.set_cons_zero, List.set_cons_succ])); (refine wpAnyH_take (i := 15) (oi := _) (v := undef) (ops_at rfl) (by kernel_rfl) (by kernel_rfl) (by kernel_rfl) (fun _ _ _ h => h) (Or.inr ⟨by rfl, rfl⟩) (by assumption) ?_; (try simp only [Act.put, List.setIfInBounds_toArray, List.set_cons_zero, List.set_cons_succ])); (refine wpAnyH_take (i := 16) (oi := _) (v := undef) (ops_at rfl) (by kernel_rfl) (by kernel_rfl) (by kernel_rfl) (fun _ _ _ h => h) (Or.inr ⟨by rfl, rfl⟩) (by assumption) ?_; (try simp only [Act.put, List.setIfInBounds_toArray, List.set_cons_zero, List.set_cons_succ])); (refine wpAnyH_take (i := 17) (oi := _) (v := undef) (ops_at rfl) (by kernel_rfl) (by kernel_rfl) (by kernel_rfl) (fun _ _ _ h => h) (Or.inr ⟨by rfl, rfl⟩) (by assumption) ?_; (try simp only [Act.put, List.setIfInBounds_toArray, List.set_cons_zero, List.set_cons_succ])); (refine wpAnyH_take (i := 18) (oi := _) (v := undef) (ops_at rfl) (by kernel_rfl) (by kernel_rfl) (by kernel_rfl) (fun _ _ _ h => h) (Or.inr ⟨by rfl, rfl⟩) (by assumption) ?_; (try simp only [Act.put, List.setIfInBounds_toArray, List.set_cons_zero, List.set_cons_succ])); (refine wpAnyH_take (i := 19) (oi := _) (v := undef) (ops_at rfl) (by kernel_rfl) (by kernel_rfl) (by kernel_rfl) (fun _ _ _ h => h) (Or.inr ⟨by rfl, rfl⟩) (by assumption) ?_; (try simp only [Act.put, List.setIfInBounds_toArray, List.set_cons_zero, List.set_cons_succ])); (refine wpAnyH_take (i := 20) (oi := _) (v := undef) (ops_at rfl) (by kernel_rfl) (by kernel_rfl) (by kernel_rfl) (fun _ _ _ h => h) (Or.inr ⟨by rfl, rfl⟩) (by assumption) ?_; (try simp only [Act.put, List.setIfInBounds_toArray, List.set_cons_zero, List.set_cons_succ])); (refine wpAnyH_take (i := 21) (oi := _) (v := undef) (ops_at rfl) (by kernel_rfl) (by kernel_rfl) (by kernel_rfl) (fun _ _ _ h => h) (Or.inr ⟨by rfl, rfl⟩) (by assumption) ?_; (try simp only [Act.put, List.setIfInBounds_toArray, List.set_cons_zero, List.set_cons_succ])); (refine wpAnyH_take (i := 22) (oi := _) (v := undef) (ops_at rfl) (by kernel_rfl) (by kernel_rfl) (by kernel_rfl) (fun _ _ _ h => h) (Or.inr ⟨by rfl, rfl⟩) (by assumption) ?_; (try simp only [Act.put, List.setIfInBounds_toArray, List.set_cons_zero, List.set_cons_succ])); (refine wpAnyH_take (i := 23) (oi := _) (v := undef) (ops_at rfl) (by kernel_rfl) (by kernel_rfl) (by kernel_rfl) (fun _ _ _ h => h) (Or.inr ⟨by rfl, rfl⟩) (by assumption) ?_; (try simp only [Act.put, List.setIfInBounds_toArray, List.set_cons_zero, List.set_cons_succ])); (refine wpAnyH_take (i := 24) (oi := _) (v := undef) (ops_at rfl) (by kernel_rfl) (by kernel_rfl) (by kernel_rfl) (fun _ _ _ h => h) (Or.inr ⟨by rfl, rfl⟩) (by assumption) ?_; (try simp only [Act.put, List.setIfInBounds_toArray, List.set_cons_zero, List.set_cons_succ])); (refine wpAnyH_take (i := 25) (oi := _) (v := undef) (ops_at rfl) (by kernel_rfl) (by kernel_rfl) (by kernel_rfl) (fun _ _ _ h => h) (Or.inr ⟨by rfl, rfl⟩) (by assumption) ?_; (try simp only [Act.put, List.setIfInBounds_toArray, List.set_cons_zero, List.set_cons_succ])); (refine wpAnyH_take (i := 26) (oi := _) (v := undef) (ops_at rfl) (by kernel_rfl) (by kernel_rfl) (by kernel_rfl) (fun _ _ _ h => h) (Or.inr ⟨by rfl, rfl⟩) (by assumption) ?_; (try simp only [Act.put, List.setIfInBounds_toArray, List.set_cons_zero, List.set_cons_succ])); (refine wpAnyH_take (i := 27) (oi := _) (v := undef) (ops_at rfl) (by kernel_rfl) (by kernel_rfl) (by kernel_rfl) (fun _ _ _ h => h) (Or.inr ⟨by rfl, rfl⟩) (by assumption) ?_; (try simp only [Act.put, List.setIfInBounds_toArray, List.set_cons_zero, List.set_cons_succ])); (refine wpAnyH_take (i := 28) (oi := _) (v := undef) (ops_at rfl) (by kernel_rfl) (by kernel_rfl) (by kernel_rfl) (fun _ _ _ h => h) (Or.inr ⟨by rfl, rfl⟩) (by assumption) ?_; (try simp only [Act.put, List.setIfInBounds_toArray, List.set_cons_zero, List.set_cons_succ]))
  (refine wpAnyH_take (i := 29) (oi := _) (v := ?_) (ops_at rfl) (by kernel_rfl) (by kernel_rfl) (by kernel_rfl) (fun _ _ _ h => h) (Or.inl ⟨by rfl, ?_⟩) (by assumption) ?_; rotate_left; (focus (intro w hSw; (try dsimp only at hSw); go_simp; (try with_reducible rfl))); (try simp only [Act.put, List.setIfInBounds_toArray, List.set_cons_zero, List.set_cons_succ])); (refine wpAnyH_take (i := 30) (oi := _) (v := ?_) (ops_at rfl) (by kernel_rfl) (by kernel_rfl) (by kernel_rfl) (fun _ _ _ h => h) (Or.inl ⟨by rfl, ?_⟩) (by assumption) ?_; rotate_left; (focus (intro w hSw; (try dsimp only at hSw); go_simp; (try with_reducible rfl))); (try simp only [Act.put, List.setIfInBounds_toArray, List.set_cons_zero, List.set_cons_succ]))
  (refine wpAnyH_done (by kernel_rfl) ?_ _)
  clear hHeld
  have HMd := Lib.hid HM.out.drew
  clear HM HKc
  go_upto_region 46 with fail
  refine at_world (fun W => OneAt w0 W fb mb ab S' (hset h j { h j with w := some (wb, wk') }) (2 * i + 1)) HMd.out ?_
  clear HMd
  rintro V2 hm3
  have HM := Lib.hid hm3
  have d1 : V2.cell? ⟨ab, j * 10 + 1, none⟩ = some (.pointer (some ⟨wb, 0, none⟩)) := hm3.all.cell HJ.out (f := 1) (by decide) (by rw [hset_same]; rfl)
  have d9 : V2.cell? ⟨ab, j * 10 + 9, none⟩ = some (.bool (h j).held) := hm3.all.cell HJ.out (f := 9) (by decide) (by rw [hset_same]; rfl)
  have z1 := hm3.all.blk.frozen (j * 10 + 1)
  have z9 := hm3.all.blk.frozen (j * 10 + 9)
  clear hm3
  have hw1 : IntKind.i64.wrap ((i : Int) + 1) = ((i + 1 : Nat) : Int) := by have := HN.out; rw [IntKind.wrap_i64]; omega
  go_wp2_with fail
  have h1 := HN.out
  have h3 := (HM.out.held HJ.out false).noW HJ.out
  simp only [hset_hset, hset_same] at h3
  exact ⟨⟨rfl, rfl, rfl, rfl, rfl, i + 1, n, e, _, _, rfl, rfl, rfl, by omega, by omega, by omega, HII.out, h3.more (by omega) (by omega)⟩, by simp [oneMu, intOf]; omega⟩
set_option maxRecDepth 100000 in
set_option maxHeartbeats 4000000 in
theorem arm_write1f (H : Arm w0 ad ln lc fb mb ab t wr i n e h S x p j r) (hr15 : ¬ r = 15) (htn : (h j).t = none) (hwj : (h j).w = some (wb, wk)) (hp1 : wk.temp.size ≤ 1000) (hp2 : wk.gn.size ≤ 1000) (hp3 : wk.at_ = 2 ∨ wk.at_ = 3 ∨ wk.at_ = 4) (hst : stepW S wk = (1, wk', S')) (hsg : S.st nmC = (h j).gs) (a5 : wk'.at_ = 5) (af : wk'.free = (h j).free) (hfr : (h j).free = true) (hI : OneI S' e (hset h j { h j with w := none, held := false })) : Code.wp Tryz.prog oneBody (OneQ w0 ad ln lc fb mb ab t wr (Exit.inBlock 0 (Exit.then K (bodyPost Tryz.prog Tryz.f5 R)))) ⟨t, []⟩ wr := by
  have HI0 := H.I
  have HJ := Lib.hid H.hj
  have HO := Lib.hid H.I
  have HA := Lib.hid H.H
  have HN := Lib.hid (And.intro H.hn (And.intro H.he (And.intro H.hi H.hlen)))
  have HCX := Lib.hid H.hc
  have HR1 := Lib.hid H.hr1
  have hp := H.hp
  have hpj := H.hpj
  have hr := H.hr
  have hc := H.hc _ H.H.fs.bel
  have hlen := H.hlen
  have h300i : (i : Int) < 300 := by have := H.hi; omega
  have hleni : (i : Int) < (ln : Int) := by have := H.hlen; omega
  have hj0 : (0 : Int) ≤ (j : Int) := by omega
  have hj3 : (j : Int) < 3 := by have := H.hj; omega
  have HMU := Lib.hid (show oneMu ⟨t, []⟩ wr = 301 - i by unfold oneMu; rw [H.s7]; simp [intOf])
  unfold OneQ
  rw [HMU.out]
  obtain ⟨v, rfl⟩ := frameOne t H.sz _ _ _ _ _ _ H.s0 H.s3 H.s4 H.s5 H.s6 H.s7
  clear H HI0 HMU
  conv => arg 2; whnf
  go_upto_region 11 with fail
  rw [hpj]
  clear hpj hp h300i hleni hj0 hj3
  have h15i : ((r : Int) == 15) = false := by rw [beq_eq_false_iff_ne]; omega
  clear hr15
  have HWJ := Lib.hid hwj
  have HPP := Lib.hid (And.intro hp1 (And.intro hp2 hp3))
  have HST := Lib.hid hst
  have HW := Lib.hid (HA.out.all.w j HJ.out _ hwj)
  have c0 : wr.cell? ⟨ab, j * 10, none⟩ = some (.pointer none) := HA.out.all.cell HJ.out (f := 0) (by decide) (by unfold Hd.cells; rw [htn]; rfl)
  have c1 : wr.cell? ⟨ab, j * 10 + 1, none⟩ = some (.pointer (some ⟨wb, 0, none⟩)) := HA.out.all.cell HJ.out (f := 1) (by decide) (by unfold Hd.cells; rw [hwj]; rfl)
  clear hwj hp1 hp2 hp3 hst htn
  have HII := Lib.hid hI
  have A5 := Lib.hid (And.intro a5 (And.intro af hfr))
  have HSG := Lib.hid hsg
  clear hI a5 af hfr hsg
  go_wp2_with fail
  refine (stamp_h HA.out.fs nmC (by decide)).mono ?_
  rintro en w2 ⟨rfl, rfl⟩
  clear hr h15i hc
  go_wp2_with fail
  refine (wstep_any HA.out.fs HW.out.1 HW.out.2 HPP.out.1 HPP.out.2.1 (by have := HN.out; omega) HPP.out.2.2).mono ?_
  rintro en w2 hdd
  have hm := HA.out.wrote HO.out HJ.out HWJ.out hdd
  rw [HST.out] at hdd hm
  obtain rfl := hdd.ret
  have HX := Lib.hid hdd.x
  have HM := Lib.hid hm
  clear hdd hm HA HW HPP HST c0 c1
  have c1 : w2.cell? ⟨ab, j * 10 + 1, none⟩ = some (.pointer (some ⟨wb, 0, none⟩)) := HM.out.all.cell HJ.out (f := 1) (by decide) (by rw [hset_same]; rfl)
  have d4 : w2.cell? ⟨ab, j * 10 + 4, none⟩ = some (.int .i64 (h j).gs) := HM.out.all.cell HJ.out (f := 4) (by decide) (by rw [hset_same]; rfl)
  have hsb : (S.st nmC == (h j).gs) = true := by rw [beq_iff_eq]; exact HSG.out
  have hse : S.st nmC = (h j).gs := HSG.out
  go_wp2_with fail
  refine (wgot_none HX.out A5.out.1 (.inl (A5.out.2.1.trans A5.out.2.2))).mono ?_
  rintro en w3 ⟨rfl, b3⟩
  have HM3 := Lib.hid (((HM.out.below b3).alloc (o := Obj.cells #[.string ⟨#[]⟩, .int .i64 0] 26)).alloc (o := Obj.cells #[.int .i64 0, .int .i64 0, .int .i64 0, .int .i64 0] 28))
  unfold noneV lkV lk0
  clear b3 HM HX c1 d4
  go_upto_region 44 with fail
  refine at_world (fun W => OneAt w0 W fb mb ab S' (hset h j { h j with w := some (wb, wk') }) (2 * i + 1)) HM3.out ?_
  clear HM3
  rintro V hm3
  have HM := Lib.hid hm3
  have HKc := Lib.hid (show V.drew.cell? ⟨ab, j * 10 + 2, none⟩ = some (.bool (h j).free) from hm3.drew.all.cell HJ.out (f := 2) (by decide) (by rw [hset_same]; rfl))
  clear hm3
  rw [A5.out.2.2] at HKc
  (refine wp_region_held_drew (S := fun w' => w'.cell? ⟨ab, j * 10 + 2, none⟩ = some (.bool true)) (by kernel_rfl) (HKc.out) (fun hHeld => ?_))
  (refine wpAnyH_take (i := 0) (oi := _) (v := ?_) (ops_at rfl) (by kernel_rfl) (by kernel_rfl) (by kernel_rfl) (fun _ _ _ h => h) (Or.inl ⟨by rfl, ?_⟩) (by assumption) ?_; rotate_left; (focus (intro w hSw; (try dsimp only at hSw); go_simp; (try with_reducible rfl))); (try simp only [Act.put, List.setIfInBounds_toArray, List.set_cons_zero, List.set_cons_succ])); (refine wpAnyH_take (i := 1) (oi := _) (v := ?_) (ops_at rfl) (by kernel_rfl) (by kernel_rfl) (by kernel_rfl) (fun _ _ _ h => h) (Or.inl ⟨by rfl, ?_⟩) (by assumption) ?_; rotate_left; (focus (intro w hSw; (try dsimp only at hSw); go_simp; (try with_reducible rfl))); (try simp only [Act.put, List.setIfInBounds_toArray, List.set_cons_zero, List.set_cons_succ])); (refine wpAnyH_take (i := 2) (oi := _) (v := ?_) (ops_at rfl) (by kernel_rfl) (by kernel_rfl) (by kernel_rfl) (fun _ _ _ h => h) (Or.inl ⟨by rfl, ?_⟩) (by assumption) ?_; rotate_left; (focus (intro w hSw; (try dsimp only at hSw); go_simp; (try with_reducible rfl))); (try simp only [Act.put, List.setIfInBounds_toArray, List.set_cons_zero, List.set_cons_succ])); (refine wpAnyH_take (i := 3) (oi := _) (v := ?_) (ops_at rfl) (by kernel_rfl) (by kernel_rfl) (by kernel_rfl) (fun _ _ _ h => h) (Or.inl ⟨by rfl, ?_⟩) (by assumption) ?_; rotate_left; (focus (intro w hSw; (try dsimp only at hSw); go_simp; (try with_reducible rfl))); (try simp only [Act.put, List.setIfInBounds_toArray, List.set_cons_zero, List.set_cons_succ])); (refine wpAnyH_take (i := 4) (oi := _) (v := ?_) (ops_at rfl) (by kernel_rfl) (by kernel_rfl) (by kernel_rfl) (fun _ _ _ h => h) (Or.inl ⟨by rfl, ?_⟩) (by assumption) ?_; rotate_left; (focus (intro w hSw; (try dsimp only at hSw); go_simp; (try with_reducible rfl))); (try simp only [Act.put, List.setIfInBounds_toArray, List.set_cons_zero, List.set_cons_succ])); (refine wpAnyH_take (i := 5) (oi := _) (v := ?_) (ops_at rfl) (by kernel_rfl) (by kernel_rfl) (by kernel_rfl) (fun _ _ _ h => h) (Or.inl ⟨by rfl, ?_⟩) (by assumption) ?_; rotate_left; (focus (intro w hSw; (try dsimp only at hSw); go_simp; (try with_reducible rfl))); (try simp only [Act.put, List.setIfInBounds_toArray, List.set_cons_zero, List.set_cons_succ])); (refine wpAnyH_take (i := 6) (oi := _) (v := ?_) (ops_at rfl) (by kernel_rfl) (by kernel_rfl) (by kernel_rfl) (fun _ _ _ h => h) (Or.inl ⟨by rfl, ?_⟩) (by assumption) ?_; rotate_left; (focus (intro w hSw; (try dsimp only at hSw); go_simp; (try with_reducible rfl))); (try simp only [Act.put, List.setIfInBounds_toArray, List.set_cons_zero, List.set_cons_succ])); (refine wpAnyH_take (i := 7) (oi := _) (v := ?_) (ops_at rfl) (by kernel_rfl) (by kernel_rfl) (by kernel_rfl) (fun _ _ _ h => h) (Or.inl ⟨by rfl, ?_⟩) (by assumption) ?_; rotate_left; (focus (intro w hSw; (try dsimp only at hSw); go_simp; (try with_reducible rfl))); (try simp only [Act.put, List.setIfInBounds_toArray, List.set_cons_zero, List.set_cons_succ])); (refine wpAnyH_take (i := 8) (oi := _) (v := ?_) (ops_at rfl) (by kernel_rfl) (by kernel_rfl) (by kernel_rfl) (fun _ _ _ h => h) (Or.inl ⟨by rfl, ?_⟩) (by assumption) ?_; rotate_left; (focus (intro w hSw; (try dsimp only at hSw); go_simp; (try with_reducible rfl))); (try simp only [Act.put, List.setIfInBounds_toArray, List.set_cons_zero, List.set_cons_succ])); (refine wpAnyH_take (i := 9) (oi := _) (v := ?_) (ops_at rfl) (by kernel_rfl) (by kernel_rfl) (by kernel_rfl) (fun _ _ _ h => h) (Or.inl ⟨by rfl, ?_⟩) (by assumption) ?_; rotate_left; (focus (intro w hSw; (try dsimp only at hSw); go_simp; (try with_reducible rfl))); (try simp only [Act.put, List.setIfInBounds_toArray, List.set_cons_zero, List.set_cons_succ])); (refine wpAnyH_take (i := 10) (oi := _) (v := ?_) (ops_at rfl) (by kernel_rfl) (by kernel_rfl) (by kernel_rfl) (fun _ _ _ h => h) (Or.inl ⟨by rfl, ?_⟩) (by assumption) ?_; rotate_left; (focus (intro w hSw; (try dsimp only at hSw); go_simp; (try with_reducible rfl))); (try simp only [Act.put, List.setIfInBounds_toArray, List.set_cons_zero, List.set_cons_succ])); (refine wpAnyH_take (i := 11) (oi := _) (v := ?_) (ops_at rfl) (by kernel_rfl) (by kernel_rfl) (by kernel_rfl) (fun _ _ _ h => h) (Or.inl ⟨by rfl, ?_⟩) (by assumption) ?_; rotate_left; (focus (intro w hSw; (try dsimp only at hSw); go_simp; (try with_reducible rfl))); (try simp only [Act.put, List.setIfInBounds_toArray, List.set_cons_zero, List.set_cons_succ])); (refine wpAnyH_take (i := 12) (oi := _) (v := ?_) (ops_at rfl) (by kernel_rfl) (by kernel_rfl) (by kernel_rfl) (fun _ _ _ h => h) (Or.inl ⟨by rfl, ?_⟩) (by assumption) ?_; rotate_left; (focus (intro w hSw; (try dsimp only at hSw); go_simp; (try with_reducible rfl))); (try simp only [Act.put, List.setIfInBounds_toArray, List.set_cons_zero, List.set_cons_succ])); (refine wpAnyH_take (i := 13) (oi := _) (v := ?_) (ops_at rfl) (by kernel_rfl) (by kernel_rfl) (by kernel_rfl) (fun _ _ _ h => h) (Or.inl ⟨by rfl, ?_⟩) (by assumption) ?_; rotate_left; (focus (intro w hSw; (try dsimp only at hSw); go_simp; (try with_reducible rfl))); (try simp only [Act.put, List.setIfInBounds_toArray, List.set_cons_zero, List.set_cons_succ]))
  (refine wpAnyH_take (i := 14) (oi := _) (v := undef) (ops_at rfl) (by kernel_rfl) (by kernel_rfl) (by kernel_rfl) (fun _ _ _ h => h) (Or.inr ⟨by rfl, rfl⟩) (by assumption) ?_; (try simp only [Act.put, List.setIfInBounds_toArray, List.set_cons_zero, List.set_cons_succ])); (refine wpAnyH_take (i := 15) (oi := _) (v := undef) (ops_at rfl) (by kernel_rfl) (by kernel_rfl) (by kernel_rfl) (fun _ _ _ h => h) (Or.inr ⟨by rfl, rfl⟩) (by assumption) ?_; (try simp only [Act.put, List.setIfInBounds_toArray, List.set_cons_zero, List.set_cons_succ])); (refine wpAnyH_take (i := 16) (oi := _) (v := undef) (ops_at rfl) (by kernel_rfl) (by kernel_rfl) (by kernel_rfl) (fun _ _ _ h => h) (Or.inr ⟨by rfl, rfl⟩) (by assumption) ?_; (try simp only [Act.put, List.setIfInBounds_toArray, List.set_cons_zero, List.set_cons_succ])); (refine wpAnyH_take (i := 17) (oi := _) (v := undef) (ops_at rfl) (by kernel_rfl) (by kernel_rfl) (by kernel_rfl) (fun _ _ _ h => h) (Or.inr ⟨by rfl, rfl⟩) (by assumption) ?_; (try simp only [Act.put, List.setIfInBounds_toArray, List.set_cons_zero, List.set_cons_succ])); (refine wpAnyH_take (i := 18) (oi := _) (v := undef) (ops_at rfl) (by kernel_rfl) (by kernel_rfl) (by kernel_rfl) (fun _ _ _ h => h) (Or.inr ⟨by rfl, rfl⟩) (by assumption) ?_; (try simp only [Act.put, List.setIfInBounds_toArray, List.set_cons_zero, List.set_cons_succ])); (refine wpAnyH_take (i := 19) (oi := _) (v := undef) (ops_at rfl) (by kernel_rfl) (by kernel_rfl) (by kernel_rfl) (fun _ _ _ h => h) (Or.inr ⟨by rfl, rfl⟩) (by assumption) ?_; (try simp only [Act.put, List.setIfInBounds_toArray, List.set_cons_zero, List.set_cons_succ])); (refine wpAnyH_take (i := 20) (oi := _) (v := undef) (ops_at rfl) (by kernel_rfl) (by kernel_rfl) (by kernel_rfl) (fun _ _ _ h => h) (Or.inr ⟨by rfl, rfl⟩) (by assumption) ?_; (try simp only [Act.put, List.setIfInBounds_toArray, List.set_cons_zero, List.set_cons_succ])); (refine wpAnyH_take (i := 21) (oi := _) (v := undef) (ops_at rfl) (by kernel_rfl) (by kernel_rfl) (by kernel_rfl) (fun _ _ _ h => h) (Or.inr ⟨by rfl, rfl⟩) (by assumption) ?_; (try simp only [Act.put, List.setIfInBounds_toArray, List.set_cons_zero, List.set_cons_succ])); (refine wpAnyH_take (i := 22) (oi := _) (v := undef) (ops_at rfl) (by kernel_rfl) (by kernel_rfl) (by kernel_rfl) (fun _ _ _ h => h) (Or.inr ⟨by rfl, rfl⟩) (by assumption) ?_; (try simp only [Act.put, List.setIfInBounds_toArray, List.set_cons_zero, List.set_cons_succ])); (refine wpAnyH_take (i := 23) (oi := _) (v := undef) (ops_at rfl) (by kernel_rfl) (by kernel_rfl) (by kernel_rfl) (fun _ _ _ h => h) (Or.inr ⟨by rfl, rfl⟩) (by assumption) ?_; (try simp only [Act.put, List.setIfInBounds_toArray, List.set_cons_zero, List.set_cons_succ])); (refine wpAnyH_take (i := 24) (oi := _) (v := undef) (ops_at rfl) (by kernel_rfl) (by kernel_rfl) (by kernel_rfl) (fun _ _ _ h => h) (Or.inr ⟨by rfl, rfl⟩) (by assumption) ?_; (try simp only [Act.put, List.setIfInBounds_toArray, List.set_cons_zero, List.set_cons_succ])); (refine wpAnyH_take (i := 25) (oi := _) (v := undef) (ops_at rfl) (by kernel_rfl) (by kernel_rfl) (by kernel_rfl) (fun _ _ _ h => h) (Or.inr ⟨by rfl, rfl⟩) (by assumption) ?_; (try simp only [Act.put, List.setIfInBounds_toArray, List.set_cons_zero, List.set_cons_succ])); (refine wpAnyH_take (i := 26) (oi := _) (v := undef) (ops_at rfl) (by kernel_rfl) (by kernel_rfl) (by kernel_rfl) (fun _ _ _ h => h) (Or.inr ⟨by rfl, rfl⟩) (by assumption) ?_; (try simp only [Act.put, List.setIfInBounds_toArray, List.set_cons_zero, List.set_cons_succ])); (refine wpAnyH_take (i := 27) (oi := _) (v := undef) (ops_at rfl) (by kernel_rfl) (by kernel_rfl) (by kernel_rfl) (fun _ _ _ h => h) (Or.inr ⟨by rfl, rfl⟩) (by assumption) ?_; (try simp only [Act.put, List.setIfInBounds_toArray, List.set_cons_zero, List.set_cons_succ])); (refine wpAnyH_take (i := 28) (oi := _) (v := undef) (ops_at rfl) (by kernel_rfl) (by kernel_rfl) (by kernel_rfl) (fun _ _ _ h => h) (Or.inr ⟨by rfl, rfl⟩) (by assumption) ?_; (try simp only [Act.put, List.setIfInBounds_toArray, List.set_cons_zero, List.set_cons_succ]))
  (refine wpAnyH_take (i := 29) (oi := _) (v := ?_) (ops_at rfl) (by kernel_rfl) (by kernel_rfl) (by kernel_rfl) (fun _ _ _ h => h) (Or.inl ⟨by rfl, ?_⟩) (by assumption) ?_; rotate_left; (focus (intro w hSw; (try dsimp only at hSw); go_simp; (try with_reducible rfl))); (try simp only [Act.put, List.setIfInBounds_toArray, List.set_cons_zero, List.set_cons_succ])); (refine wpAnyH_take (i := 30) (oi := _) (v := ?_) (ops_at rfl) (by kernel_rfl) (by kernel_rfl) (by kernel_rfl) (fun _ _ _ h => h) (Or.inl ⟨by rfl, ?_⟩) (by assumption) ?_; rotate_left; (focus (intro w hSw; (try dsimp only at hSw); go_simp; (try with_reducible rfl))); (try simp only [Act.put, List.setIfInBounds_toArray, List.set_cons_zero, List.set_cons_succ]))
  (refine wpAnyH_done (by kernel_rfl) ?_ _)
  clear hHeld
  have HMd := Lib.hid HM.out.drew
  clear HM HKc
  go_upto_region 46 with fail
  refine at_world (fun W => OneAt w0 W fb mb ab S' (hset h j { h j with w := some (wb, wk') }) (2 * i + 1)) HMd.out ?_
  clear HMd
  rintro V2 hm3
  have HM := Lib.hid hm3
  have d1 : V2.cell? ⟨ab, j * 10 + 1, none⟩ = some (.pointer (some ⟨wb, 0, none⟩)) := hm3.all.cell HJ.out (f := 1) (by decide) (by rw [hset_same]; rfl)
  have d9 : V2.cell? ⟨ab, j * 10 + 9, none⟩ = some (.bool (h j).held) := hm3.all.cell HJ.out (f := 9) (by decide) (by rw [hset_same]; rfl)
  have z1 := hm3.all.blk.frozen (j * 10 + 1)
  have z9 := hm3.all.blk.frozen (j * 10 + 9)
  clear hm3
  have hw1 : IntKind.i64.wrap ((i : Int) + 1) = ((i + 1 : Nat) : Int) := by have := HN.out; rw [IntKind.wrap_i64]; omega
  go_wp2_with fail
  have h1 := HN.out
  have h3 := (HM.out.held HJ.out false).noW HJ.out
  simp only [hset_hset, hset_same] at h3
  exact ⟨⟨rfl, rfl, rfl, rfl, rfl, i + 1, n, e, _, _, rfl, rfl, rfl, by omega, by omega, by omega, HII.out, h3.more (by omega) (by omega)⟩, by simp [oneMu, intOf]; omega⟩
set_option maxRecDepth 100000 in
set_option maxHeartbeats 4000000 in
theorem arm_write1n (H : Arm w0 ad ln lc fb mb ab t wr i n e h S x p j r) (hr15 : ¬ r = 15) (htn : (h j).t = none) (hwj : (h j).w = some (wb, wk)) (hp1 : wk.temp.size ≤ 1000) (hp2 : wk.gn.size ≤ 1000) (hp3 : wk.at_ = 2 ∨ wk.at_ = 3 ∨ wk.at_ = 4) (hst : stepW S wk = (1, wk', S')) (hsg : S.st nmC = (h j).gs) (a5 : wk'.at_ = 5) (a1 : wk'.told = 1) (af : wk'.free = (h j).free) (hfr : (h j).free = false) (hgs : wk'.gs = S'.st nmC) (hle : wk'.l.epoch = (h j).l.epoch) (hI : OneI S' e (hset h j { h j with w := none, gn := wk'.gn, gs := wk'.gs, l := wk'.l, held := true })) : Code.wp Tryz.prog oneBody (OneQ w0 ad ln lc fb mb ab t wr (Exit.inBlock 0 (Exit.then K (bodyPost Tryz.prog Tryz.f5 R)))) ⟨t, []⟩ wr := by
  have HI0 := H.I
  have HJ := Lib.hid H.hj
  have HO := Lib.hid H.I
  have HA := Lib.hid H.H
  have HN := Lib.hid (And.intro H.hn (And.intro H.he (And.intro H.hi H.hlen)))
  have HCX := Lib.hid H.hc
  have HR1 := Lib.hid H.hr1
  have hp := H.hp
  have hpj := H.hpj
  have hr := H.hr
  have hc := H.hc _ H.H.fs.bel
  have hlen := H.hlen
  have h300i : (i : Int) < 300 := by have := H.hi; omega
  have hleni : (i : Int) < (ln : Int) := by have := H.hlen; omega
  have hj0 : (0 : Int) ≤ (j : Int) := by omega
  have hj3 : (j : Int) < 3 := by have := H.hj; omega
  have HMU := Lib.hid (show oneMu ⟨t, []⟩ wr = 301 - i by unfold oneMu; rw [H.s7]; simp [intOf])
  unfold OneQ
  rw [HMU.out]
  obtain ⟨v, rfl⟩ := frameOne t H.sz _ _ _ _ _ _ H.s0 H.s3 H.s4 H.s5 H.s6 H.s7
  clear H HI0 HMU
  conv => arg 2; whnf
  go_upto_region 11 with fail
  rw [hpj]
  clear hpj hp h300i hleni hj0 hj3
  have h15i : ((r : Int) == 15) = false := by rw [beq_eq_false_iff_ne]; omega
  clear hr15
  have HWJ := Lib.hid hwj
  have HPP := Lib.hid (And.intro hp1 (And.intro hp2 hp3))
  have HST := Lib.hid hst
  have HW := Lib.hid (HA.out.all.w j HJ.out _ hwj)
  have c0 : wr.cell? ⟨ab, j * 10, none⟩ = some (.pointer none) := HA.out.all.cell HJ.out (f := 0) (by decide) (by unfold Hd.cells; rw [htn]; rfl)
  have c1 : wr.cell? ⟨ab, j * 10 + 1, none⟩ = some (.pointer (some ⟨wb, 0, none⟩)) := HA.out.all.cell HJ.out (f := 1) (by decide) (by unfold Hd.cells; rw [hwj]; rfl)
  clear hwj hp1 hp2 hp3 hst htn
  have HII := Lib.hid hI
  have A5 := Lib.hid (And.intro a5 (And.intro a1 (af.trans hfr)))
  have HFR := Lib.hid hfr
  have HSG := Lib.hid (And.intro hsg (And.intro hgs hle))
  clear hI a5 a1 af hfr hsg hgs hle
  go_wp2_with fail
  refine (stamp_h HA.out.fs nmC (by decide)).mono ?_
  rintro en w2 ⟨rfl, rfl⟩
  clear hr h15i hc
  go_wp2_with fail
  refine (wstep_any HA.out.fs HW.out.1 HW.out.2 HPP.out.1 HPP.out.2.1 (by have := HN.out; omega) HPP.out.2.2).mono ?_
  rintro en w2 hdd
  have hm := HA.out.wrote HO.out HJ.out HWJ.out hdd
  rw [HST.out] at hdd hm
  obtain rfl := hdd.ret
  have HX := Lib.hid hdd.x
  have HM := Lib.hid hm
  clear hdd hm HA HW HPP HST c0 c1
  have c1 : w2.cell? ⟨ab, j * 10 + 1, none⟩ = some (.pointer (some ⟨wb, 0, none⟩)) := HM.out.all.cell HJ.out (f := 1) (by decide) (by rw [hset_same]; rfl)
  have d4 : w2.cell? ⟨ab, j * 10 + 4, none⟩ = some (.int .i64 (h j).gs) := HM.out.all.cell HJ.out (f := 4) (by decide) (by rw [hset_same]; rfl)
  have hsb : (S.st nmC == (h j).gs) = true := by rw [beq_iff_eq]; exact HSG.out.1
  have hse : S.st nmC = (h j).gs := HSG.out.1
  go_wp2_with fail
  refine (wgot_any HX.out A5.out.1 A5.out.2.1 A5.out.2.2).mono ?_
  rintro en w3 ⟨rfl, b3⟩
  have HM3 := Lib.hid (HM.out.below b3)
  obtain ⟨L, hL⟩ : ∃ L, wk'.l = L := ⟨_, rfl⟩
  obtain ⟨sg, hsg⟩ : ∃ sg, wk'.gs = sg := ⟨_, rfl⟩
  obtain ⟨gn, hgn⟩ : ∃ gn, wk'.gn = gn := ⟨_, rfl⟩
  have HST := Lib.hid (show S'.st nmC = sg from HSG.out.2.1.symm.trans hsg)
  have HLE := Lib.hid (show L.epoch = (h j).l.epoch from hL ▸ HSG.out.2.2)
  have HL := Lib.hid (And.intro hL (And.intro hsg hgn))
  unfold heldW lkV
  rw [hL, hsg, hgn]
  clear b3 HM HX c1 d4 hL hsg hgn hsb hse
  go_upto_region 44 with fail
  obtain ⟨g2, hg2⟩ : ∃ g2, g2 = w3.heap.size := ⟨_, rfl⟩
  obtain ⟨k2, hk2⟩ : ∃ k2, k2 = w3.heap.size + 1 := ⟨_, rfl⟩
  rw [← hk2, ← hg2]
  refine at_world (fun W => Blk W g2 26 [.string gn, .int .i64 sg] ∧ Blk W k2 28 (lkCells L) ∧ OneAt w0 W fb mb ab S' (hset h j { h j with w := some (wb, wk') }) (2 * i + 1)) ⟨(blk_new hg2).alloc _, blk_new (by simp [hk2, hg2]), HM3.out.alloc.alloc⟩ ?_
  clear HM3 hg2 hk2
  rintro V ⟨k1, k2', k3⟩
  have HG := Lib.hid k1
  have HK := Lib.hid k2'
  have HM := Lib.hid k3
  have HMD := Lib.hid k3.fs.drew
  have HKc := Lib.hid (show V.drew.cell? ⟨g2, 1, none⟩ = some (.int .i64 sg) ∧ V.drew.cell? ⟨k2, 2, none⟩ = some (.int .i64 (h j).l.epoch) ∧ V.drew.cell? ⟨ab, j * 10 + 2, none⟩ = some (.bool false) ∧ V.drew.cell? ⟨ab, j * 10 + 7, none⟩ = some (.int .i64 (h j).l.epoch) from ⟨k1.drew.cell 1, HLE.out ▸ k2'.drew.cell 2, HFR.out ▸ k3.drew.all.cell HJ.out (f := 2) (by decide) (by rw [hset_same]; rfl), k3.drew.all.cell HJ.out (f := 7) (by decide) (by rw [hset_same]; rfl)⟩)
  clear k1 k2' k3
  (refine wp_region_held_drew (S := fun w' => w'.cell? ⟨g2, 1, none⟩ = some (.int .i64 sg) ∧ w'.cell? ⟨k2, 2, none⟩ = some (.int .i64 (h j).l.epoch) ∧ w'.cell? ⟨ab, j * 10 + 2, none⟩ = some (.bool false) ∧ w'.cell? ⟨ab, j * 10 + 7, none⟩ = some (.int .i64 (h j).l.epoch)) (by kernel_rfl) (HKc.out) (fun hHeld => ?_))
  (refine wpAnyH_take (i := 0) (oi := _) (v := ?_) (ops_at rfl) (by kernel_rfl) (by kernel_rfl) (by kernel_rfl) (fun _ _ _ h => h) (Or.inl ⟨by rfl, ?_⟩) (by assumption) ?_; rotate_left; (focus (intro w hSw; (try dsimp only at hSw); go_simp; (try with_reducible rfl))); (try simp only [Act.put, List.setIfInBounds_toArray, List.set_cons_zero, List.set_cons_succ])); (refine wpAnyH_take (i := 1) (oi := _) (v := ?_) (ops_at rfl) (by kernel_rfl) (by kernel_rfl) (by kernel_rfl) (fun _ _ _ h => h) (Or.inl ⟨by rfl, ?_⟩) (by assumption) ?_; rotate_left; (focus (intro w hSw; (try dsimp only at hSw); go_simp; (try with_reducible rfl))); (try simp only [Act.put, List.setIfInBounds_toArray, List.set_cons_zero, List.set_cons_succ])); (refine wpAnyH_take (i := 2) (oi := _) (v := ?_) (ops_at rfl) (by kernel_rfl) (by kernel_rfl) (by kernel_rfl) (fun _ _ _ h => h) (Or.inl ⟨by rfl, ?_⟩) (by assumption) ?_; rotate_left; (focus (intro w hSw; (try dsimp only at hSw); go_simp; (try with_reducible rfl))); (try simp only [Act.put, List.setIfInBounds_toArray, List.set_cons_zero, List.set_cons_succ])); (refine wpAnyH_take (i := 3) (oi := _) (v := ?_) (ops_at rfl) (by kernel_rfl) (by kernel_rfl) (by kernel_rfl) (fun _ _ _ h => h) (Or.inl ⟨by rfl, ?_⟩) (by assumption) ?_; rotate_left; (focus (intro w hSw; (try dsimp only at hSw); go_simp; (try with_reducible rfl))); (try simp only [Act.put, List.setIfInBounds_toArray, List.set_cons_zero, List.set_cons_succ])); (refine wpAnyH_take (i := 4) (oi := _) (v := ?_) (ops_at rfl) (by kernel_rfl) (by kernel_rfl) (by kernel_rfl) (fun _ _ _ h => h) (Or.inl ⟨by rfl, ?_⟩) (by assumption) ?_; rotate_left; (focus (intro w hSw; (try dsimp only at hSw); go_simp; (try with_reducible rfl))); (try simp only [Act.put, List.setIfInBounds_toArray, List.set_cons_zero, List.set_cons_succ])); (refine wpAnyH_take (i := 5) (oi := _) (v := ?_) (ops_at rfl) (by kernel_rfl) (by kernel_rfl) (by kernel_rfl) (fun _ _ _ h => h) (Or.inl ⟨by rfl, ?_⟩) (by assumption) ?_; rotate_left; (focus (intro w hSw; (try dsimp only at hSw); go_simp; (try with_reducible rfl))); (try simp only [Act.put, List.setIfInBounds_toArray, List.set_cons_zero, List.set_cons_succ])); (refine wpAnyH_take (i := 6) (oi := _) (v := ?_) (ops_at rfl) (by kernel_rfl) (by kernel_rfl) (by kernel_rfl) (fun _ _ _ h => h) (Or.inl ⟨by rfl, ?_⟩) (by assumption) ?_; rotate_left; (focus (intro w hSw; (try dsimp only at hSw); go_simp; (try with_reducible rfl))); (try simp only [Act.put, List.setIfInBounds_toArray, List.set_cons_zero, List.set_cons_succ])); (refine wpAnyH_take (i := 7) (oi := _) (v := ?_) (ops_at rfl) (by kernel_rfl) (by kernel_rfl) (by kernel_rfl) (fun _ _ _ h => h) (Or.inl ⟨by rfl, ?_⟩) (by assumption) ?_; rotate_left; (focus (intro w hSw; (try dsimp only at hSw); go_simp; (try with_reducible rfl))); (try simp only [Act.put, List.setIfInBounds_toArray, List.set_cons_zero, List.set_cons_succ])); (refine wpAnyH_take (i := 8) (oi := _) (v := ?_) (ops_at rfl) (by kernel_rfl) (by kernel_rfl) (by kernel_rfl) (fun _ _ _ h => h) (Or.inl ⟨by rfl, ?_⟩) (by assumption) ?_; rotate_left; (focus (intro w hSw; (try dsimp only at hSw); go_simp; (try with_reducible rfl))); (try simp only [Act.put, List.setIfInBounds_toArray, List.set_cons_zero, List.set_cons_succ])); (refine wpAnyH_take (i := 9) (oi := _) (v := ?_) (ops_at rfl) (by kernel_rfl) (by kernel_rfl) (by kernel_rfl) (fun _ _ _ h => h) (Or.inl ⟨by rfl, ?_⟩) (by assumption) ?_; rotate_left; (focus (intro w hSw; (try dsimp only at hSw); go_simp; (try with_reducible rfl))); (try simp only [Act.put, List.setIfInBounds_toArray, List.set_cons_zero, List.set_cons_succ])); (refine wpAnyH_take (i := 10) (oi := _) (v := ?_) (ops_at rfl) (by kernel_rfl) (by kernel_rfl) (by kernel_rfl) (fun _ _ _ h => h) (Or.inl ⟨by rfl, ?_⟩) (by assumption) ?_; rotate_left; (focus (intro w hSw; (try dsimp only at hSw); go_simp; (try with_reducible rfl))); (try simp only [Act.put, List.setIfInBounds_toArray, List.set_cons_zero, List.set_cons_succ])); (refine wpAnyH_take (i := 11) (oi := _) (v := ?_) (ops_at rfl) (by kernel_rfl) (by kernel_rfl) (by kernel_rfl) (fun _ _ _ h => h) (Or.inl ⟨by rfl, ?_⟩) (by assumption) ?_; rotate_left; (focus (intro w hSw; (try dsimp only at hSw); go_simp; (try with_reducible rfl))); (try simp only [Act.put, List.setIfInBounds_toArray, List.set_cons_zero, List.set_cons_succ])); (refine wpAnyH_take (i := 12) (oi := _) (v := ?_) (ops_at rfl) (by kernel_rfl) (by kernel_rfl) (by kernel_rfl) (fun _ _ _ h => h) (Or.inl ⟨by rfl, ?_⟩) (by assumption) ?_; rotate_left; (focus (intro w hSw; (try dsimp only at hSw); go_simp; (try with_reducible rfl))); (try simp only [Act.put, List.setIfInBounds_toArray, List.set_cons_zero, List.set_cons_succ])); (refine wpAnyH_take (i := 13) (oi := _) (v := ?_) (ops_at rfl) (by kernel_rfl) (by kernel_rfl) (by kernel_rfl) (fun _ _ _ h => h) (Or.inl ⟨by rfl, ?_⟩) (by assumption) ?_; rotate_left; (focus (intro w hSw; (try dsimp only at hSw); go_simp; (try with_reducible rfl))); (try simp only [Act.put, List.setIfInBounds_toArray, List.set_cons_zero, List.set_cons_succ])); (refine wpAnyH_take (i := 14) (oi := _) (v := ?_) (ops_at rfl) (by kernel_rfl) (by kernel_rfl) (by kernel_rfl) (fun _ _ _ h => h) (Or.inl ⟨by rfl, ?_⟩) (by assumption) ?_; rotate_left; (focus (intro w hSw; (try dsimp only at hSw); go_simp; (try with_reducible rfl))); (try simp only [Act.put, List.setIfInBounds_toArray, List.set_cons_zero, List.set_cons_succ])); (refine wpAnyH_take (i := 15) (oi := _) (v := ?_) (ops_at rfl) (by kernel_rfl) (by kernel_rfl) (by kernel_rfl) (fun _ _ _ h => h) (Or.inl ⟨by rfl, ?_⟩) (by assumption) ?_; rotate_left; (focus (intro w hSw; (try dsimp only at hSw); go_simp; (try with_reducible rfl))); (try simp only [Act.put, List.setIfInBounds_toArray, List.set_cons_zero, List.set_cons_succ])); (refine wpAnyH_take (i := 16) (oi := _) (v := ?_) (ops_at rfl) (by kernel_rfl) (by kernel_rfl) (by kernel_rfl) (fun _ _ _ h => h) (Or.inl ⟨by rfl, ?_⟩) (by assumption) ?_; rotate_left; (focus (intro w hSw; (try dsimp only at hSw); go_simp; (try with_reducible rfl))); (try simp only [Act.put, List.setIfInBounds_toArray, List.set_cons_zero, List.set_cons_succ]))
  (refine wpAnyH_ready (rs := [17]) (by kernel_rfl) (by simp) (AllReadyH.cons (ops_at rfl) (fun K hK => ?_) AllReadyH.nil); go_simp; (refine (stamp_h HMD.out nmC (by decide)).mono ?_; rintro en w' ⟨rfl, rfl⟩; rw [HST.out]); refine hK.out _ _ (HKc.out) (fun hHeld => ?_); clear hK K; (try simp only [Act.put, List.setIfInBounds_toArray, List.set_cons_zero, List.set_cons_succ]))
  (refine wpAnyH_take (i := 18) (oi := _) (v := ?_) (ops_at rfl) (by kernel_rfl) (by kernel_rfl) (by kernel_rfl) (fun _ _ _ h => h) (Or.inl ⟨by rfl, ?_⟩) (by assumption) ?_; rotate_left; (focus (intro w hSw; (try dsimp only at hSw); go_simp; (try with_reducible rfl))); (try simp only [Act.put, List.setIfInBounds_toArray, List.set_cons_zero, List.set_cons_succ])); (refine wpAnyH_take (i := 19) (oi := _) (v := ?_) (ops_at rfl) (by kernel_rfl) (by kernel_rfl) (by kernel_rfl) (fun _ _ _ h => h) (Or.inl ⟨by rfl, ?_⟩) (by assumption) ?_; rotate_left; (focus (intro w hSw; (try dsimp only at hSw); go_simp; (try with_reducible rfl))); (try simp only [Act.put, List.setIfInBounds_toArray, List.set_cons_zero, List.set_cons_succ])); (refine wpAnyH_take (i := 20) (oi := _) (v := ?_) (ops_at rfl) (by kernel_rfl) (by kernel_rfl) (by kernel_rfl) (fun _ _ _ h => h) (Or.inl ⟨by rfl, ?_⟩) (by assumption) ?_; rotate_left; (focus (intro w hSw; (try dsimp only at hSw); go_simp; (try with_reducible rfl))); (try simp only [Act.put, List.setIfInBounds_toArray, List.set_cons_zero, List.set_cons_succ])); (refine wpAnyH_take (i := 21) (oi := _) (v := ?_) (ops_at rfl) (by kernel_rfl) (by kernel_rfl) (by kernel_rfl) (fun _ _ _ h => h) (Or.inl ⟨by rfl, ?_⟩) (by assumption) ?_; rotate_left; (focus (intro w hSw; (try dsimp only at hSw); go_simp; (try with_reducible rfl))); (try simp only [Act.put, List.setIfInBounds_toArray, List.set_cons_zero, List.set_cons_succ])); (refine wpAnyH_take (i := 22) (oi := _) (v := ?_) (ops_at rfl) (by kernel_rfl) (by kernel_rfl) (by kernel_rfl) (fun _ _ _ h => h) (Or.inl ⟨by rfl, ?_⟩) (by assumption) ?_; rotate_left; (focus (intro w hSw; (try dsimp only at hSw); go_simp; (try with_reducible rfl))); (try simp only [Act.put, List.setIfInBounds_toArray, List.set_cons_zero, List.set_cons_succ])); (refine wpAnyH_take (i := 23) (oi := _) (v := ?_) (ops_at rfl) (by kernel_rfl) (by kernel_rfl) (by kernel_rfl) (fun _ _ _ h => h) (Or.inl ⟨by rfl, ?_⟩) (by assumption) ?_; rotate_left; (focus (intro w hSw; (try dsimp only at hSw); go_simp; (try with_reducible rfl))); (try simp only [Act.put, List.setIfInBounds_toArray, List.set_cons_zero, List.set_cons_succ])); (refine wpAnyH_take (i := 24) (oi := _) (v := ?_) (ops_at rfl) (by kernel_rfl) (by kernel_rfl) (by kernel_rfl) (fun _ _ _ h => h) (Or.inl ⟨by rfl, ?_⟩) (by assumption) ?_; rotate_left; (focus (intro w hSw; (try dsimp only at hSw); go_simp; (try with_reducible rfl))); (try simp only [Act.put, List.setIfInBounds_toArray, List.set_cons_zero, List.set_cons_succ])); (refine wpAnyH_take (i := 25) (oi := _) (v := ?_) (ops_at rfl) (by kernel_rfl) (by kernel_rfl) (by kernel_rfl) (fun _ _ _ h => h) (Or.inl ⟨by rfl, ?_⟩) (by assumption) ?_; rotate_left; (focus (intro w hSw; (try dsimp only at hSw); go_simp; (try with_reducible rfl))); (try simp only [Act.put, List.setIfInBounds_toArray, List.set_cons_zero, List.set_cons_succ])); (refine wpAnyH_take (i := 26) (oi := _) (v := ?_) (ops_at rfl) (by kernel_rfl) (by kernel_rfl) (by kernel_rfl) (fun _ _ _ h => h) (Or.inl ⟨by rfl, ?_⟩) (by assumption) ?_; rotate_left; (focus (intro w hSw; (try dsimp only at hSw); go_simp; (try with_reducible rfl))); (try simp only [Act.put, List.setIfInBounds_toArray, List.set_cons_zero, List.set_cons_succ])); (refine wpAnyH_take (i := 27) (oi := _) (v := ?_) (ops_at rfl) (by kernel_rfl) (by kernel_rfl) (by kernel_rfl) (fun _ _ _ h => h) (Or.inl ⟨by rfl, ?_⟩) (by assumption) ?_; rotate_left; (focus (intro w hSw; (try dsimp only at hSw); go_simp; (try with_reducible rfl))); (try simp only [Act.put, List.setIfInBounds_toArray, List.set_cons_zero, List.set_cons_succ])); (refine wpAnyH_take (i := 28) (oi := _) (v := ?_) (ops_at rfl) (by kernel_rfl) (by kernel_rfl) (by kernel_rfl) (fun _ _ _ h => h) (Or.inl ⟨by rfl, ?_⟩) (by assumption) ?_; rotate_left; (focus (intro w hSw; (try dsimp only at hSw); go_simp; (try with_reducible rfl))); (try simp only [Act.put, List.setIfInBounds_toArray, List.set_cons_zero, List.set_cons_succ])); (refine wpAnyH_take (i := 29) (oi := _) (v := ?_) (ops_at rfl) (by kernel_rfl) (by kernel_rfl) (by kernel_rfl) (fun _ _ _ h => h) (Or.inl ⟨by rfl, ?_⟩) (by assumption) ?_; rotate_left; (focus (intro w hSw; (try dsimp only at hSw); go_simp; (try with_reducible rfl))); (try simp only [Act.put, List.setIfInBounds_toArray, List.set_cons_zero, List.set_cons_succ])); (refine wpAnyH_take (i := 30) (oi := _) (v := ?_) (ops_at rfl) (by kernel_rfl) (by kernel_rfl) (by kernel_rfl) (fun _ _ _ h => h) (Or.inl ⟨by rfl, ?_⟩) (by assumption) ?_; rotate_left; (focus (intro w hSw; (try dsimp only at hSw); go_simp; (try with_reducible rfl))); (try simp only [Act.put, List.setIfInBounds_toArray, List.set_cons_zero, List.set_cons_succ]))
  (refine wpAnyH_done (by kernel_rfl) ?_ _)
  clear hHeld
  have HGd := Lib.hid HG.out.drew
  have HKd := Lib.hid HK.out.drew
  have HMd := Lib.hid HM.out.drew
  clear HG HK HM HMD HKc
  go_upto_region 46 with fail
  refine at_world (fun W => Blk W g2 26 [.string gn, .int .i64 sg] ∧ Blk W k2 28 (lkCells L) ∧ OneAt w0 W fb mb ab S' (hset h j { h j with w := some (wb, wk') }) (2 * i + 1)) ⟨HGd.out, HKd.out, HMd.out⟩ ?_
  clear HGd HKd HMd
  rintro V2 ⟨k1, k2', k3⟩
  have HG := Lib.hid k1
  have HK := Lib.hid k2'
  have HM := Lib.hid k3
  have hng : g2 ≠ ab := Blk.diff k1 k3.all.blk (by decide)
  have hnk : k2 ≠ ab := Blk.diff k2' k3.all.blk (by decide)
  have d9 : V2.cell? ⟨ab, j * 10 + 9, none⟩ = some (.bool (h j).held) := k3.all.cell HJ.out (f := 9) (by decide) (by rw [hset_same]; rfl)
  have z9 := k3.all.blk.frozen (j * 10 + 9)
  clear k1 k2' k3
  go_upto_region 48 with fail
  have h5 := HM.out.held HJ.out true
  simp only [hset_hset, hset_same] at h5
  refine at_world (fun W => Blk W g2 26 [.string gn, .int .i64 sg] ∧ Blk W k2 28 (lkCells L) ∧ OneAt w0 W fb mb ab S' (hset h j { h j with w := some (wb, wk'), held := true }) (2 * i + 1)) ⟨HG.out.far hng _, HK.out.far hnk _, h5⟩ ?_
  clear HG HK HM h5 d9 z9
  rintro V3 ⟨k1, k2', k3⟩
  have HG := Lib.hid k1
  have HK := Lib.hid k2'
  have HM := Lib.hid k3
  have KC := Lib.hid (fun (w' : World) (p1 : Blk w' g2 26 [.string gn, .int .i64 sg]) (p2 : Blk w' k2 28 (lkCells L)) => (show w'.cell? ⟨g2, 0, none⟩ = some (.string gn) ∧ w'.cell? ⟨g2, 1, none⟩ = some (.int .i64 sg) ∧ w'.cell? ⟨k2, 0, none⟩ = some (.int .i64 L.who) ∧ w'.cell? ⟨k2, 1, none⟩ = some (.int .i64 L.inc) ∧ w'.cell? ⟨k2, 2, none⟩ = some (.int .i64 L.epoch) ∧ w'.cell? ⟨k2, 3, none⟩ = some (.int .i64 L.till) from ⟨p1.cell 0, p1.cell 1, p2.cell 0, p2.cell 1, p2.cell 2, p2.cell 3⟩))
  have d3 : V3.cell? ⟨ab, j * 10 + 3, none⟩ = some (.string (h j).gn) := k3.all.cell HJ.out (f := 3) (by decide) (by rw [hset_same]; rfl)
  have d4 : V3.cell? ⟨ab, j * 10 + 4, none⟩ = some (.int .i64 (h j).gs) := k3.all.cell HJ.out (f := 4) (by decide) (by rw [hset_same]; rfl)
  have d5 : V3.cell? ⟨ab, j * 10 + 5, none⟩ = some (.int .i64 (h j).l.who) := k3.all.cell HJ.out (f := 5) (by decide) (by rw [hset_same]; rfl)
  have d6 : V3.cell? ⟨ab, j * 10 + 6, none⟩ = some (.int .i64 (h j).l.inc) := k3.all.cell HJ.out (f := 6) (by decide) (by rw [hset_same]; rfl)
  have d7 : V3.cell? ⟨ab, j * 10 + 7, none⟩ = some (.int .i64 (h j).l.epoch) := k3.all.cell HJ.out (f := 7) (by decide) (by rw [hset_same]; rfl)
  have d8 : V3.cell? ⟨ab, j * 10 + 8, none⟩ = some (.int .i64 (h j).l.till) := k3.all.cell HJ.out (f := 8) (by decide) (by rw [hset_same]; rfl)
  have z3 := k3.all.blk.frozen (j * 10 + 3)
  have z4 := k3.all.blk.frozen (j * 10 + 4)
  have z5 := k3.all.blk.frozen (j * 10 + 5)
  have z6 := k3.all.blk.frozen (j * 10 + 6)
  have z7 := k3.all.blk.frozen (j * 10 + 7)
  have z8 := k3.all.blk.frozen (j * 10 + 8)
  clear k1 k2' k3
  (refine wp_region_held_drew (S := fun w' => w'.cell? ⟨g2, 0, none⟩ = some (.string gn) ∧ w'.cell? ⟨g2, 1, none⟩ = some (.int .i64 sg) ∧ w'.cell? ⟨k2, 0, none⟩ = some (.int .i64 L.who) ∧ w'.cell? ⟨k2, 1, none⟩ = some (.int .i64 L.inc) ∧ w'.cell? ⟨k2, 2, none⟩ = some (.int .i64 L.epoch) ∧ w'.cell? ⟨k2, 3, none⟩ = some (.int .i64 L.till)) (by kernel_rfl) (KC.out _ HG.out.drew HK.out.drew) (fun hHeld => ?_))
  (refine wpAnyH_take (i := 0) (oi := _) (v := ?_) (ops_at rfl) (by kernel_rfl) (by kernel_rfl) (by kernel_rfl) (fun _ _ _ h => h) (Or.inl ⟨by rfl, ?_⟩) (by assumption) ?_; rotate_left; (focus (intro w hSw; (try dsimp only at hSw); go_simp; (try with_reducible rfl))); (try simp only [Act.put, List.setIfInBounds_toArray, List.set_cons_zero, List.set_cons_succ])); (refine wpAnyH_take (i := 1) (oi := _) (v := ?_) (ops_at rfl) (by kernel_rfl) (by kernel_rfl) (by kernel_rfl) (fun _ _ _ h => h) (Or.inl ⟨by rfl, ?_⟩) (by assumption) ?_; rotate_left; (focus (intro w hSw; (try dsimp only at hSw); go_simp; (try with_reducible rfl))); (try simp only [Act.put, List.setIfInBounds_toArray, List.set_cons_zero, List.set_cons_succ])); (refine wpAnyH_take (i := 2) (oi := _) (v := ?_) (ops_at rfl) (by kernel_rfl) (by kernel_rfl) (by kernel_rfl) (fun _ _ _ h => h) (Or.inl ⟨by rfl, ?_⟩) (by assumption) ?_; rotate_left; (focus (intro w hSw; (try dsimp only at hSw); go_simp; (try with_reducible rfl))); (try simp only [Act.put, List.setIfInBounds_toArray, List.set_cons_zero, List.set_cons_succ])); (refine wpAnyH_take (i := 3) (oi := _) (v := ?_) (ops_at rfl) (by kernel_rfl) (by kernel_rfl) (by kernel_rfl) (fun _ _ _ h => h) (Or.inl ⟨by rfl, ?_⟩) (by assumption) ?_; rotate_left; (focus (intro w hSw; (try dsimp only at hSw); go_simp; (try with_reducible rfl))); (try simp only [Act.put, List.setIfInBounds_toArray, List.set_cons_zero, List.set_cons_succ])); (refine wpAnyH_take (i := 4) (oi := _) (v := ?_) (ops_at rfl) (by kernel_rfl) (by kernel_rfl) (by kernel_rfl) (fun _ _ _ h => h) (Or.inl ⟨by rfl, ?_⟩) (by assumption) ?_; rotate_left; (focus (intro w hSw; (try dsimp only at hSw); go_simp; (try with_reducible rfl))); (try simp only [Act.put, List.setIfInBounds_toArray, List.set_cons_zero, List.set_cons_succ])); (refine wpAnyH_take (i := 5) (oi := _) (v := ?_) (ops_at rfl) (by kernel_rfl) (by kernel_rfl) (by kernel_rfl) (fun _ _ _ h => h) (Or.inl ⟨by rfl, ?_⟩) (by assumption) ?_; rotate_left; (focus (intro w hSw; (try dsimp only at hSw); go_simp; (try with_reducible rfl))); (try simp only [Act.put, List.setIfInBounds_toArray, List.set_cons_zero, List.set_cons_succ]))
  (refine wpAnyH_ready (rs := [6]) (by kernel_rfl) (by simp) (AllReadyH.cons (ops_at rfl) (fun K hK => ?_) AllReadyH.nil); go_simp; skip; refine hK.out _ _ (KC.out _ ((HG.out.far hng _).far hng _).drew ((HK.out.far hnk _).far hnk _).drew) (fun hHeld => ?_); clear hK K; (try simp only [Act.put, List.setIfInBounds_toArray, List.set_cons_zero, List.set_cons_succ]))
  (refine wpAnyH_take (i := 7) (oi := _) (v := ?_) (ops_at rfl) (by kernel_rfl) (by kernel_rfl) (by kernel_rfl) (fun _ _ _ h => h) (Or.inl ⟨by rfl, ?_⟩) (by assumption) ?_; rotate_left; (focus (intro w hSw; (try dsimp only at hSw); go_simp; (try with_reducible rfl))); (try simp only [Act.put, List.setIfInBounds_toArray, List.set_cons_zero, List.set_cons_succ])); (refine wpAnyH_take (i := 8) (oi := _) (v := ?_) (ops_at rfl) (by kernel_rfl) (by kernel_rfl) (by kernel_rfl) (fun _ _ _ h => h) (Or.inl ⟨by rfl, ?_⟩) (by assumption) ?_; rotate_left; (focus (intro w hSw; (try dsimp only at hSw); go_simp; (try with_reducible rfl))); (try simp only [Act.put, List.setIfInBounds_toArray, List.set_cons_zero, List.set_cons_succ]))
  (refine wpAnyH_ready (rs := [9]) (by kernel_rfl) (by simp) (AllReadyH.cons (ops_at rfl) (fun K hK => ?_) AllReadyH.nil); go_simp; skip; refine hK.out _ _ (KC.out _ ((((((HG.out.far hng _).far hng _).far hng _).far hng _).far hng _).far hng _).drew ((((((HK.out.far hnk _).far hnk _).far hnk _).far hnk _).far hnk _).far hnk _).drew) (fun hHeld => ?_); clear hK K; (try simp only [Act.put, List.setIfInBounds_toArray, List.set_cons_zero, List.set_cons_succ]))
  (refine wpAnyH_done (by kernel_rfl) ?_ _)
  clear hHeld
  have h7 := (HM.out.gl HJ.out gn sg L).drew
  simp only [hset_hset, hset_same] at h7
  have H7 := Lib.hid h7
  clear h7 HM HG HK KC hng hnk d3 d4 d5 d6 d7 d8 z3 z4 z5 z6 z7 z8
  go_upto_region 49 with fail
  refine at_world (fun W => OneAt w0 W fb mb ab S' (hset h j { h j with w := some (wb, wk'), gn := gn, gs := sg, l := L, held := true }) (2 * i + 1)) H7.out ?_
  clear H7
  rintro W9 hm9
  have HM := Lib.hid hm9
  have c1 : W9.cell? ⟨ab, j * 10 + 1, none⟩ = some (.pointer (some ⟨wb, 0, none⟩)) := hm9.all.cell HJ.out (f := 1) (by decide) (by rw [hset_same]; rfl)
  have z1 := hm9.all.blk.frozen (j * 10 + 1)
  have hw1 : IntKind.i64.wrap ((i : Int) + 1) = ((i + 1 : Nat) : Int) := by have := HN.out; rw [IntKind.wrap_i64]; omega
  clear hm9
  go_wp2_with fail
  have h1 := HN.out
  have h3 := HM.out.noW HJ.out
  simp only [hset_hset, hset_same] at h3
  have h4 := HII.out
  rw [HL.out.1, HL.out.2.1, HL.out.2.2] at h4
  exact ⟨⟨rfl, rfl, rfl, rfl, rfl, i + 1, n, e, _, _, rfl, rfl, rfl, by omega, by omega, by omega, h4, h3.more (by omega) (by omega)⟩, by simp [oneMu, intOf]; omega⟩
end
end Go.Proofs.YtahdeighocmijaaGreatDoor
