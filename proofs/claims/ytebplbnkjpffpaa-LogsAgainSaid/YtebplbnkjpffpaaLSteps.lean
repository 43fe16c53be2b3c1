/- LogsSteps: the law's walk. -/
import Derived.Test.YtebplbnkjpffpaaAwake14
namespace Go.Proofs.Ytebplbnkjpffpaa
set_option linter.unusedSimpArgs false
set_option linter.unusedVariables false
open Go.RowKit
open Crc (Bytes)

theorem tr_len_le {ds : List Dn} (h : ∀ d ∈ ds, d.raw.length ≤ 40) : (tr ds).length ≤ 50 * ds.length := by
  induction ds with
  | nil => simp [tr]
  | cons d ds ih =>
    rw [tr_cons, List.length_append, framed_len, List.length_cons]
    have h1 := h d (by simp)
    have h2 := ih fun x hx => h x (by simp [hx])
    omega
theorem lawD_raw (n : Int) : (lawD n).raw.length ≤ 40 ∧ 24 ≤ (lawD n).raw.length := by
  obtain ⟨_, _, h3, h4⟩ := lawD_right n
  rw [Dn.raw_len]; omega
/-- The first commits of numbers. -/
def lawDs (j : Nat) : List Dn := (List.range j).map fun (i : Nat) => lawD (i : Int)
theorem lawDs_succ (j : Nat) : lawDs (j + 1) = lawDs j ++ [lawD (j : Int)] := by unfold lawDs; rw [List.range_succ]; simp
theorem lawDs_ok (j : Nat) : Dns (lawDs j) := by
  induction j with
  | zero => exact Dns.nil
  | succ j ih => rw [lawDs_succ]; exact ih.snoc (lawD_right _).1 (lawD_right _).2.1
theorem lawDs_len (j : Nat) : (tr (lawDs j)).length ≤ 50 * j := by
  have := tr_len_le (ds := lawDs j) fun d hd => by
    unfold lawDs at hd
    simp only [List.mem_map, List.mem_range] at hd
    obtain ⟨i, _, rfl⟩ := hd
    exact (lawD_raw _).1
  have e : (lawDs j).length = j := by simp [lawDs]
  rw [e] at this; exact this
/-- The files ahead of the lock, from which a fix takes m steps. -/
structure ReadyS (S1 : Fs) (m : Nat) : Prop where
  ex : ∃ st S0 ds r X S' ts, S1.putF nmL [] = ((st, 0), S0) ∧ Run ds r S0 st m X S' ts ∧ ((S0.readF nmT).1 = 0 → (S0.readF nmT).2.1 = tr ds ++ r ∧ Dns ds ∧ oneF r = none ∧ (tr ds ++ r).length ≤ 100000) ∧ S'.st nmT = ts ∧ 1 ≤ ts
theorem ready_whole (j : Nat) (hj : j ≤ 7) : (fs0 1048576).putF nmT (tr (lawDs j)) = ((1, 0), (fs0 1048576).write nmT (tr (lawDs j))) ∧ ReadyS ((fs0 1048576).write nmT (tr (lawDs j))) 1 := by
  have hl := lawDs_len j
  obtain ⟨h1, h2, h3⟩ := ls_new2 1048576 (tr (lawDs j)) [] (by decide) (by decide) (by show ((tr (lawDs j)).length : Int) + (0 : Nat) ≤ 1048576; omega)
  obtain ⟨X, hX⟩ := run_whole h3
  refine ⟨h1, ⟨2, _, lawDs j, [], X, _, 1, h2, hX, fun _ => ?_, (by_of h3.t).2.1, by decide⟩⟩
  rw [readF_of nmT_ok h3.t]
  exact ⟨by simp, lawDs_ok j, rfl, by rw [List.append_nil]; omega⟩
theorem ready_cut (j : Nat) (hj : j ≤ 7) : (fs0 1048576).putF nmT (tr (lawDs j) ++ [0, 0, 0]) = ((1, 0), (fs0 1048576).write nmT (tr (lawDs j) ++ [0, 0, 0])) ∧ ReadyS ((fs0 1048576).write nmT (tr (lawDs j) ++ [0, 0, 0])) 3 := by
  have hl := lawDs_len j
  have hl2 : (tr (lawDs j) ++ [0, 0, 0]).length = (tr (lawDs j)).length + 3 := by simp
  obtain ⟨h1, h2, h3⟩ := ls_new2 1048576 (tr (lawDs j) ++ [0, 0, 0]) [] (by decide) (by decide) (by rw [hl2]; show (((tr (lawDs j)).length + 3 : Nat) : Int) + (0 : Nat) ≤ 1048576; omega)
  obtain ⟨X, S', hX, hS, hlt⟩ := run_cut h3 (by simp) (by rw [hl2]; show (((tr (lawDs j)).length + 3 : Nat) : Int) + (0 : Nat) + _ ≤ 1048576; omega)
  refine ⟨h1, ⟨2, _, lawDs j, [0, 0, 0], X, S', S'.last, h2, hX, fun _ => ?_, (by_of hS.t).2.1, (hS.ts _ rfl).1⟩⟩
  rw [readF_of nmT_ok h3.t]
  exact ⟨rfl, lawDs_ok j, oneF_short (by simp), by rw [hl2]; omega⟩
theorem ready_none : ReadyS (fs0 1048576) 3 := by
  obtain ⟨h1, h2⟩ := ls_new 1048576 [] (by decide) (by decide) (by decide)
  obtain ⟨X, S', hX, hS, hlt⟩ := run_none h2 (by decide) [] []
  refine ⟨1, _, [], [], X, S', S'.last, h1, hX, fun e => ?_, (by_of hS.t).2.1, (hS.ts _ rfl).1⟩
  rw [readF_none nmT_ok h2.t] at e; cases e
set_option maxRecDepth 100000 in
set_option maxHeartbeats 8000000 in
theorem logssteps_any (n how : Int) (w : World) : Calls Try.prog 4 #[.int .i64 n, .int .i64 how] w fun e w' => e = .returned (.bool true) ∧ Below w.heap.size w w' := by
  obtain ⟨J, hJ, hJ1⟩ := maskN 3 (by decide) n 7 (by decide)
  obtain ⟨h, hh, hh1⟩ := maskN 2 (by decide) how 3 (by decide)
  go_enter Try.func4, Try.ntmps4
  go_wp2_with fail
  refine (new_h w 1048576).mono ?_
  rintro e w1 ⟨fb, mb, rfl, h0⟩
  have H0 := Lib.hid h0
  clear h0
  go_wp2_with fail
  go_loopw [6, 7] (fun t i wr => ∃ (j : Nat) (A : Option Addr) (tn tc : Nat), j ≤ J ∧ i = .int .i64 j ∧ t = .slice A tn tc ∧ Bs wr A tn (tr (lawDs j)) ∧ FsH w wr fb mb (fs0 1048576) 0) (fun _ i _ => J - (intOf i).toNat)
  case atStart => exact ⟨0, none, 0, 0, Nat.zero_le _, rfl, rfl, Bs.nil _ _, H0.out⟩
  case round =>
    clear H0
    obtain ⟨j, A, tn, tc, hj, rfl, rfl, hb, hf⟩ := hrel
    have HB := Lib.hid hb
    have HF := Lib.hid hf
    have htn := hb.len
    have htl := lawDs_len j
    clear hb hf
    by_cases hlt : j < J
    · go_wp2_with fail
      refine (lawDone_any (j : Int) _).mono ?_
      rintro e w2 ⟨⟨X, m, rfl, hx, hu, hm⟩, hb2⟩
      have HX := Lib.hid hx
      have HB2 := Lib.hid (HB.out.below hb2)
      have HF2 := Lib.hid (HF.out.below hb2)
      clear hx hu hb2 HB HF
      have hr := lawD_right (j : Int)
      go_wp2_with fail
      refine (rdone_any (lawD (j : Int)) X m 2 _ hr.1 HX.out).mono ?_
      rintro e w3 ⟨Y, yn, yc, rfl, hyn, hown, hnone, hb3⟩
      have hyn' := hyn.out
      have hrl := lawD_raw (j : Int)
      have HY := Lib.hid (own_bs hown (Dn.raw_bytes hr.2.1) (by omega))
      have HB3 := Lib.hid (HB2.out.below hb3)
      have HF3 := Lib.hid (HF2.out.below hb3)
      clear hyn hown hnone hb3 HB2 HF2 HX
      go_wp2_with fail
      refine (rput_any A Y tn yn tc yc (tr (lawDs j)) (lawD (j : Int)).raw _ HB3.out HY.out (by omega)).mono ?_
      rintro e w4 ⟨Z, zn, zc, rfl, hzn, hown, hnone, hb4⟩
      rw [← tr_snoc, ← lawDs_succ] at hzn hown
      have hzn' := hzn.out
      have hzl := lawDs_len (j + 1)
      have HZ := Lib.hid (own_bs hown (tr_bytes (lawDs_ok _)) (by omega))
      have HF4 := Lib.hid (HF3.out.below hb4)
      clear hzn hown hnone hb4 HB3 HF3 HY
      go_wp2_with fail
      exact ⟨⟨j + 1, Z, zn, zc, by omega, by go_num, rfl, HZ.out, HF4.out⟩, by simp [intOf]; omega⟩
    · obtain rfl : j = J := by omega
      go_upto_block 2 with fail
      go_cut [8] (fun s8 wx => ∃ (m : Nat) (S1 : Fs) (k1 : Nat), s8 = .int .i64 m ∧ FsH w wx fb mb S1 k1 ∧ k1 ≤ 1 ∧ ReadyS S1 m)
      case first =>
        by_cases h0 : h = 0
        · subst h0
          obtain ⟨hp, hR⟩ := ready_whole j (by omega)
          have HP := Lib.hid hp
          have HR := Lib.hid hR
          clear hp hR
          go_wp2_with fail
          refine (put_h HF.out (by omega) nmT (tr (lawDs j)) A tn tc (by decide) (by omega) HB.out).mono ?_
          rintro e w2 ⟨rfl, h1, o1⟩
          rw [HP.out] at h1 ⊢
          have HF2 := Lib.hid h1
          clear h1 o1 HF HB
          go_wp2_with fail
          go_meet
          exact ⟨1, _, 1, rfl, HF2.out, by omega, HR.out⟩
        by_cases h1 : h = 1
        · subst h1
          obtain ⟨hp, hR⟩ := ready_cut j (by omega)
          have HP := Lib.hid hp
          have HR := Lib.hid hR
          clear hp hR
          have hl3 : (tr (lawDs j) ++ [0, 0, 0]).length = tn + 3 := by simp [htn]
          go_wp2_with (first
            | (at_builtin
               refine wpList_app rfl (.tmp 39) (.tmp 40) 28 rfl Try.underlying28 u8i rfl (by decide) rfl (Own.lit wr [] 5 1 0 (Nat.le_refl _) rfl (by decide)) rfl (HB.out.alloc _).rd (ints_one _ _) (by omega) (by omega) (by simp) (Nat.zero_add _) (List.nil_append _) ?_
               intro X xc w2 hx1 hg1 hx2
               have HX := Lib.hid hx1
               have hsz2 : wr.heap.size ≤ w2.heap.size := by have := hg1.size; simp at this; omega
               have HB2 := Lib.hid (((Below.refl wr.heap.size wr).alloc (Nat.le_refl _) _).grown hg1 (by simp) (by intro k hk; simp [ob] at hk; omega))
               clear hx1 hg1 hx2)
            | (at_builtin
               refine wpList_app rfl (.tmp 41) (.tmp 42) 28 rfl Try.underlying28 u8i rfl (by decide) rfl (HX.out.alloc _) rfl (Rd.lit w2 #[.int .u8 0, .int .u8 0, .int .u8 0] 5 (0, 0) 1 3 rfl) (by simp [Value.oneCell']) (by omega) (by omega) (by simp; omega) rfl (show ints .u8 (tr (lawDs j)) ++ [Value.int .u8 0, .int .u8 0, .int .u8 0] = ints .u8 (tr (lawDs j) ++ [0, 0, 0]) by simp [ints]) ?_
               intro Y yc w3 hy1 hg3 hy2))
          have hb3 : Below wr.heap.size wr w3 := (HB2.out.alloc hsz2 _).grown hg3 (by simp; omega) (fun k hk => (HX.out.blk k hk).1)
          refine (put_h (HF.out.below hb3) (by omega) nmT (tr (lawDs j) ++ [0, 0, 0]) Y (tn + 3) yc (by decide) (by omega) (own_bs hy1 (bytes_app (tr_bytes (lawDs_ok _)) (by intro x hx; simp at hx; omega)) (by omega))).mono ?_
          rintro e w4 ⟨rfl, h1, o1⟩
          rw [HP.out] at h1 ⊢
          have HF2 := Lib.hid h1
          clear h1 o1 HF HB hb3 hy1 hg3 hy2 HB2 HX
          go_wp2_with fail
          go_meet
          exact ⟨3, _, 1, rfl, HF2.out, by omega, HR.out⟩
        · have hb0 : ((h : Int) == 0) = false := by rw [beq_eq_false_iff_ne]; omega
          have hb1 : ((h : Int) == 1) = false := by rw [beq_eq_false_iff_ne]; omega
          go_wp2_with fail
          go_meet
          exact ⟨3, _, 0, rfl, HF.out, by omega, ready_none⟩
      case rest =>
        obtain ⟨m, S1, k1, rfl, hf, hk1, hR⟩ := hcut
        obtain ⟨st, S0, ds, r, X, S', ts, hp, hrun, hrd, hst, hts⟩ := hR.ex
        have HP := Lib.hid hp
        have HR := Lib.hid hrun
        have HD := Lib.hid hrd
        have Hst := Lib.hid hst
        have HF1 := Lib.hid hf
        clear hf hR hp hrun hrd hst HF HB
        go_wp2_with fail
        refine (put_h HF1.out (by omega) nmL [] none 0 0 (by decide) (by omega) (Bs.nil _ _)).mono ?_
        rintro e w2 ⟨rfl, h1, o1⟩
        rw [HP.out] at h1 ⊢
        have HF2 := Lib.hid h1
        have hww : w.heap.size ≤ w2.heap.size := h1.bel.size
        clear h1 o1 HF1
        go_wp2_with fail
        refine (fixnew_any nmL nmP st _ (by decide) (by decide)).mono ?_
        rintro e w3 ⟨xb, rfl, hx, hb3⟩
        have HX := Lib.hid (show FixAt w3 w2.heap.size xb (fix0 st) from hx)
        have HF3 := Lib.hid (HF2.out.below hb3)
        have hbw := hb3.size
        clear hx hb3 HF2
        have hm0 := HR.out.m0
        have hm1 := HR.out.m1
        go_wp2_with fail
        go_loopw [12, 13] (fun i kv wr => ∃ q : Nat, q ≤ m ∧ i = .int .i64 ((q : Int) + 1) ∧ LoopX w w3 w2.heap.size fb mb xb (k1 + 1 + q) (X q) wr) (fun i _ _ => m + 1 - (intOf i).toNat)
        case atStart => exact ⟨0, by omega, rfl, by rw [HR.out.zero]; exact HX.out, by rw [HR.out.zero]; exact HF3.out, OnlyB.refl _ _ _⟩
        case round =>
          obtain ⟨q, hq, rfl, hx⟩ := hrel
          have HX2 := Lib.hid hx
          clear hx
          by_cases hlt3 : q < m
          · have hqm : (q : Int) + 1 ≤ (m : Int) := by omega
            go_wp2_with fail
            refine (run_step HR.out hlt3 HX2.out (by omega) hww hbw HD.out).mono ?_
            rintro e w4 ⟨rfl, hx⟩
            have HX3 := Lib.hid hx
            clear hx
            by_cases hqe : q + 1 = m
            · rw [show (X (q + 1)).1 = 1 by rw [hqe]; exact HR.out.hold]
              have he : ((q : Int) + 1 == (m : Int)) = true := by rw [beq_iff_eq]; omega
              go_wp2_with fail
              exact ⟨⟨q + 1, by omega, by go_num, HX3.out⟩, by simp [intOf]; omega⟩
            · rw [HR.out.work (q + 1) (by omega)]
              have he : ((q : Int) + 1 == (m : Int)) = false := by rw [beq_eq_false_iff_ne]; omega
              go_wp2_with fail
              exact ⟨⟨q + 1, by omega, by go_num, HX3.out⟩, by simp [intOf]; omega⟩
          · obtain rfl : q = m := by omega
            go_wp2_with fail
            refine (stamp_h HX2.out.fs nmT (by decide)).mono ?_
            rintro e w' ⟨rfl, rfl⟩
            rw [HR.out.fs, Hst.out]
            go_wp2_with fail
            refine (fixstep4_any HX2.out.fix _ HR.out.at_).mono ?_
            rintro e w' ⟨rfl, rfl⟩
            rw [HR.out.told]
            go_wp2_with fail
            refine (stamp_h HX2.out.fs nmT (by decide)).mono ?_
            rintro e w' ⟨rfl, rfl⟩
            rw [HR.out.fs, Hst.out]
            have hts0 : (0 : Int) < ts := by omega
            go_wp2_with fail
            refine (awake14_any _).mono ?_
            rintro e w5 ⟨rfl, hb5⟩
            have HF5 := Lib.hid (HX2.out.fs.below hb5)
            clear hb5 HX2
            go_wp2_with fail
            go_ret
            exact ⟨rfl, HF5.out.bel⟩
theorem logssteps_row {a b : Int} (_ : (Lit.int .i64 a).wf = true) (_ : (Lit.int .i64 b).wf = true) (w : World) : Calls Try.prog 4 #[.int .i64 a, .int .i64 b] w fun e w' => e = .returned (.bool true) ∧ Below w.heap.size w w' := logssteps_any a b w
end Go.Proofs.Ytebplbnkjpffpaa
