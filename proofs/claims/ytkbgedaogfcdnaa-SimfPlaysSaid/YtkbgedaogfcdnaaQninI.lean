/- The document's files (fettleref9): Append. -/
import Derived.Test.YtkbgedaogfcdnaaQninH
namespace Go.Proofs.Ytkbgedaogfcdnaa
set_option linter.unusedSimpArgs false
set_option linter.unusedVariables false
open Go.RowKit
open Crc (Bytes)
/-- What stands behind the two ifs. -/
structure MidQ (w wx : World) (base qb : Nat) (S : Fs) (k m d : Nat) (l : List Int) (B : Option Addr) : Prop where
  at_ : QAt wx base qb (S.mid m).2 k
  bs : Bs wx B m l
  only : Only [qb] w wx
section
variable {w : World} {base qb k : Nat} {S : Fs}
set_option maxRecDepth 100000 in
set_option maxHeartbeats 4000000 in
theorem qappend_any (h : QAt w base qb S k) (hf : QFin S) (hbs : base ≤ w.heap.size) (hk : k ≤ 40000) (s : ByteArray) (hs : fileB s = true → s ∈ okN) (hsz : s.size ≤ 1000) (l : List Int) (gs : List (ByteArray × Int)) (B : Option Addr) (m d : Nat) (Ag : Option Addr) (kg cg : Nat) (hb : Bs w B m l) (hu : ∀ ad, B = some ad → 0 < m → ad.block ≠ qb) (hm : m ≤ 100000) (hmd : m ≤ d) (hg : Grd w Ag kg gs) :
    Calls Try.prog 14 #[.pointer (some ⟨qb, 0, none⟩), .string s, .slice B m d, .slice Ag kg cg] w fun e w' => e = .returned (.tuple #[.int .i64 (S.appF s l gs).1.1, .int .i64 (S.appF s l gs).1.2]) ∧ QDone w base qb (S.appF s l gs).2 (k + 1) w' := by
  obtain ⟨A, n, c, xs, ho⟩ := h.op (by omega)
  have hl := hb.len
  have hnk := ho.nk
  have HO := Lib.hid ho
  have HA := Lib.hid h
  have HG := Lib.hid hg
  have HF := Lib.hid hf
  have HB := Lib.hid hb
  have HU := Lib.hid hu
  have Hsz := Lib.hid (show s.size ≤ 140737488355328 by omega)
  have HBy := Lib.hid (hf.by1 s)
  clear ho h hsz hg hf hb hu
  cases hfb : fileB s
  · have E := Lib.hid (show S.appF s l gs = ((0, 1), S) by unfold Fs.appF; rw [if_pos hfb])
    have Hfb := Lib.hid hfb
    clear hfb
    go_enter Try.func14, Try.ntmps14
    go_wp2_with fail
    refine (rfile4_any s _ Hsz.out).mono ?_
    rintro e w' ⟨rfl, rfl⟩
    rw [Hfb.out]
    go_wp2_with fail
    go_ret2
    exact ⟨by rw [E.out]; rfl, by rw [E.out]; exact QDone.stay HA.out (Below.refl _ _)⟩
  · have E0 := Lib.hid (show S.appF s l gs = if S.bad gs = true then ((0, 5), S) else if (S.mid m).1.2 ≠ 0 ∧ (S.mid m).1.1 = 0 then ((0, (S.mid m).1.2), (S.mid m).2) else ((if (S.mid m).1.2 = 0 then S.last + 1 else 0, (S.mid m).1.2), (S.mid m).2.write s (S.by s ++ l.take (S.mid m).1.1.toNat)) by unfold Fs.appF; rw [if_neg (by rw [hfb]; simp), hl])
    have Hs := Lib.hid (hs hfb)
    have Hfb := Lib.hid hfb
    clear hfb hs
    go_enter Try.func14, Try.ntmps14
    go_wp2_with fail
    refine (rfile4_any s _ Hsz.out).mono ?_
    rintro e w' ⟨rfl, rfl⟩
    rw [Hfb.out]
    go_wp2_with fail
    refine (qguarded_any HO.out.qs gs Ag kg cg HO.out.qb_ HG.out).mono ?_
    rintro e w2 ⟨rfl, hb2⟩
    have HB2 := Lib.hid hb2
    have hw2 := hb2.size
    clear hb2
    cases hbd : S.bad gs
    rotate_left
    · have E1 := Lib.hid (E0.out.trans (if_pos hbd))
      clear hbd
      go_wp2_with fail
      go_ret2
      exact ⟨by rw [E1.out]; rfl, by rw [E1.out]; exact QDone.stay HA.out HB2.out⟩
    have E1 := Lib.hid (E0.out.trans (if_neg (by rw [hbd]; simp)))
    have HO2 := Lib.hid (HO.out.qb_.below HB2.out)
    have c1 : w2.cell? ⟨qb, 1, none⟩ = some (.int .i64 S.room) := HO2.out.blk.cell 1
    obtain ⟨room, hroom⟩ : ∃ room, S.room = room := ⟨_, rfl⟩
    obtain ⟨u, hus⟩ : ∃ u, S.used = u := ⟨_, rfl⟩
    have hq1 : qsum xs = u := by rw [← HO.out.qs.used, hus]
    have Hq1 := Lib.hid hq1
    have HQu := Lib.hid (show qsum xs ≤ 70368744177664 by rw [← HO.out.qs.used]; exact HF.out.u1)
    have hu0 : 0 ≤ u := by rw [← hq1]; exact qsum_nonneg xs
    have hu1 : u ≤ 70368744177664 := by rw [← hus]; exact HF.out.u1
    have hr0 : 0 ≤ room := by rw [← hroom]; exact HF.out.r0
    have hr1 : room ≤ 1073741824 := by rw [← hroom]; exact HF.out.r1
    have hw1 : IntKind.i64.wrap (room - u) = room - u := by rw [IntKind.wrap_i64]; omega
    rw [hroom] at c1
    have HRoom := Lib.hid hroom
    have HUsed := Lib.hid hus
    obtain ⟨rest, hrest⟩ : ∃ rest, max (room - u) 0 = rest := ⟨_, rfl⟩
    have HRest := Lib.hid hrest
    clear hbd hq1 hroom hus hrest E0
    go_upto_region 6 with fail
    (refine wp_region_held_drew (S := fun w' => w'.cell? ⟨qb, 1, none⟩ = some (.int .i64 room)) (by kernel_rfl) (c1) (fun hHeld => ?_))
    (refine wpAnyH_take (i := 0) (oi := _) (v := ?_) (ops_at rfl) (by kernel_rfl) (by kernel_rfl) (by kernel_rfl) (fun _ _ _ h => h) (Or.inl ⟨by rfl, ?_⟩) (by assumption) ?_; rotate_left; (focus (intro w hSw; (try dsimp only at hSw); go_simp; (try with_reducible rfl))); (try simp only [Act.put, List.setIfInBounds_toArray, List.set_cons_zero, List.set_cons_succ])); (refine wpAnyH_take (i := 1) (oi := _) (v := ?_) (ops_at rfl) (by kernel_rfl) (by kernel_rfl) (by kernel_rfl) (fun _ _ _ h => h) (Or.inl ⟨by rfl, ?_⟩) (by assumption) ?_; rotate_left; (focus (intro w hSw; (try dsimp only at hSw); go_simp; (try with_reducible rfl))); (try simp only [Act.put, List.setIfInBounds_toArray, List.set_cons_zero, List.set_cons_succ])); (refine wpAnyH_take (i := 2) (oi := _) (v := ?_) (ops_at rfl) (by kernel_rfl) (by kernel_rfl) (by kernel_rfl) (fun _ _ _ h => h) (Or.inl ⟨by rfl, ?_⟩) (by assumption) ?_; rotate_left; (focus (intro w hSw; (try dsimp only at hSw); go_simp; (try with_reducible rfl))); (try simp only [Act.put, List.setIfInBounds_toArray, List.set_cons_zero, List.set_cons_succ])); (refine wpAnyH_take (i := 3) (oi := _) (v := ?_) (ops_at rfl) (by kernel_rfl) (by kernel_rfl) (by kernel_rfl) (fun _ _ _ h => h) (Or.inl ⟨by rfl, ?_⟩) (by assumption) ?_; rotate_left; (focus (intro w hSw; (try dsimp only at hSw); go_simp; (try with_reducible rfl))); (try simp only [Act.put, List.setIfInBounds_toArray, List.set_cons_zero, List.set_cons_succ])); (refine wpAnyH_take (i := 4) (oi := _) (v := ?_) (ops_at rfl) (by kernel_rfl) (by kernel_rfl) (by kernel_rfl) (fun _ _ _ h => h) (Or.inl ⟨by rfl, ?_⟩) (by assumption) ?_; rotate_left; (focus (intro w hSw; (try dsimp only at hSw); go_simp; (try with_reducible rfl))); (try simp only [Act.put, List.setIfInBounds_toArray, List.set_cons_zero, List.set_cons_succ]))
    (refine wpAnyH_ready (rs := [5]) (by kernel_rfl) (by simp) (AllReadyH.cons (ops_at rfl) (fun K hK => ?_) AllReadyH.nil); go_simp; (refine (qused_any HO2.out.drew HQu.out).mono ?_; rintro e w' ⟨rfl, rfl⟩; rw [Hq1.out]); refine hK.out _ _ (hHeld) (fun hHeld => ?_); clear hK K; (try simp only [Act.put, List.setIfInBounds_toArray, List.set_cons_zero, List.set_cons_succ]))
    (refine wpAnyH_take (i := 6) (oi := _) (v := ?_) (ops_at rfl) (by kernel_rfl) (by kernel_rfl) (by kernel_rfl) (fun _ _ _ h => h) (Or.inl ⟨by rfl, ?_⟩) (by assumption) ?_; rotate_left; (focus (intro w hSw; (try dsimp only at hSw); go_simp; (try with_reducible rfl))); (try simp only [Act.put, List.setIfInBounds_toArray, List.set_cons_zero, List.set_cons_succ])); (refine wpAnyH_take (i := 7) (oi := _) (v := ?_) (ops_at rfl) (by kernel_rfl) (by kernel_rfl) (by kernel_rfl) (fun _ _ _ h => h) (Or.inl ⟨by rfl, ?_⟩) (by assumption) ?_; rotate_left; (focus (intro w hSw; (try dsimp only at hSw); go_simp; (try with_reducible rfl))); (try simp only [Act.put, List.setIfInBounds_toArray, List.set_cons_zero, List.set_cons_succ])); (refine wpAnyH_take (i := 8) (oi := _) (v := ?_) (ops_at rfl) (by kernel_rfl) (by kernel_rfl) (by kernel_rfl) (fun _ _ _ h => h) (Or.inl ⟨by rfl, ?_⟩) (by assumption) ?_; rotate_left; (focus (intro w hSw; (try dsimp only at hSw); go_simp; (try with_reducible rfl))); (try simp only [Act.put, List.setIfInBounds_toArray, List.set_cons_zero, List.set_cons_succ]))
    (refine wpAnyH_done (by kernel_rfl) ?_ _)
    rw [HRest.out]
    clear hHeld c1
    have hrm : 0 ≤ rest ∧ (rest < (m : Int) ↔ room < u + (m : Int) ∧ 0 < m) := by have := HRest.out; constructor; omega; constructor; intro h; omega; intro h; omega
    have Hrm := Lib.hid hrm
    clear hrm
    go_upto_if 35 with fail
    obtain ⟨n1, hn1⟩ : ∃ n1 : Int, (if rest < (m : Int) then rest else (m : Int)) = n1 := ⟨_, rfl⟩
    obtain ⟨e1, he1⟩ : ∃ e1 : Int, (if rest < (m : Int) then (2 : Int) else 0) = e1 := ⟨_, rfl⟩
    have HN1 := Lib.hid hn1
    have HE1 := Lib.hid he1
    clear hn1 he1
    go_cut [10, 11] (fun v x wx => v = .int .i64 n1 ∧ x = .int .i64 e1 ∧ wx = w2.drew)
    case first =>
      by_cases hlt : rest < (m : Int)
      · have e1' := Lib.hid (HN1.out.symm.trans (if_pos hlt))
        have e2' := Lib.hid (HE1.out.symm.trans (if_pos hlt))
        go_wp2_with fail
        go_meet
        exact ⟨by rw [e1'.out], by rw [e2'.out], rfl⟩
      · have e1' := Lib.hid (HN1.out.symm.trans (if_neg hlt))
        have e2' := Lib.hid (HE1.out.symm.trans (if_neg hlt))
        go_wp2_with fail
        go_meet
        exact ⟨by rw [e1'.out], by rw [e2'.out], rfl⟩
    case rest =>
      obtain ⟨rfl, rfl, hwc⟩ := hcut
      have hbc : Below w2.heap.size w2 wc := by rw [hwc]; exact (Below.refl _ _).drew
      have HBc := Lib.hid (HB2.out.trans (hbc.mono hw2))
      have HOc := Lib.hid (HO2.out.below hbc)
      have c3 : wc.cell? ⟨qb, 3, none⟩ = some (.int .i64 (cutV S)) := HOc.out.blk.cell 3
      have z3 : wc.frozen? ⟨qb, 3, none⟩ = false := HOc.out.blk.frozen 3
      have hb1 := Lib.hid (HB.out.below HBc.out)
      obtain ⟨cv, hcv⟩ : ∃ cv, cutV S = cv := ⟨_, rfl⟩
      rw [hcv] at c3
      have HCv := Lib.hid hcv
      clear hbc hwc HO2 hcv
      go_upto_if 41 with fail
      go_cut [10, 11] (fun v x wx => v = .int .i64 (S.mid m).1.1 ∧ x = .int .i64 (S.mid m).1.2 ∧ MidQ w wx base qb S k m d l B)
      case first =>
        cases hct : S.cuts
        · have hc0 : ¬ 0 ≤ cv := by rw [← HCv.out]; unfold cutV; rw [hct]; simp
          have hmd1 := Lib.hid (show (S.mid m).1.1 = n1 ∧ (S.mid m).1.2 = e1 ∧ (S.mid m).2 = S by
            rw [← HN1.out, ← HE1.out]
            have h2 := Hrm.out.2
            unfold Fs.mid
            rw [if_neg (by rw [hct]; simp), HRoom.out, HUsed.out]
            by_cases hlt : rest < (m : Int)
            · rw [if_pos (h2.1 hlt), if_pos hlt, if_pos hlt, HRest.out]; exact ⟨rfl, rfl, rfl⟩
            · rw [if_neg (fun h => hlt (h2.2 h)), if_neg hlt, if_neg hlt]; exact ⟨rfl, rfl, rfl⟩)
          clear hct
          go_wp2_with fail
          go_meet
          exact ⟨by rw [hmd1.out.1], by rw [hmd1.out.2.1], ⟨by rw [hmd1.out.2.2]; exact HA.out.below HBc.out, hb1.out, Only.of_below HBc.out [qb]⟩⟩
        · have HCu := Lib.hid (show S.cut = cv by rw [← HCv.out]; unfold cutV; rw [hct]; simp)
          have hmd1 := Lib.hid (show (S.mid m).1.1 = min S.cut (m : Int) ∧ (S.mid m).1.2 = 7 ∧ (S.mid m).2 = { S with cuts := false } by
            unfold Fs.mid
            rw [if_pos hct]; exact ⟨rfl, rfl, rfl⟩)
          have hc0 : 0 ≤ cv := by rw [← HCu.out]; exact HF.out.c0
          clear hct
          go_wp2_with fail
          go_meet
          refine ⟨by rw [hmd1.out.1, HCu.out], by rw [hmd1.out.2.1], ⟨?_, hb1.out.only ((Only.refl [qb] wc).setCell (p := ⟨qb, 3, none⟩) (.inl (by simp)) _) (fun ad hA h0 hmm => by simp at hmm; exact HU.out ad hA h0 hmm), (Only.of_below HBc.out [qb]).setCell (p := ⟨qb, 3, none⟩) (.inl (by simp)) _⟩⟩
          rw [hmd1.out.2.2]
          have hB := HOc.out.setc 3 (.int .i64 (-1)) (r2 := S.room) (l2 := S.last) (c2 := -1) rfl
          exact ⟨⟨A, n, c, xs, hB.blk, hB.row, ⟨HO.out.qs.mem, HO.out.qs.all, HO.out.qs.up, HO.out.qs.used⟩, by have := HO.out.nk; omega, HO.out.nm⟩, HO.out.hb⟩
      case rest =>
        obtain ⟨rfl, rfl, hmid⟩ := hcut
        obtain ⟨Wm, hWm⟩ : ∃ Wm, Wm = wc := ⟨_, rfl⟩
        subst hWm
        have HM := Lib.hid hmid
        obtain ⟨hb0, hb1⟩ := S.mid_bd m HF.out.c0
        obtain ⟨a, ha⟩ : ∃ a, (S.mid m).1.1 = a := ⟨_, rfl⟩
        obtain ⟨e, he⟩ : ∃ e, (S.mid m).1.2 = e := ⟨_, rfl⟩
        rw [ha] at hb0 hb1
        obtain ⟨an, rfl⟩ := Int.eq_ofNat_of_zero_le hb0
        have ham : an ≤ m := by omega
        have E2 := Lib.hid (show S.appF s l gs = if e ≠ 0 ∧ an = 0 then ((0, e), (S.mid m).2) else ((if e = 0 then S.last + 1 else 0, e), (S.mid m).2.write s (S.by s ++ l.take an)) by
          rw [E1.out, ha, he]
          by_cases h : e ≠ 0 ∧ an = 0
          · rw [if_pos h, if_pos ⟨h.1, by rw [h.2]; rfl⟩]
          · rw [if_neg h, if_neg (fun h2 => h ⟨h2.1, by have := h2.2; omega⟩)]; rfl)
        rw [ha, he]
        have hlast : (S.mid m).2.last = S.last := S.mid_last m
        have hbyS : (S.mid m).2.by s = S.by s := S.mid_by m s
        have HL := Lib.hid hlast
        have HBS := Lib.hid hbyS
        clear hmid hb1 hb0 ha he hlast hbyS E1 HN1 HE1 Hrm HRest HRoom HUsed
        go_upto_region 12 with fail
        go_cut [57] (fun v wx => v = .bool (decide (e ≠ 0 ∧ an = 0)) ∧ wx = Wm)
        case first =>
          by_cases he0 : e = 0
          · subst he0
            go_wp2_with fail
            go_meet
            exact ⟨by simp, rfl⟩
          · have heb : (e == 0) = false := by rw [beq_eq_false_iff_ne]; exact he0
            by_cases ha0 : an = 0
            · have hab : ((an : Int) == 0) = true := by rw [beq_iff_eq]; omega
              have Hd := Lib.hid (show decide (e ≠ 0 ∧ an = 0) = true from decide_eq_true ⟨he0, ha0⟩)
              have heb2 : (e != 0) = true := by simp [he0]
              clear ha0
              go_wp2_with fail
              go_meet
              exact ⟨by rw [Hd.out], rfl⟩
            · have hab : ((an : Int) == 0) = false := by rw [beq_eq_false_iff_ne]; omega
              have Hd := Lib.hid (show decide (e ≠ 0 ∧ an = 0) = false from decide_eq_false fun h => ha0 h.2)
              have heb2 : (e != 0) = true := by simp [he0]
              clear ha0
              go_wp2_with fail
              go_meet
              exact ⟨by rw [Hd.out], rfl⟩
        case rest =>
          obtain ⟨rfl, hwm⟩ := hcut
          subst hwm
          by_cases hne : e ≠ 0 ∧ an = 0
          · have Hd := decide_eq_true hne
            have E3 := Lib.hid (E2.out.trans (if_pos hne))
            rw [Hd]
            clear Hd hne
            go_wp2_with fail
            go_ret2
            exact ⟨by rw [E3.out]; rfl, by rw [E3.out]; exact ⟨HM.out.at_.more (by omega), HM.out.only⟩⟩
          have Hd := decide_eq_false hne
          rw [Hd]
          clear Hd
          have E3 := Lib.hid (E2.out.trans (if_neg hne))
          obtain ⟨A2, n2, c2, xs2, ho2⟩ := HM.out.at_.op (by omega)
          have hn2 := ho2.nk
          have HO2 := Lib.hid ho2
          have HBm := Lib.hid HM.out.bs
          have hs1 := fun w => slice_upto (P := Try.prog) (A := B) (n := m) (c := d) (kk := .i64) (k := an) Try.underlying30 u8s ham hmd w
          have hbm : base ≤ wc.heap.size := Nat.le_trans hbs HM.out.only.size
          obtain ⟨L, hL⟩ : ∃ L, (S.by s).length = L := ⟨_, rfl⟩
          have hLb : L ≤ 100000000 := by rw [← hL]; exact HBy.out
          have HLL := Lib.hid hL
          clear hne ho2 E2 hL
          go_upto_region 14 with fail
          (refine wp_region_held_drew (S := fun _ => True) (by kernel_rfl) (trivial) (fun hHeld => ?_))
          (refine wpAnyH_take (i := 0) (oi := _) (v := ?_) (ops_at rfl) (by kernel_rfl) (by kernel_rfl) (by kernel_rfl) (fun _ _ _ h => h) (Or.inl ⟨by rfl, ?_⟩) (by assumption) ?_; rotate_left; (focus (intro w hSw; (try dsimp only at hSw); go_simp; (try with_reducible rfl))); (try simp only [Act.put, List.setIfInBounds_toArray, List.set_cons_zero, List.set_cons_succ])); (refine wpAnyH_take (i := 1) (oi := _) (v := ?_) (ops_at rfl) (by kernel_rfl) (by kernel_rfl) (by kernel_rfl) (fun _ _ _ h => h) (Or.inl ⟨by rfl, ?_⟩) (by assumption) ?_; rotate_left; (focus (intro w hSw; (try dsimp only at hSw); go_simp; (try with_reducible rfl))); (try simp only [Act.put, List.setIfInBounds_toArray, List.set_cons_zero, List.set_cons_succ])); (refine wpAnyH_take (i := 3) (oi := _) (v := ?_) (ops_at rfl) (by kernel_rfl) (by kernel_rfl) (by kernel_rfl) (fun _ _ _ h => h) (Or.inl ⟨by rfl, ?_⟩) (by assumption) ?_; rotate_left; (focus (intro w hSw; (try dsimp only at hSw); go_simp; (try with_reducible rfl))); (try simp only [Act.put, List.setIfInBounds_toArray, List.set_cons_zero, List.set_cons_succ])); (refine wpAnyH_take (i := 4) (oi := _) (v := ?_) (ops_at rfl) (by kernel_rfl) (by kernel_rfl) (by kernel_rfl) (fun _ _ _ h => h) (Or.inl ⟨by rfl, ?_⟩) (by assumption) ?_; rotate_left; (focus (intro w hSw; (try dsimp only at hSw); go_simp; (try with_reducible rfl))); (try simp only [Act.put, List.setIfInBounds_toArray, List.set_cons_zero, List.set_cons_succ])); (refine wpAnyH_take (i := 7) (oi := _) (v := ?_) (ops_at rfl) (by kernel_rfl) (by kernel_rfl) (by kernel_rfl) (fun _ _ _ h => h) (Or.inl ⟨by rfl, ?_⟩) (by assumption) ?_; rotate_left; (focus (intro w hSw; (try dsimp only at hSw); go_simp; (try with_reducible rfl))); (try simp only [Act.put, List.setIfInBounds_toArray, List.set_cons_zero, List.set_cons_succ])); (refine wpAnyH_take (i := 8) (oi := _) (v := ?_) (ops_at rfl) (by kernel_rfl) (by kernel_rfl) (by kernel_rfl) (fun _ _ _ h => h) (Or.inl ⟨by rfl, ?_⟩) (by assumption) ?_; rotate_left; (focus (intro w hSw; (try dsimp only at hSw); go_simp; (try with_reducible rfl))); (try simp only [Act.put, List.setIfInBounds_toArray, List.set_cons_zero, List.set_cons_succ])); (refine wpAnyH_take (i := 9) (oi := _) (v := ?_) (ops_at rfl) (by kernel_rfl) (by kernel_rfl) (by kernel_rfl) (fun _ _ _ h => h) (Or.inl ⟨by rfl, ?_⟩) (by assumption) ?_; rotate_left; (focus (intro w hSw; (try dsimp only at hSw); go_simp; (try with_reducible rfl))); (try simp only [Act.put, List.setIfInBounds_toArray, List.set_cons_zero, List.set_cons_succ]))
          (refine wpAnyH_ready (rs := [2, 5]) (by kernel_rfl) (by simp) (AllReadyH.cons (ops_at rfl) (fun K hK => ?_) (AllReadyH.cons (ops_at rfl) (fun K hK => ?_) AllReadyH.nil)))
          · (go_simp; skip; refine hK.out _ _ (trivial) (fun hHeld => ?_); clear hK K; (try simp only [Act.put, List.setIfInBounds_toArray, List.set_cons_zero, List.set_cons_succ]))
            have HB4 := Lib.hid (show Below wc.heap.size wc (wc.drew.alloc (Obj.cells #[] 5)) from (Below.refl _ wc).drew.alloc (Nat.le_refl _) _)
            (refine wpAnyH_ready (rs := [5]) (by kernel_rfl) (by simp) (AllReadyH.cons (ops_at rfl) (fun K hK => ?_) AllReadyH.nil); go_simp; (refine (qhas_any s HO2.out.qs (HO2.out.qb_.below HB4.out)).mono ?_; rintro e2 w' ⟨⟨X, xd, rfl, hxb, hxu, hxc⟩, rfl⟩; rw [HBS.out, HLL.out] at hxb ⊢); refine hK.out _ _ (trivial) (fun hHeld => ?_); clear hK K; (try simp only [Act.put, List.setIfInBounds_toArray, List.set_cons_zero, List.set_cons_succ]))
            (refine wpAnyH_ready (rs := [6]) (by kernel_rfl) (by simp) (AllReadyH.cons (ops_at rfl) (fun K hK => ?_) AllReadyH.nil); rw [if_pos (by rfl)]; refine wp_app (.tmp 61) (.tmp 64) 30 rfl Try.underlying30 u8i rfl (by decide) rfl (Own.lit wc.drew [] 5 1 0 (Nat.le_refl _) rfl (by decide)) rfl (show Rd (wc.drew.alloc (Obj.cells #[] 5)) 1 X L (ints .u8 (S.by s)) from hxb.rd) (ints_one _ _) (by omega) (by omega) (by simp) (Nat.zero_add _) (List.nil_append _) ?_; intro Y yc w5 hy5 hg5 _; have HB5 := Lib.hid (HB4.out.grown hg5 (by simp) (fun j hj => by cases hj; exact Nat.le_refl _)); have HY5 := Lib.hid (show Own w5 wc.heap.size 5 1 Y L yc (ints .u8 (S.by s)) from hy5); clear hy5 hg5; refine hK.out _ _ (trivial) (fun hHeld => ?_); clear hK K; (try simp only [Act.put, List.setIfInBounds_toArray, List.set_cons_zero, List.set_cons_succ]))
            (refine wpAnyH_ready (rs := [10]) (by kernel_rfl) (by simp) (AllReadyH.cons (ops_at rfl) (fun K hK => ?_) AllReadyH.nil); rw [if_pos (by rfl)]; refine wp_app (.tmp 65) (.tmp 68) 30 rfl Try.underlying30 u8i rfl (by decide) rfl HY5.out rfl ((HBm.out.take ham).below HB5.out).rd (ints_one _ _) (by omega) (by omega) HB5.out.size rfl (show ints .u8 (S.by s) ++ ints .u8 (l.take an) = ints .u8 (S.by s ++ l.take an) by simp [ints]) ?_; intro Z zc w6 hz6 hg6 _; have HB6 := Lib.hid (HB5.out.grown hg6 HB5.out.size (fun j hj => (HY5.out.blk j hj).1)); have HZ6 := Lib.hid (show Own w6 wc.heap.size 5 1 Z (L + an) zc (ints .u8 (S.by s ++ l.take an)) from hz6); clear hz6 hg6; refine hK.out _ _ (trivial) (fun hHeld => ?_); clear hK K; (try simp only [Act.put, List.setIfInBounds_toArray, List.set_cons_zero, List.set_cons_succ]))
            have hbb : Bytes (S.by s ++ l.take an) := bytes_app hxb.by_ (HBm.out.take ham).by_
            have HZb := Lib.hid (own_bs9 HZ6.out hbb (show L + an ≤ _ by omega))
            have HZu := Lib.hid (fun (ad : Addr) (hA : Z = some ad) (h0 : 0 < L + an) => (U8.of_own HZ6.out).ne (HO2.out.qb_.blk.below HB6.out) (by decide) ad hA h0)
            have hbw6 : base ≤ w6.heap.size := Nat.le_trans hbm HB6.out.size
            clear hxb hxu hxc hbb
            (refine wpAnyH_ready (rs := [11]) (by kernel_rfl) (by simp) (AllReadyH.cons (ops_at rfl) (fun K hK => ?_) AllReadyH.nil); go_simp; (refine (qset_any s (S.by s ++ l.take an) Z (L + an) zc hbw6 (HO2.out.qb_.below HB6.out) HZb.out HZu.out (by omega) (by rw [HL.out]; exact HF.out.l0) (by rw [HL.out]; exact HF.out.l1) (by omega)).mono ?_; rintro e2 w7 ⟨rfl, hq⟩; rw [HL.out]; have HQ := Lib.hid hq; clear hq); refine hK.out _ _ (trivial) (fun hHeld => ?_); clear hK K; (try simp only [Act.put, List.setIfInBounds_toArray, List.set_cons_zero, List.set_cons_succ]))
            (refine wpAnyH_take (i := 12) (oi := _) (v := ?_) (ops_at rfl) (by kernel_rfl) (by kernel_rfl) (by kernel_rfl) (fun _ _ _ h => h) (Or.inl ⟨by rfl, ?_⟩) (by assumption) ?_; rotate_left; (focus (intro w hSw; (try dsimp only at hSw); go_simp; (try with_reducible rfl))); (try simp only [Act.put, List.setIfInBounds_toArray, List.set_cons_zero, List.set_cons_succ]))
            (refine wpAnyH_done (by kernel_rfl) ?_ _)
            clear hHeld
            have HD := Lib.hid (show QDone w base qb ((S.mid m).2.write s (S.by s ++ l.take an)) (k + 1) w7 from ⟨HQ.out.at_ HO2.out.qs HO2.out.nm Hs.out HO2.out.nk HO2.out.hb, (HM.out.only.trans (Only.of_below HB6.out [qb])).trans HQ.out.only⟩)
            clear HQ
            by_cases he0 : e = 0
            · subst he0
              go_wp2_with fail
              go_ret2
              rw [E3.out]
              exact ⟨rfl, HD.out⟩
            · have heb : (e == 0) = false := by rw [beq_eq_false_iff_ne]; exact he0
              have heb2 : (e != 0) = true := by simp [he0]
              have E4 := Lib.hid (E3.out.trans (by rw [if_neg he0]))
              go_wp2_with fail
              go_ret2
              rw [E4.out]
              exact ⟨rfl, HD.out⟩
          · (go_simp; (refine (qhas_any s HO2.out.qs (HO2.out.qb_.below (Below.refl _ wc).drew)).mono ?_; rintro e2 w' ⟨⟨X, xd, rfl, hxb, hxu, hxc⟩, rfl⟩; rw [HBS.out, HLL.out] at hxb ⊢); refine hK.out _ _ (trivial) (fun hHeld => ?_); clear hK K; (try simp only [Act.put, List.setIfInBounds_toArray, List.set_cons_zero, List.set_cons_succ]))
            have HB4 := Lib.hid (show Below wc.heap.size wc (wc.drew.alloc (Obj.cells #[] 5)) from (Below.refl _ wc).drew.alloc (Nat.le_refl _) _)
            (refine wpAnyH_ready (rs := [2]) (by kernel_rfl) (by simp) (AllReadyH.cons (ops_at rfl) (fun K hK => ?_) AllReadyH.nil); go_simp; skip; refine hK.out _ _ (trivial) (fun hHeld => ?_); clear hK K; (try simp only [Act.put, List.setIfInBounds_toArray, List.set_cons_zero, List.set_cons_succ]))
            have hxb := hxb.alloc (Obj.cells #[] 5)
            (refine wpAnyH_ready (rs := [6]) (by kernel_rfl) (by simp) (AllReadyH.cons (ops_at rfl) (fun K hK => ?_) AllReadyH.nil); rw [if_pos (by rfl)]; refine wp_app (.tmp 61) (.tmp 64) 30 rfl Try.underlying30 u8i rfl (by decide) rfl (Own.lit wc.drew [] 5 1 0 (Nat.le_refl _) rfl (by decide)) rfl (show Rd (wc.drew.alloc (Obj.cells #[] 5)) 1 X L (ints .u8 (S.by s)) from hxb.rd) (ints_one _ _) (by omega) (by omega) (by simp) (Nat.zero_add _) (List.nil_append _) ?_; intro Y yc w5 hy5 hg5 _; have HB5 := Lib.hid (HB4.out.grown hg5 (by simp) (fun j hj => by cases hj; exact Nat.le_refl _)); have HY5 := Lib.hid (show Own w5 wc.heap.size 5 1 Y L yc (ints .u8 (S.by s)) from hy5); clear hy5 hg5; refine hK.out _ _ (trivial) (fun hHeld => ?_); clear hK K; (try simp only [Act.put, List.setIfInBounds_toArray, List.set_cons_zero, List.set_cons_succ]))
            (refine wpAnyH_ready (rs := [10]) (by kernel_rfl) (by simp) (AllReadyH.cons (ops_at rfl) (fun K hK => ?_) AllReadyH.nil); rw [if_pos (by rfl)]; refine wp_app (.tmp 65) (.tmp 68) 30 rfl Try.underlying30 u8i rfl (by decide) rfl HY5.out rfl ((HBm.out.take ham).below HB5.out).rd (ints_one _ _) (by omega) (by omega) HB5.out.size rfl (show ints .u8 (S.by s) ++ ints .u8 (l.take an) = ints .u8 (S.by s ++ l.take an) by simp [ints]) ?_; intro Z zc w6 hz6 hg6 _; have HB6 := Lib.hid (HB5.out.grown hg6 HB5.out.size (fun j hj => (HY5.out.blk j hj).1)); have HZ6 := Lib.hid (show Own w6 wc.heap.size 5 1 Z (L + an) zc (ints .u8 (S.by s ++ l.take an)) from hz6); clear hz6 hg6; refine hK.out _ _ (trivial) (fun hHeld => ?_); clear hK K; (try simp only [Act.put, List.setIfInBounds_toArray, List.set_cons_zero, List.set_cons_succ]))
            have hbb : Bytes (S.by s ++ l.take an) := bytes_app hxb.by_ (HBm.out.take ham).by_
            have HZb := Lib.hid (own_bs9 HZ6.out hbb (show L + an ≤ _ by omega))
            have HZu := Lib.hid (fun (ad : Addr) (hA : Z = some ad) (h0 : 0 < L + an) => (U8.of_own HZ6.out).ne (HO2.out.qb_.blk.below HB6.out) (by decide) ad hA h0)
            have hbw6 : base ≤ w6.heap.size := Nat.le_trans hbm HB6.out.size
            clear hxb hxu hxc hbb
            (refine wpAnyH_ready (rs := [11]) (by kernel_rfl) (by simp) (AllReadyH.cons (ops_at rfl) (fun K hK => ?_) AllReadyH.nil); go_simp; (refine (qset_any s (S.by s ++ l.take an) Z (L + an) zc hbw6 (HO2.out.qb_.below HB6.out) HZb.out HZu.out (by omega) (by rw [HL.out]; exact HF.out.l0) (by rw [HL.out]; exact HF.out.l1) (by omega)).mono ?_; rintro e2 w7 ⟨rfl, hq⟩; rw [HL.out]; have HQ := Lib.hid hq; clear hq); refine hK.out _ _ (trivial) (fun hHeld => ?_); clear hK K; (try simp only [Act.put, List.setIfInBounds_toArray, List.set_cons_zero, List.set_cons_succ]))
            (refine wpAnyH_take (i := 12) (oi := _) (v := ?_) (ops_at rfl) (by kernel_rfl) (by kernel_rfl) (by kernel_rfl) (fun _ _ _ h => h) (Or.inl ⟨by rfl, ?_⟩) (by assumption) ?_; rotate_left; (focus (intro w hSw; (try dsimp only at hSw); go_simp; (try with_reducible rfl))); (try simp only [Act.put, List.setIfInBounds_toArray, List.set_cons_zero, List.set_cons_succ]))
            (refine wpAnyH_done (by kernel_rfl) ?_ _)
            clear hHeld
            have HD := Lib.hid (show QDone w base qb ((S.mid m).2.write s (S.by s ++ l.take an)) (k + 1) w7 from ⟨HQ.out.at_ HO2.out.qs HO2.out.nm Hs.out HO2.out.nk HO2.out.hb, (HM.out.only.trans (Only.of_below HB6.out [qb])).trans HQ.out.only⟩)
            clear HQ
            by_cases he0 : e = 0
            · subst he0
              go_wp2_with fail
              go_ret2
              rw [E3.out]
              exact ⟨rfl, HD.out⟩
            · have heb : (e == 0) = false := by rw [beq_eq_false_iff_ne]; exact he0
              have heb2 : (e != 0) = true := by simp [he0]
              have E4 := Lib.hid (E3.out.trans (by rw [if_neg he0]))
              go_wp2_with fail
              go_ret2
              rw [E4.out]
              exact ⟨rfl, HD.out⟩
end
end Go.Proofs.Ytkbgedaogfcdnaa
