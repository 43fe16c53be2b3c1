/- Locks: LockEpochs. -/
import Derived.Test.YtahdeighocmijaaGreatDoorLLost
namespace Go.Proofs.YtahdeighocmijaaGreatDoor
set_option linter.unusedSimpArgs false
set_option linter.unusedVariables false
open Go.RowKit
open Crc (Bytes)
/-- The lock behind i rounds. -/
def EpC (i now : Nat) (S : Fs) : Prop := (i = 0 ∧ LC nmC 10000 S none) ∨ (∃ L st, 1 ≤ i ∧ LC nmC 10000 S (some (Lk.bytes L, st)) ∧ 0 ≤ L.who ∧ L.who ≤ 3 ∧ L.inc = i ∧ L.epoch = i ∧ 0 ≤ L.till ∧ L.till ≤ now)
theorem EpC.lc {i now : Nat} {S : Fs} (h : EpC i now S) : ∃ C, LC nmC 10000 S C := by
  rcases h with ⟨_, h⟩ | ⟨L, st, _, h, _⟩
  · exact ⟨_, h⟩
  · exact ⟨_, h⟩
theorem ep_taken (i now who : Nat) (hi : i < 40) (hn : now ≤ 90 * i) (hw : who ≤ 3) {S : Fs} (h : EpC i now S) :
    ∃ m X t S1, TRun now S (tk0 nmC (tmpOf who (i + 1) 3) who (i + 1 : Nat) 30) m X 1 t S1 ∧ t.gn = nmC ∧ t.gs = S1.last ∧ t.l = ⟨who, (i + 1 : Nat), (i + 1 : Nat), now + 30⟩ ∧ LC nmC 10000 S1 (some (Lk.bytes ⟨who, (i + 1 : Nat), (i + 1 : Nat), now + 30⟩, S1.last)) ∧ (S.readF nmC).2.1.length ≤ 100000 := by
  have hc : clampN (now : Int) = now := clamp_le (by omega) (by omega)
  rcases h with ⟨rfl, h⟩ | ⟨L, st, h1, h, a1, a2, a3, a4, a5, a6⟩
  · obtain ⟨X, t, r, g1, g2, g3⟩ := take_none h nmC_ok (by decide) (tmpOf who 1 3) who (1 : Nat) 30 now (tmp_size _ _ _) (by decide) (by decide) (by decide)
    rw [hc] at r g3
    exact ⟨2, X, t, _, r, g1, g2, g3, h.write _, by rw [readF_none nmC_ok h.c]; decide⟩
  · have ho : openLk L.bytes = some L := openLk_bytes (lk_small ⟨a1, by omega⟩ ⟨by omega, by omega⟩ ⟨by omega, by omega⟩ ⟨a5, by omega⟩)
    have hl : lookL (openLk L.bytes) who ((i + 1 : Nat) : Int) (clampN now) = (L, 3) := by
      rw [ho, hc]
      unfold lookL
      simp only
      rw [if_neg (by unfold lkTop; omega), if_neg (by omega), if_pos (.inl a6)]
    obtain ⟨X, t, S1, r, b1, b2, b3, c3, _⟩ := take_open h nmC_ok (by decide) (tmpOf who (i + 1) 3) who ((i + 1 : Nat) : Int) 30 now (tmp_size _ _ _) (by decide) (by decide) L hl (by omega) (by omega) (tmp_ok _ _ _ (by omega) (by omega) (by decide)) (tmp_ne _ _ _) (by rw [Lk.bytes_len]; decide)
    have e : (⟨who, ((i + 1 : Nat) : Int), L.epoch + 1, clampN now + 30⟩ : Lk) = ⟨who, (i + 1 : Nat), (i + 1 : Nat), now + 30⟩ := lk_ext rfl rfl (by show L.epoch + 1 = ((i + 1 : Nat) : Int); omega) (by show clampN now + 30 = (now : Int) + 30; rw [hc])
    rw [e] at b3 c3
    exact ⟨3, X, t, S1, r, b1, b2, b3, c3, by rw [readF_of nmC_ok h.c, Lk.bytes_len]; decide⟩
/-- The renewed one is another's. -/
theorem ep_busy {S : Fs} {L : Lk} {st : Int} (now : Nat) (h : LC nmC 10000 S (some (L.bytes, st))) (ho : openLk L.bytes = some L) (h1 : L.who ≤ 3) (h2 : L.epoch ≤ 1000) (h3 : L.till = now + 90) (hn : now ≤ 4000) :
    ∃ X t, TRun ((now + 89 : Nat) : Int) S (tk0 nmC (tmpOf 5 1 3) (5 : Nat) (1 : Nat) 30) 1 X 2 t S := by
  have hc : clampN ((now + 89 : Nat) : Int) = now + 89 := by rw [clamp_le (by omega) (by omega)]; omega
  obtain ⟨X, t, q, r, _, q4, _⟩ := take_one h nmC_ok (by decide) (tmpOf 5 1 3) (5 : Nat) (1 : Nat) 30 ((now + 89 : Nat) : Int) (tmp_size _ _ _) (by decide) (by decide) L 4 (by rw [ho, hc]; unfold lookL; simp only; rw [if_neg (by unfold lkTop; omega), if_neg (by omega), if_neg (by omega)]) (by decide)
  obtain rfl := q4 rfl
  exact ⟨X, t, r⟩
theorem ep_open {i : Nat} {L : Lk} (hi : i ≤ 40) (a1 : 0 ≤ L.who) (a2 : L.who ≤ 3) (a3 : L.inc = i) (a4 : L.epoch = i) (a5 : 0 ≤ L.till) (a6 : L.till ≤ 10000) : openLk L.bytes = some L :=
  openLk_bytes (lk_small ⟨a1, by omega⟩ ⟨by omega, by omega⟩ ⟨by omega, by omega⟩ ⟨a5, by omega⟩)
set_option maxRecDepth 100000 in
set_option maxHeartbeats 4000000 in
theorem lockepochs_any (A : Option Addr) (ln lc : Nat) (l : List Int) (w : World) (hI : Is w A ln l) : Calls Tryz.prog 3 #[.slice A ln lc] w fun e w' => e = .returned (.bool true) ∧ Below w.heap.size w w' := by
  have HI := Lib.hid hI
  clear hI
  go_enter Tryz.func3, Tryz.ntmps3
  go_wp2_with fail
  refine (new_h w 10000).mono ?_
  rintro e w1 ⟨fb, mb, rfl, h0⟩
  have H0 := Lib.hid h0
  clear h0
  go_wp2_with fail
  go_loopw [4, 5, 6] (fun a b c wr => ∃ (i n : Nat) (S : Fs), a = .int .i64 n ∧ b = .int .i64 i ∧ c = .int .i64 i ∧ i ≤ 40 ∧ n ≤ 90 * i ∧ EpC i n S ∧ FsH w wr fb mb S (10 * i)) (fun _ _ i _ => 41 - (intOf i).toNat)
  case atStart => exact ⟨0, 0, fs0 10000, rfl, rfl, rfl, by omega, by omega, .inl ⟨rfl, lc_new _ _ (by decide) (by decide)⟩, H0.out⟩
  case round =>
    obtain ⟨i, n, S, rfl, rfl, rfl, hi, hn, hE, hF⟩ := hrel
    have HE := Lib.hid hE
    have HF := Lib.hid hF
    have HN := Lib.hid hn
    have HI1 := Lib.hid (HI.out.below hF.bel)
    clear hE hF hn H0
    by_cases hlen : i < ln
    · by_cases h40 : i < 40
      · obtain ⟨ad, hA, hc, -, -⟩ := HI1.out.get hlen
        subst hA
        obtain ⟨x, hx⟩ : ∃ x, ix l i = x := ⟨_, rfl⟩
        rw [hx] at hc
        have HCX := Lib.hid (fun (W : World) (hb : Below w.heap.size w W) => (show W.cell? (ad.add i) = some (.int .i64 x) by obtain ⟨ad2, h2, h3, -, -⟩ := (HI.out.below hb).get hlen; injection h2 with h2; subst h2; rw [hx] at h3; exact h3))
        obtain ⟨who, hw, hw1⟩ := maskN 2 (by decide) x 3 (by decide)
        obtain ⟨q, hq, hq1⟩ := maskN 2 (by decide) (x / 4) 3 (by decide)
        obtain ⟨m, X, t, S1, r, g1, g2, g3, c1, len⟩ := ep_taken i n who h40 HN.out (by omega) HE.out
        obtain ⟨i2, hi2⟩ : ∃ i2, i2 = i + 1 := ⟨_, rfl⟩
        have hwi : IntKind.i64.wrap ((i : Int) + 1) = (i2 : Int) := by rw [IntKind.wrap_i64]; omega
        rw [← hi2] at r g3 c1
        obtain ⟨sl, hsl⟩ : ∃ sl, S1.last = sl := ⟨_, rfl⟩
        rw [hsl] at g2 c1
        have R := Lib.hid r
        have C1 := Lib.hid c1
        have LEN := Lib.hid len
        have H100 := Lib.hid (show who < 100 ∧ i2 < 100 ∧ 10 * i ≤ 400 ∧ who ≤ 3 by omega)
        have HI2 := Lib.hid hi2
        clear r c1 len hsl hi2 hw1 hx HE
        go_wp2_with fail
        refine (taken_any who i2 n HF.out R.out H100.out.1 H100.out.2.1 (by have := H100.out.2.2.1; omega) LEN.out).mono ?_
        rintro e w2 ⟨rfl, h2, o2⟩
        rw [show takenV 1 t = heldV t from rfl]
        unfold heldV lkV
        rw [g1, g2, g3]
        have H2 := Lib.hid h2
        clear h2 o2 HF R g1 g2 g3
        go_upto_region 10 with fail
        obtain ⟨gb, hgb⟩ : ∃ gb, gb = w2.heap.size := ⟨_, rfl⟩
        obtain ⟨kb, hkb⟩ : ∃ kb, kb = w2.heap.size + 1 := ⟨_, rfl⟩
        rw [← hkb, ← hgb]
        refine at_world (fun W => Blk W gb 26 [.string nmC, .int .i64 sl] ∧ Blk W kb 28 (lkCells ⟨who, i2, i2, (n : Int) + 30⟩) ∧ FsH w W fb mb S1 (10 * i + 3)) ⟨(blk_new hgb).alloc _, blk_new (by simp [hkb, hgb]), H2.out.alloc.alloc⟩ ?_
        clear H2 hgb hkb
        rintro W ⟨k1, k2, k3⟩
        have HG := Lib.hid k1
        have HK := Lib.hid k2
        have HF := Lib.hid k3
        have c0 : W.cell? ⟨gb, 0, none⟩ = some (.string nmC) := k1.cell 0
        have c1 : W.cell? ⟨gb, 1, none⟩ = some (.int .i64 sl) := k1.cell 1
        have a0 : W.cell? ⟨kb, 0, none⟩ = some (.int .i64 who) := k2.cell 0
        have a1 : W.cell? ⟨kb, 1, none⟩ = some (.int .i64 i2) := k2.cell 1
        have a2 : W.cell? ⟨kb, 2, none⟩ = some (.int .i64 i2) := k2.cell 2
        have a3 : W.cell? ⟨kb, 3, none⟩ = some (.int .i64 ((n : Int) + 30)) := k2.cell 3
        have hcx := HCX.out _ k3.bel
        have hw30 : IntKind.i64.wrap ((n : Int) + 30) = (n : Int) + 30 := by have := HN.out; rw [IntKind.wrap_i64]; omega
        have HW30 := Lib.hid hw30
        clear k1 k2 k3 hc
        go_upto_block 2 with fail
        have HN2 := Lib.hid (show n ≤ 3600 by have := HN.out; omega)
        clear hw30 hcx hq hw
        go_cut [4] (fun v wx => ∃ (n2 : Nat) (S2 : Fs), v = .int .i64 n2 ∧ n2 ≤ n + 90 ∧ EpC i2 n2 S2 ∧ FsH w wx fb mb S2 (10 * i2))
        case first =>
          have : q = 0 ∨ q = 1 ∨ 2 ≤ q := by omega
          rcases this with rfl | rfl | hq2
          · obtain ⟨XF, SF, wf, cf, -⟩ := ok_wrun C1.out nmC_ok (by decide) (tmpOf who i2 7) (tmp_size _ _ _) (tmp_ok _ _ _ H100.out.1 H100.out.2.1 (by decide)) (tmp_ne _ _ _) ⟨who, i2, i2, 0⟩ true (by rw [Lk.bytes_len]; decide)
            have WF := Lib.hid wf
            have CF := Lib.hid cf
            clear wf cf
            go_wp2_with fail
            refine (free_any nmC sl ⟨who, i2, i2, (n : Int) + 30⟩ who i2 7 _ H100.out.1 H100.out.2.1 (by decide) rfl rfl).mono ?_
            rintro e w6 ⟨yb, rfl, hyb, x6, b6⟩
            have hyw : w.heap.size ≤ yb := by have := HF.out.bel.size; omega
            have HX6 := Lib.hid (show WkAt w6 yb (wk0 nmC sl ⟨who, i2, i2, 0⟩ (tmpOf who i2 7) true) from x6)
            have HF6 := Lib.hid (HF.out.below b6)
            have HYW := Lib.hid hyw
            clear x6 b6 hyb hyw c0 c1 a0 a1 a2 a3 HG HK HF
            go_wp2_with fail
            refine (written_any 1 HF6.out HX6.out WF.out HYW.out (by have := H100.out.2.2.1; omega) rfl).mono ?_
            rintro e w7 ⟨rfl, f7, x7, o7⟩
            have HF7 := Lib.hid f7
            clear f7 x7 o7
            go_wp2_with fail
            go_meet
            have h5 := HI2.out
            have h6 := H100.out.2.2.2
            refine ⟨n, SF, rfl, by omega, .inr ⟨⟨who, i2, i2, 0⟩, SF.last, by omega, CF.out, by simp, by simp; omega, rfl, rfl, by simp, by simp⟩, HF7.out.more (by omega) (by omega)⟩
          · obtain ⟨XF, SF, wf, cf, -⟩ := ok_wrun C1.out nmC_ok (by decide) (tmpOf who i2 7) (tmp_size _ _ _) (tmp_ok _ _ _ H100.out.1 H100.out.2.1 (by decide)) (tmp_ne _ _ _) ⟨who, i2, i2, (n : Int) + 90⟩ false (by rw [Lk.bytes_len]; decide)
            have hop : openLk (Lk.bytes ⟨who, i2, i2, (n : Int) + 90⟩) = some ⟨who, i2, i2, (n : Int) + 90⟩ := ep_open (i := i2) (by have := HI2.out; omega) (by simp) (by have := H100.out.2.2.2; show (who : Int) ≤ 3; omega) rfl rfl (by show (0 : Int) ≤ n + 90; omega) (by have := HN2.out; show (n : Int) + 90 ≤ 10000; omega)
            obtain ⟨XB, tB, rb⟩ := ep_busy n cf hop (by have := H100.out.2.2.2; show (who : Int) ≤ 3; omega) (by have := HI2.out; show (i2 : Int) ≤ 1000; omega) rfl (by have := HN2.out; omega)
            obtain ⟨sf, hsf⟩ : ∃ sf, SF.last = sf := ⟨_, rfl⟩
            rw [hsf] at wf cf
            obtain ⟨n89, hn89⟩ : ∃ k, n + 89 = k := ⟨_, rfl⟩
            rw [hn89] at rb
            have WF := Lib.hid wf
            have CF := Lib.hid cf
            have RB := Lib.hid rb
            have LB := Lib.hid (show (SF.readF nmC).2.1.length ≤ 100000 by rw [readF_of nmC_ok cf.c, Lk.bytes_len]; decide)
            have hw90 : IntKind.i64.wrap ((n : Int) + 90) = (n : Int) + 90 := by have := HN2.out; rw [IntKind.wrap_i64]; omega
            have hw89 : IntKind.i64.wrap ((n : Int) + 89) = (n89 : Int) := by have := HN2.out; rw [IntKind.wrap_i64]; omega
            have HW90 := Lib.hid hw90
            have HW89 := Lib.hid hw89
            clear wf cf rb hop hsf hn89 hw89
            go_wp2_with fail
            refine (renew_any nmC sl ⟨who, i2, i2, (n : Int) + 30⟩ who i2 7 ((n : Int) + 90) _ H100.out.1 H100.out.2.1 (by decide) rfl rfl).mono ?_
            rintro e w6 ⟨yb, rfl, hyb, x6, b6⟩
            have hyw : w.heap.size ≤ yb := by have := HF.out.bel.size; omega
            have HX6 := Lib.hid (show WkAt w6 yb (wk0 nmC sl ⟨who, i2, i2, (n : Int) + 90⟩ (tmpOf who i2 7) false) from x6)
            have HF6 := Lib.hid (HF.out.below b6)
            have HYW := Lib.hid hyw
            clear x6 b6 hyb hyw c0 c1 a0 a1 a2 a3 HG HK HF hw90
            go_wp2_with fail
            refine (written_any 1 HF6.out HX6.out WF.out HYW.out (by have := H100.out.2.2.1; omega) rfl).mono ?_
            rintro e w7 ⟨rfl, f7, x7, o7⟩
            have HF7 := Lib.hid f7
            have HX7 := Lib.hid x7
            clear f7 x7 o7 HF6 HX6
            go_wp2_with fail
            refine (wgot_any HX7.out rfl rfl rfl).mono ?_
            rintro e w8 ⟨rfl, b8⟩
            have HF8 := Lib.hid (HF7.out.below b8)
            clear b8 HF7 HX7
            unfold heldW lkV wk0
            go_upto_region 24 with fail
            obtain ⟨g2, hg2⟩ : ∃ g2, g2 = w8.heap.size := ⟨_, rfl⟩
            obtain ⟨lb, hlb⟩ : ∃ lb, lb = w8.heap.size + 1 := ⟨_, rfl⟩
            rw [← hlb, ← hg2]
            refine at_world (fun W => Blk W g2 26 [.string nmC, .int .i64 sf] ∧ Blk W lb 28 (lkCells ⟨who, i2, i2, (n : Int) + 90⟩) ∧ FsH w W fb mb SF (10 * i + 3 + 4)) ⟨(blk_new hg2).alloc _, blk_new (by simp [hlb, hg2]), HF8.out.alloc.alloc⟩ ?_
            clear HF8 hg2 hlb
            rintro V ⟨k1, k2, k3⟩
            have HKc := Lib.hid (fun (w' : World) (hbl : Below V.heap.size V w') => (show w'.cell? ⟨g2, 1, none⟩ = some (.int .i64 sf) ∧ w'.cell? ⟨lb, 2, none⟩ = some (.int .i64 i2) ∧ w'.cell? ⟨lb, 3, none⟩ = some (.int .i64 ((n : Int) + 90)) from ⟨(k1.below hbl).cell 1, (k2.below hbl).cell 2, (k2.below hbl).cell 3⟩))
            have HF9 := Lib.hid k3.drew
            have HST := Lib.hid (show SF.st nmC = sf from (by_of CF.out.c).2.1)
            have hw90 := HW90.out
            clear k1 k2 k3
            (refine wp_region_held_drew (S := fun w' => w'.cell? ⟨g2, 1, none⟩ = some (.int .i64 sf) ∧ w'.cell? ⟨lb, 2, none⟩ = some (.int .i64 i2) ∧ w'.cell? ⟨lb, 3, none⟩ = some (.int .i64 ((n : Int) + 90))) (by kernel_rfl) (HKc.out _ (Below.refl _ _).drew) (fun hHeld => ?_))
            (refine wpAnyH_take (i := 0) (oi := _) (v := ?_) (ops_at rfl) (by kernel_rfl) (by kernel_rfl) (by kernel_rfl) (fun _ _ _ h => h) (Or.inl ⟨by rfl, ?_⟩) (by assumption) ?_; rotate_left; (focus (intro w hSw; (try dsimp only at hSw); go_simp; (try with_reducible rfl))); (try simp only [Act.put, List.setIfInBounds_toArray, List.set_cons_zero, List.set_cons_succ])); (refine wpAnyH_take (i := 1) (oi := _) (v := ?_) (ops_at rfl) (by kernel_rfl) (by kernel_rfl) (by kernel_rfl) (fun _ _ _ h => h) (Or.inl ⟨by rfl, ?_⟩) (by assumption) ?_; rotate_left; (focus (intro w hSw; (try dsimp only at hSw); go_simp; (try with_reducible rfl))); (try simp only [Act.put, List.setIfInBounds_toArray, List.set_cons_zero, List.set_cons_succ])); (refine wpAnyH_take (i := 2) (oi := _) (v := ?_) (ops_at rfl) (by kernel_rfl) (by kernel_rfl) (by kernel_rfl) (fun _ _ _ h => h) (Or.inl ⟨by rfl, ?_⟩) (by assumption) ?_; rotate_left; (focus (intro w hSw; (try dsimp only at hSw); go_simp; (try with_reducible rfl))); (try simp only [Act.put, List.setIfInBounds_toArray, List.set_cons_zero, List.set_cons_succ])); (refine wpAnyH_take (i := 3) (oi := _) (v := ?_) (ops_at rfl) (by kernel_rfl) (by kernel_rfl) (by kernel_rfl) (fun _ _ _ h => h) (Or.inl ⟨by rfl, ?_⟩) (by assumption) ?_; rotate_left; (focus (intro w hSw; (try dsimp only at hSw); go_simp; (try with_reducible rfl))); (try simp only [Act.put, List.setIfInBounds_toArray, List.set_cons_zero, List.set_cons_succ])); (refine wpAnyH_take (i := 4) (oi := _) (v := ?_) (ops_at rfl) (by kernel_rfl) (by kernel_rfl) (by kernel_rfl) (fun _ _ _ h => h) (Or.inl ⟨by rfl, ?_⟩) (by assumption) ?_; rotate_left; (focus (intro w hSw; (try dsimp only at hSw); go_simp; (try with_reducible rfl))); (try simp only [Act.put, List.setIfInBounds_toArray, List.set_cons_zero, List.set_cons_succ])); (refine wpAnyH_take (i := 5) (oi := _) (v := ?_) (ops_at rfl) (by kernel_rfl) (by kernel_rfl) (by kernel_rfl) (fun _ _ _ h => h) (Or.inl ⟨by rfl, ?_⟩) (by assumption) ?_; rotate_left; (focus (intro w hSw; (try dsimp only at hSw); go_simp; (try with_reducible rfl))); (try simp only [Act.put, List.setIfInBounds_toArray, List.set_cons_zero, List.set_cons_succ])); (refine wpAnyH_take (i := 6) (oi := _) (v := ?_) (ops_at rfl) (by kernel_rfl) (by kernel_rfl) (by kernel_rfl) (fun _ _ _ h => h) (Or.inl ⟨by rfl, ?_⟩) (by assumption) ?_; rotate_left; (focus (intro w hSw; (try dsimp only at hSw); go_simp; (try with_reducible rfl))); (try simp only [Act.put, List.setIfInBounds_toArray, List.set_cons_zero, List.set_cons_succ])); (refine wpAnyH_take (i := 7) (oi := _) (v := ?_) (ops_at rfl) (by kernel_rfl) (by kernel_rfl) (by kernel_rfl) (fun _ _ _ h => h) (Or.inl ⟨by rfl, ?_⟩) (by assumption) ?_; rotate_left; (focus (intro w hSw; (try dsimp only at hSw); go_simp; (try with_reducible rfl))); (try simp only [Act.put, List.setIfInBounds_toArray, List.set_cons_zero, List.set_cons_succ])); (refine wpAnyH_take (i := 8) (oi := _) (v := ?_) (ops_at rfl) (by kernel_rfl) (by kernel_rfl) (by kernel_rfl) (fun _ _ _ h => h) (Or.inl ⟨by rfl, ?_⟩) (by assumption) ?_; rotate_left; (focus (intro w hSw; (try dsimp only at hSw); go_simp; (try with_reducible rfl))); (try simp only [Act.put, List.setIfInBounds_toArray, List.set_cons_zero, List.set_cons_succ])); (refine wpAnyH_take (i := 9) (oi := _) (v := ?_) (ops_at rfl) (by kernel_rfl) (by kernel_rfl) (by kernel_rfl) (fun _ _ _ h => h) (Or.inl ⟨by rfl, ?_⟩) (by assumption) ?_; rotate_left; (focus (intro w hSw; (try dsimp only at hSw); go_simp; (try with_reducible rfl))); (try simp only [Act.put, List.setIfInBounds_toArray, List.set_cons_zero, List.set_cons_succ])); (refine wpAnyH_take (i := 10) (oi := _) (v := ?_) (ops_at rfl) (by kernel_rfl) (by kernel_rfl) (by kernel_rfl) (fun _ _ _ h => h) (Or.inl ⟨by rfl, ?_⟩) (by assumption) ?_; rotate_left; (focus (intro w hSw; (try dsimp only at hSw); go_simp; (try with_reducible rfl))); (try simp only [Act.put, List.setIfInBounds_toArray, List.set_cons_zero, List.set_cons_succ])); (refine wpAnyH_take (i := 11) (oi := _) (v := ?_) (ops_at rfl) (by kernel_rfl) (by kernel_rfl) (by kernel_rfl) (fun _ _ _ h => h) (Or.inl ⟨by rfl, ?_⟩) (by assumption) ?_; rotate_left; (focus (intro w hSw; (try dsimp only at hSw); go_simp; (try with_reducible rfl))); (try simp only [Act.put, List.setIfInBounds_toArray, List.set_cons_zero, List.set_cons_succ])); (refine wpAnyH_take (i := 12) (oi := _) (v := ?_) (ops_at rfl) (by kernel_rfl) (by kernel_rfl) (by kernel_rfl) (fun _ _ _ h => h) (Or.inl ⟨by rfl, ?_⟩) (by assumption) ?_; rotate_left; (focus (intro w hSw; (try dsimp only at hSw); go_simp; (try with_reducible rfl))); (try simp only [Act.put, List.setIfInBounds_toArray, List.set_cons_zero, List.set_cons_succ])); (refine wpAnyH_take (i := 13) (oi := _) (v := ?_) (ops_at rfl) (by kernel_rfl) (by kernel_rfl) (by kernel_rfl) (fun _ _ _ h => h) (Or.inl ⟨by rfl, ?_⟩) (by assumption) ?_; rotate_left; (focus (intro w hSw; (try dsimp only at hSw); go_simp; (try with_reducible rfl))); (try simp only [Act.put, List.setIfInBounds_toArray, List.set_cons_zero, List.set_cons_succ])); (refine wpAnyH_take (i := 14) (oi := _) (v := ?_) (ops_at rfl) (by kernel_rfl) (by kernel_rfl) (by kernel_rfl) (fun _ _ _ h => h) (Or.inl ⟨by rfl, ?_⟩) (by assumption) ?_; rotate_left; (focus (intro w hSw; (try dsimp only at hSw); go_simp; (try with_reducible rfl))); (try simp only [Act.put, List.setIfInBounds_toArray, List.set_cons_zero, List.set_cons_succ])); (refine wpAnyH_take (i := 15) (oi := _) (v := ?_) (ops_at rfl) (by kernel_rfl) (by kernel_rfl) (by kernel_rfl) (fun _ _ _ h => h) (Or.inl ⟨by rfl, ?_⟩) (by assumption) ?_; rotate_left; (focus (intro w hSw; (try dsimp only at hSw); go_simp; (try with_reducible rfl))); (try simp only [Act.put, List.setIfInBounds_toArray, List.set_cons_zero, List.set_cons_succ])); (refine wpAnyH_take (i := 16) (oi := _) (v := ?_) (ops_at rfl) (by kernel_rfl) (by kernel_rfl) (by kernel_rfl) (fun _ _ _ h => h) (Or.inl ⟨by rfl, ?_⟩) (by assumption) ?_; rotate_left; (focus (intro w hSw; (try dsimp only at hSw); go_simp; (try with_reducible rfl))); (try simp only [Act.put, List.setIfInBounds_toArray, List.set_cons_zero, List.set_cons_succ])); (refine wpAnyH_take (i := 17) (oi := _) (v := ?_) (ops_at rfl) (by kernel_rfl) (by kernel_rfl) (by kernel_rfl) (fun _ _ _ h => h) (Or.inl ⟨by rfl, ?_⟩) (by assumption) ?_; rotate_left; (focus (intro w hSw; (try dsimp only at hSw); go_simp; (try with_reducible rfl))); (try simp only [Act.put, List.setIfInBounds_toArray, List.set_cons_zero, List.set_cons_succ])); (refine wpAnyH_take (i := 18) (oi := _) (v := ?_) (ops_at rfl) (by kernel_rfl) (by kernel_rfl) (by kernel_rfl) (fun _ _ _ h => h) (Or.inl ⟨by rfl, ?_⟩) (by assumption) ?_; rotate_left; (focus (intro w hSw; (try dsimp only at hSw); go_simp; (try with_reducible rfl))); (try simp only [Act.put, List.setIfInBounds_toArray, List.set_cons_zero, List.set_cons_succ]))
            (refine wpAnyH_ready (rs := [19]) (by kernel_rfl) (by simp) (AllReadyH.cons (ops_at rfl) (fun K hK => ?_) AllReadyH.nil); go_simp; (refine (stamp_h HF9.out nmC (by decide)).mono ?_; rintro e w' ⟨rfl, rfl⟩; rw [HST.out]); refine hK.out _ _ (HKc.out _ (Below.refl _ _).drew) (fun hHeld => ?_); clear hK K; (try simp only [Act.put, List.setIfInBounds_toArray, List.set_cons_zero, List.set_cons_succ]))
            (refine wpAnyH_take (i := 20) (oi := _) (v := ?_) (ops_at rfl) (by kernel_rfl) (by kernel_rfl) (by kernel_rfl) (fun _ _ _ h => h) (Or.inl ⟨by rfl, ?_⟩) (by assumption) ?_; rotate_left; (focus (intro w hSw; (try dsimp only at hSw); go_simp; (try with_reducible rfl))); (try simp only [Act.put, List.setIfInBounds_toArray, List.set_cons_zero, List.set_cons_succ])); (refine wpAnyH_take (i := 21) (oi := _) (v := ?_) (ops_at rfl) (by kernel_rfl) (by kernel_rfl) (by kernel_rfl) (fun _ _ _ h => h) (Or.inl ⟨by rfl, ?_⟩) (by assumption) ?_; rotate_left; (focus (intro w hSw; (try dsimp only at hSw); go_simp; (try with_reducible rfl))); (try simp only [Act.put, List.setIfInBounds_toArray, List.set_cons_zero, List.set_cons_succ]))
            (refine wpAnyH_done (by kernel_rfl) ?_ _)
            clear hHeld hw90
            have hw89 := HW89.out
            go_wp2_with fail
            clear hw89
            refine (taken_any 5 1 n89 HF9.out RB.out (by decide) (by decide) (by have := H100.out.2.2.1; omega) LB.out).mono ?_
            rintro e w10 ⟨rfl, h10, o10⟩
            rw [show takenV 2 tB = noneV from rfl]
            unfold noneV lkV lk0
            have HF10 := Lib.hid h10
            clear h10 o10 HF9 RB
            have hw90 := HW90.out
            go_wp2_with fail
            go_meet
            have h5 := HI2.out
            have h6 := H100.out.2.2.2
            refine ⟨n + 90, SF, by go_num, by omega, .inr ⟨_, sf, by omega, CF.out, by simp, by simp; omega, rfl, rfl, by simp; omega, by simp⟩, HF10.out.alloc.alloc.more (by omega) (by omega)⟩
          · have hq0 : ((q : Int) == 0) = false := by rw [beq_eq_false_iff_ne]; omega
            have hq1' : ((q : Int) == 1) = false := by rw [beq_eq_false_iff_ne]; omega
            have hw30 := HW30.out
            go_wp2_with fail
            go_meet
            have h5 := HI2.out
            have h6 := H100.out.2.2.2
            refine ⟨n + 30, S1, by go_num, by omega, .inr ⟨_, sl, by omega, C1.out, by simp, by simp; omega, rfl, rfl, by simp; omega, by simp⟩, HF.out.more (by omega) (by omega)⟩
        case rest =>
          obtain ⟨n2, S2, rfl, q1, q2, q3⟩ := hcut
          have HF := Lib.hid q3
          have HE := Lib.hid q2
          have HQ := Lib.hid q1
          obtain ⟨L, st, cl, ho, hep⟩ : ∃ L st, LC nmC 10000 S2 (some (Lk.bytes L, st)) ∧ openLk L.bytes = some L ∧ L.epoch = i2 := by
            rcases q2 with ⟨h, _⟩ | ⟨L, st, h1, h, a1, a2, a3, a4, a5, a6⟩
            · have := HI2.out; omega
            · exact ⟨L, st, h, ep_open (by have := HI2.out; omega) a1 a2 a3 a4 a5 (by have := HN2.out; omega), a4⟩
          have HO := Lib.hid ho
          have CL := Lib.hid cl
          have HEP := Lib.hid hep
          clear q1 q2 q3 ho cl hep c0 c1 a0 a1 a2 a3 HG HK C1 LEN
          go_wp2_with fail
          refine (read_h HF.out nmC (by decide)).mono ?_
          rintro e w8 ⟨RA, rn, rc, rfl, hrn, hown, b8⟩
          rw [readF_of nmC_ok CL.out.c] at hrn hown ⊢
          have hrn' : rn = 34 := by have : L.bytes.length = rn := hrn; rw [Lk.bytes_len] at this; exact this.symm
          subst hrn'
          have hcap := hown.cap
          have HRA := Lib.hid (own_bs (l := L.bytes) hown (Lk.bytes_by _) (by omega))
          have HF8 := Lib.hid (HF.out.below b8)
          clear hrn hown b8 HF
          go_wp2_with fail
          refine (ropenlock_any RA 34 rc L.bytes _ HRA.out hcap (by omega)).mono ?_
          rintro e w9 ⟨rfl, b9⟩
          rw [HO.out]
          have HF9 := Lib.hid (HF8.out.below b9)
          clear b9 HF8 HRA
          simp only [Option.getD_some, Option.isSome_some]
          unfold lkV
          rw [HEP.out]
          go_wp2_with fail
          have h5 := HI2.out
          have h6 := HQ.out
          have h7 := HN.out
          exact ⟨⟨i2, n2, S2, rfl, rfl, by rw [h5], by omega, by omega, HE.out, HF9.out.alloc⟩, by simp [intOf]; omega⟩
      · (obtain ⟨C, cl⟩ := HE.out.lc; have CL := Lib.hid cl; clear cl; go_wp2_with fail; refine (list_h HF.out ⟨#[116, 109, 112]⟩ (by decide)).mono ?_; rintro e w20 ⟨ks, LA, n0, c0, hks, rfl, hln, -, b20⟩; obtain rfl : n0 = 0 := (by rw [hln]; exact CL.out.tmp hks); have HF20 := Lib.hid (HF.out.below b20); clear hks hln b20; go_wp2_with fail; refine (awake13_any _).mono ?_; rintro e w21 ⟨rfl, b21⟩; have HF21 := Lib.hid (HF20.out.below b21); clear b21 HF20; go_wp2_with fail; go_ret; exact ⟨rfl, HF21.out.bel⟩)
    · (obtain ⟨C, cl⟩ := HE.out.lc; have CL := Lib.hid cl; clear cl; go_wp2_with fail; refine (list_h HF.out ⟨#[116, 109, 112]⟩ (by decide)).mono ?_; rintro e w20 ⟨ks, LA, n0, c0, hks, rfl, hln, -, b20⟩; obtain rfl : n0 = 0 := (by rw [hln]; exact CL.out.tmp hks); have HF20 := Lib.hid (HF.out.below b20); clear hks hln b20; go_wp2_with fail; refine (awake13_any _).mono ?_; rintro e w21 ⟨rfl, b21⟩; have HF21 := Lib.hid (HF20.out.below b21); clear b21 HF20; go_wp2_with fail; go_ret; exact ⟨rfl, HF21.out.bel⟩)
end Go.Proofs.YtahdeighocmijaaGreatDoor
