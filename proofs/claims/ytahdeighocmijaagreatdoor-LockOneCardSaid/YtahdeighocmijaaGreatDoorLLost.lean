/- Locks: LockLost. -/
import Derived.Test.YtahdeighocmijaaGreatDoorAwake13
import Derived.Test.YtahdeighocmijaaGreatDoorRLock
import Derived.Test.YtahdeighocmijaaGreatDoorWr3
import Derived.Test.YtahdeighocmijaaGreatDoorFsL
import Derived.Test.YtahdeighocmijaaGreatDoorInts
namespace Go.Proofs.YtahdeighocmijaaGreatDoor
set_option linter.unusedSimpArgs false
set_option linter.unusedVariables false
open Go.RowKit
open Crc (Bytes)
open Cod (six held)
/-- Writing a lock that somebody else has by now: nothing is written. -/
theorem lost_wrun {F : ByteArray} {R : Int} {S : Fs} {c : List Int} {st q : Int} (h : LC F R S (some (c, st))) (hF : fileB F = true) (hFs : F.size ≤ 1000) (tp : ByteArray) (hp : tp.size ≤ 1000) (hf : fileB tp = true) (hn : tp.data.toList ≠ F.data.toList) (hq : st ≠ q) (l : Lk) (free : Bool) (hu : (c.length : Int) + 34 ≤ R) :
    ∃ X S', WRun S (wk0 F q l tp free) 3 X 2 { wk0 F q l tp free with at_ := 5, told := 2 } S' ∧ LC F R S' (some (c, st)) := by
  obtain ⟨p1, p2⟩ := h.temp tp hf hn l.bytes (by rw [Lk.bytes_len]; show (c.length : Int) + 34 ≤ R; exact hu)
  obtain ⟨m1, m2⟩ := p2.lost hF hf hn hq
  refine ⟨W4 (0, wk0 F q l tp free, S) (0, { wk0 F q l tp free with at_ := 3 }, S.write tp l.bytes) (0, { wk0 F q l tp free with at_ := 4 }, S.write tp l.bytes) (2, { wk0 F q l tp free with at_ := 5, told := 2 }, (S.write tp l.bytes).gone tp), _, ⟨by omega, by omega, rfl, fun k hk => ?_, fun k hk => ?_, fun k hk => ?_, rfl, by decide, rfl, rfl⟩, p2.gone hn⟩
  · have : k = 0 ∨ k = 1 ∨ k = 2 := by omega
    rcases this with rfl | rfl | rfl
    · show stepW S (wk0 F q l tp free) = _
      unfold stepW
      rw [if_pos (show (wk0 F q l tp free).at_ = 2 from rfl), show (wk0 F q l tp free).temp = tp from rfl, show (wk0 F q l tp free).l = l from rfl, p1, if_pos rfl]
      rfl
    · show stepW (S.write tp l.bytes) { wk0 F q l tp free with at_ := 3 } = _
      rw [stepW_3 rfl, show ({ wk0 F q l tp free with at_ := 3 } : Wk).temp = tp from rfl, show ({ wk0 F q l tp free with at_ := 3 } : Wk).gn = F from rfl, show ({ wk0 F q l tp free with at_ := 3 } : Wk).gs = q from rfl, m1, if_pos (show (5 : Int) ≠ 0 by decide)]
      rfl
    · show stepW (S.write tp l.bytes) { wk0 F q l tp free with at_ := 4 } = _
      rw [stepW_4 rfl, show ({ wk0 F q l tp free with at_ := 4 } : Wk).temp = tp from rfl, m2]
      rfl
  · have : k = 0 ∨ k = 1 ∨ k = 2 := by omega
    rcases this with rfl | rfl | rfl <;> rfl
  · have : k = 0 ∨ k = 1 ∨ k = 2 := by omega
    rcases this with rfl | rfl | rfl
    · exact ⟨hp, hFs, .inl rfl⟩
    · exact ⟨hp, hFs, .inr (.inl rfl)⟩
    · exact ⟨hp, hFs, .inr (.inr rfl)⟩
/-- Writing a lock that one has. -/
theorem ok_wrun {F : ByteArray} {R : Int} {S : Fs} {c : List Int} {st : Int} (h : LC F R S (some (c, st))) (hF : fileB F = true) (hFs : F.size ≤ 1000) (tp : ByteArray) (hp : tp.size ≤ 1000) (hf : fileB tp = true) (hn : tp.data.toList ≠ F.data.toList) (l : Lk) (free : Bool) (hu : (c.length : Int) + 34 ≤ R) :
    ∃ X S', WRun S (wk0 F st l tp free) 2 X 1 { wk0 F st l tp free with gs := S'.last, at_ := 5, told := 1 } S' ∧ LC F R S' (some (l.bytes, S'.last)) ∧ st < S'.last := by
  obtain ⟨p1, p2⟩ := h.temp tp hf hn l.bytes (by rw [Lk.bytes_len]; show (c.length : Int) + 34 ≤ R; exact hu)
  obtain ⟨m1, m2⟩ := p2.move hF hf hn
  have hst := (h.ts _ rfl).2
  refine ⟨W4 (0, wk0 F st l tp free, S) (0, { wk0 F st l tp free with at_ := 3 }, S.write tp l.bytes) (1, { wk0 F st l tp free with gs := S.last + 1 + 1, at_ := 5, told := 1 }, ((S.write tp l.bytes).gone tp).write F l.bytes) (0, wk0 F st l tp free, S), _, ⟨by omega, by omega, rfl, fun k hk => ?_, fun k hk => ?_, fun k hk => ?_, rfl, by decide, rfl, rfl⟩, m2, ?_⟩
  · have : k = 0 ∨ k = 1 := by omega
    rcases this with rfl | rfl
    · show stepW S (wk0 F st l tp free) = _
      unfold stepW
      rw [if_pos (show (wk0 F st l tp free).at_ = 2 from rfl), show (wk0 F st l tp free).temp = tp from rfl, show (wk0 F st l tp free).l = l from rfl, p1, if_pos rfl]
      rfl
    · show stepW (S.write tp l.bytes) { wk0 F st l tp free with at_ := 3 } = _
      rw [stepW_3 rfl, show ({ wk0 F st l tp free with at_ := 3 } : Wk).temp = tp from rfl, show ({ wk0 F st l tp free with at_ := 3 } : Wk).gn = F from rfl, show ({ wk0 F st l tp free with at_ := 3 } : Wk).gs = st from rfl, m1, if_neg (by simp)]
      rfl
  · have : k = 0 ∨ k = 1 := by omega
    rcases this with rfl | rfl <;> rfl
  · have : k = 0 ∨ k = 1 := by omega
    rcases this with rfl | rfl
    · exact ⟨hp, hFs, .inl rfl⟩
    · exact ⟨hp, hFs, .inr (.inl rfl)⟩
  · show st < S.last + 1 + 1; have h5 : st ≤ S.last := hst; omega
/-- Nothing is left lying. -/
theorem LC.tmp {R : Int} {S : Fs} {C : Option (List Int × Int)} (h : LC nmC R S C) {ks : List (List UInt8)} (hk : Ks S ks) : (ks.filter (inB ⟨#[116, 109, 112]⟩)).length = 0 := by
  rw [List.length_eq_zero_iff, List.filter_eq_nil_iff]
  intro key hm
  have h1 := (hk.mem key).1 hm
  by_cases hc : key = nmC.data.toList
  · subst hc; decide
  · rw [h.no key hc] at h1; cases h1
/-- What LockLost sees. -/
theorem lost_run (a b d : Nat) (ha : a < 4) (hb : 4 ≤ b) (hb2 : b < 8) (hd : d ≤ 255) {S1 : Fs} (hS : LC nmC 10000 S1 (some (Lk.bytes ⟨a, 1, 1, 30⟩, 1))) (ho : openLk (Lk.bytes ⟨a, 1, 1, 30⟩) = some ⟨a, 1, 1, 30⟩) :
    ∃ X u S2, TRun ((30 + d : Nat) : Int) S1 (tk0 nmC (tmpOf b 1 3) b 1 30) 3 X 1 u S2 ∧ u.gn = nmC ∧ u.gs = S2.last ∧ u.l = ⟨b, 1, 2, 60 + d⟩ ∧ LC nmC 10000 S2 (some (Lk.bytes ⟨b, 1, 2, 60 + d⟩, S2.last)) ∧ 1 < S2.last ∧ openLk (Lk.bytes ⟨b, 1, 2, 60 + d⟩) = some ⟨b, 1, 2, 60 + d⟩ := by
  have hc : clampN ((30 + d : Nat) : Int) = 30 + d := by rw [clamp_le (by omega) (by omega)]; omega
  obtain ⟨X, u, S2, r, b1, b2, b3, c3, lt3⟩ := take_open hS nmC_ok (by decide) (tmpOf b 1 3) b 1 30 ((30 + d : Nat) : Int) (tmp_size _ _ _) (by decide) (by decide) ⟨a, 1, 1, 30⟩ (by rw [ho, hc, look_lit, if_neg (by omega), if_pos (by omega)]) (by simp) (by simp) (tmp_ok _ _ _ (by omega) (by decide) (by decide)) (tmp_ne _ _ _) (by rw [Lk.bytes_len]; decide)
  have e : (⟨b, 1, (⟨a, 1, 1, 30⟩ : Lk).epoch + 1, clampN ((30 + d : Nat) : Int) + 30⟩ : Lk) = ⟨b, 1, 2, 60 + d⟩ := by
    rw [hc]
    exact lk_ext rfl rfl rfl (by show (30 : Int) + d + 30 = 60 + d; omega)
  rw [e] at b3 c3
  exact ⟨X, u, S2, r, b1, b2, b3, c3, lt3, openLk_bytes (lk_small ⟨by simp, by simp; omega⟩ ⟨by simp, by simp⟩ ⟨by simp, by simp⟩ ⟨by simp; omega, by simp; omega⟩)⟩
set_option maxRecDepth 100000 in
set_option maxHeartbeats 1000000 in
theorem locklost_any (a0 b0 : Int) (free : Bool) (late0 : Int) (w : World) : Calls Tryz.prog 4 #[.int .i64 a0, .int .i64 b0, .bool free, .int .i64 late0] w fun e w' => e = .returned (.bool true) ∧ Below w.heap.size w w' := by
  obtain ⟨a, ha, ha1⟩ := maskN 2 (by decide) a0 3 (by decide)
  obtain ⟨b, hb, hb1⟩ := maskN 2 (by decide) b0 3 (by decide)
  obtain ⟨d, hd, hd1⟩ := maskN 8 (by decide) late0 255 (by decide)
  obtain ⟨b2, hb2⟩ : ∃ x, x = b + 4 := ⟨_, rfl⟩
  obtain ⟨d2, hd2⟩ : ∃ x, x = 30 + d := ⟨_, rfl⟩
  have hwb : IntKind.i64.wrap ((b : Int) + 4) = (b2 : Int) := by rw [IntKind.wrap_i64]; omega
  have hwd : IntKind.i64.wrap (30 + (d : Int)) = (d2 : Int) := by rw [IntKind.wrap_i64]; omega
  obtain ⟨X1, t, S1, r1, ⟨g1, g2, g3⟩, c1, len0, len1, ho⟩ := first_run a 1 (by omega) (by decide)
  obtain ⟨X2, u, S2, r2, u1, u2, u3, c2, lt2, ho2⟩ := lost_run a b2 d (by omega) (by omega) (by omega) (by omega) c1 ho
  rw [← hd2] at r2
  obtain ⟨sl, hsl⟩ : ∃ sl, S2.last = sl := ⟨_, rfl⟩
  obtain ⟨lm, hlm⟩ : ∃ lm : Lk, lm = ⟨b2, 1, 2, 60 + d⟩ := ⟨_, rfl⟩
  rw [hsl] at u2 c2 lt2
  rw [← hlm] at u3 c2 ho2
  have hme : lm.epoch = 2 := by rw [hlm]
  obtain ⟨XR, SR, wr, cr⟩ := lost_wrun c2 nmC_ok (by decide) (tmpOf a 1 8) (tmp_size _ _ _) (tmp_ok _ _ _ (by omega) (by decide) (by decide)) (tmp_ne _ _ _) (q := 1) (by omega) ⟨a, 1, 1, 5000⟩ false (by rw [Lk.bytes_len]; decide)
  obtain ⟨XF, SF, wf, cf⟩ := lost_wrun c2 nmC_ok (by decide) (tmpOf a 1 8) (tmp_size _ _ _) (tmp_ok _ _ _ (by omega) (by decide) (by decide)) (tmp_ne _ _ _) (q := 1) (by omega) ⟨a, 1, 1, 0⟩ true (by rw [Lk.bytes_len]; decide)
  have R1 := Lib.hid r1
  have R2 := Lib.hid r2
  have WR := Lib.hid wr
  have WF := Lib.hid wf
  have CR := Lib.hid cr
  have CF := Lib.hid cf
  have HO2 := Lib.hid ho2
  have ha2 : a < 100 := by omega
  have hb3 : b2 < 100 := by omega
  have HA2 := Lib.hid ha2
  have HB3 := Lib.hid hb3
  have HLT := Lib.hid lt2
  have HLM := Lib.hid hlm
  have HME := Lib.hid hme
  have L0 := Lib.hid len0
  have L1 := Lib.hid len1
  clear r1 r2 c1 ho wr wf cr cf ho2 c2 hb2 hd2 hsl ha1 hb1 hd1 ha2 hb3 lt2 hlm hme len0 len1
  go_enter Tryz.func4, Tryz.ntmps4
  go_wp2_with fail
  refine (new_h w 10000).mono ?_
  rintro e w1 ⟨fb, mb, rfl, h0⟩
  have H0 := Lib.hid h0
  clear h0
  go_wp2_with fail
  refine (taken_any a 1 0 H0.out R1.out HA2.out (by decide) (by decide) L0.out).mono ?_
  rintro e w2 ⟨rfl, h2, o2⟩
  rw [show takenV 1 t = heldV t from rfl]
  unfold heldV lkV
  rw [g1, g2, g3]
  have H2 := Lib.hid h2
  clear h2 o2 H0 ha hb
  go_upto_region 6 with fail
  obtain ⟨gb, hgb⟩ : ∃ gb, gb = w2.heap.size := ⟨_, rfl⟩
  obtain ⟨kb, hkb⟩ : ∃ kb, kb = w2.heap.size + 1 := ⟨_, rfl⟩
  rw [← hkb, ← hgb]
  refine at_world (fun W => Blk W gb 26 [.string nmC, .int .i64 1] ∧ Blk W kb 28 (lkCells ⟨a, 1, 1, 30⟩) ∧ FsH w W fb mb S1 3) ⟨(blk_new hgb).alloc _, blk_new (by simp [hkb, hgb]), H2.out.alloc.alloc⟩ ?_
  clear H2 R1 hgb hkb
  rintro W ⟨k1, k2, k4⟩
  have HG := Lib.hid k1
  have HK := Lib.hid k2
  have HF := Lib.hid k4
  have hgn := k4.ne (Blk.at_ k1) (by decide)
  have hkn := k4.ne (Blk.at_ k2) (by decide)
  clear k1 k2 k4
  go_wp2_with fail
  refine (taken_any b2 1 d2 HF.out R2.out HB3.out (by decide) (by decide) L1.out).mono ?_
  rintro e w3 ⟨rfl, h3, o3⟩
  rw [show takenV 1 u = heldV u from rfl]
  unfold heldV lkV
  rw [u1, u2, u3]
  have HG3 := Lib.hid (HG.out.only o3 hgn)
  have HK3 := Lib.hid (HK.out.only o3 hkn)
  have HF3 := Lib.hid h3
  clear h3 o3 HG HK HF R2 u1 u2 u3 g1 g2 g3
  go_upto_region 7 with fail
  obtain ⟨hb, hhb⟩ : ∃ gb, gb = w3.heap.size := ⟨_, rfl⟩
  obtain ⟨jb, hjb⟩ : ∃ kb, kb = w3.heap.size + 1 := ⟨_, rfl⟩
  rw [← hjb, ← hhb]
  refine at_world (fun W => Blk W gb 26 [.string nmC, .int .i64 1] ∧ Blk W kb 28 (lkCells ⟨a, 1, 1, 30⟩) ∧ Blk W hb 26 [.string nmC, .int .i64 sl] ∧ Blk W jb 28 (lkCells lm) ∧ FsH w W fb mb S2 6) ⟨(HG3.out.alloc _).alloc _, (HK3.out.alloc _).alloc _, (blk_new hhb).alloc _, blk_new (by simp [hjb, hhb]), HF3.out.alloc.alloc⟩ ?_
  clear HG3 HK3 HF3 hhb hjb hgn hkn hwb hwd hd
  rintro W4 ⟨k1, k2, k3, k4, k5⟩
  have HG := Lib.hid k1
  have HK := Lib.hid k2
  have HH := Lib.hid k3
  have HJ := Lib.hid k4
  have HF := Lib.hid k5
  have c0 : W4.cell? ⟨gb, 0, none⟩ = some (.string nmC) := k1.cell 0
  have c1 : W4.cell? ⟨gb, 1, none⟩ = some (.int .i64 1) := k1.cell 1
  have a0 : W4.cell? ⟨kb, 0, none⟩ = some (.int .i64 a) := k2.cell 0
  have a1 : W4.cell? ⟨kb, 1, none⟩ = some (.int .i64 1) := k2.cell 1
  have a2 : W4.cell? ⟨kb, 2, none⟩ = some (.int .i64 1) := k2.cell 2
  have a3 : W4.cell? ⟨kb, 3, none⟩ = some (.int .i64 30) := k2.cell 3
  have j2 : W4.cell? ⟨jb, 2, none⟩ = some (.int .i64 2) := by have := k4.cell 2; rwa [show (lkCells lm)[2]? = some (.int .i64 lm.epoch) from rfl, HME.out] at this
  clear k1 k2 k3 k4 k5
  go_wp2_with fail
  refine (renew_any nmC 1 ⟨a, 1, 1, 30⟩ a 1 8 5000 _ HA2.out (by decide) (by decide) rfl rfl).mono ?_
  rintro e w5 ⟨xb, rfl, hxb, x5, b5⟩
  have hxw : w.heap.size ≤ xb := by have := HF.out.bel.size; omega
  have HG5 := Lib.hid (HG.out.below b5)
  have HK5 := Lib.hid (HK.out.below b5)
  have HH5 := Lib.hid (HH.out.below b5)
  have HJ5 := Lib.hid (HJ.out.below b5)
  have HF5 := Lib.hid (HF.out.below b5)
  have HX5 := Lib.hid (show WkAt w5 xb (wk0 nmC 1 ⟨a, 1, 1, 5000⟩ (tmpOf a 1 8) false) from x5)
  have HXW := Lib.hid hxw
  clear x5 b5 HG HK HH HJ HF c0 c1 a0 a1 a2 a3 j2 hxb hxw
  go_upto_if 64 with fail
  go_cut [16] (fun v wx => ∃ tb X S' t5 t0, v = .pointer (some ⟨tb, 0, none⟩) ∧ w.heap.size ≤ tb ∧ WkAt wx tb t0 ∧ WRun S2 t0 3 X 2 t5 S' ∧ LC nmC 10000 S' (some (lm.bytes, sl)) ∧ FsH w wx fb mb S2 6 ∧ Blk wx hb 26 [.string nmC, .int .i64 sl] ∧ Blk wx jb 28 (lkCells lm))
  case first =>
    cases free
    · go_wp2_with fail
      go_meet
      exact ⟨xb, XR, SR, _, _, rfl, HXW.out, HX5.out, WR.out, CR.out, HF5.out, HH5.out, HJ5.out⟩
    · have c0 : w5.cell? ⟨gb, 0, none⟩ = some (.string nmC) := HG5.out.cell 0
      have c1 : w5.cell? ⟨gb, 1, none⟩ = some (.int .i64 1) := HG5.out.cell 1
      have a0 : w5.cell? ⟨kb, 0, none⟩ = some (.int .i64 a) := HK5.out.cell 0
      have a1 : w5.cell? ⟨kb, 1, none⟩ = some (.int .i64 1) := HK5.out.cell 1
      have a2 : w5.cell? ⟨kb, 2, none⟩ = some (.int .i64 1) := HK5.out.cell 2
      have a3 : w5.cell? ⟨kb, 3, none⟩ = some (.int .i64 30) := HK5.out.cell 3
      go_wp2_with fail
      refine (free_any nmC 1 ⟨a, 1, 1, 30⟩ a 1 8 _ HA2.out (by decide) (by decide) rfl rfl).mono ?_
      rintro e w6 ⟨yb, rfl, hyb, x6, b6⟩
      have hyw : w.heap.size ≤ yb := by have := HF5.out.bel.size; omega
      have HX6 := Lib.hid (show WkAt w6 yb (wk0 nmC 1 ⟨a, 1, 1, 0⟩ (tmpOf a 1 8) true) from x6)
      have HH6 := Lib.hid (HH5.out.below b6)
      have HJ6 := Lib.hid (HJ5.out.below b6)
      have HF6 := Lib.hid (HF5.out.below b6)
      have HYW := Lib.hid hyw
      clear x6 b6 hyb hyw c0 c1 a0 a1 a2 a3
      go_wp2_with fail
      go_meet
      exact ⟨yb, XF, SF, _, _, rfl, HYW.out, HX6.out, WF.out, CF.out, HF6.out, HH6.out, HJ6.out⟩
  case rest =>
    obtain ⟨tb, X, SX, t5, t0, rfl, q1, q2, q3, q4, q5, q6, q7⟩ := hcut
    have HT := Lib.hid q1
    have HX := Lib.hid q2
    have HW := Lib.hid q3
    have HC := Lib.hid q4
    have HF := Lib.hid q5
    have HH := Lib.hid q6
    have HJ := Lib.hid q7
    have hn0 : hb ≠ tb := fun e => by have := (Blk.at_ q6).symm.trans (e ▸ Blk.at_ q2); injection this with this; injection this with _ h3 _; exact absurd h3 (by decide)
    have hn1 : jb ≠ tb := fun e => by have := (Blk.at_ q7).symm.trans (e ▸ Blk.at_ q2); injection this with this; injection this with _ h3 _; exact absurd h3 (by decide)
    have HN := Lib.hid (show hb ∉ [fb, mb, tb] ∧ jb ∉ [fb, mb, tb] by
      have h1 := q5.ne (Blk.at_ q6) (by decide)
      have h2 := q5.ne (Blk.at_ q7) (by decide)
      simp at h1 h2 ⊢
      exact ⟨⟨h1.1, h1.2, hn0⟩, ⟨h2.1, h2.2, hn1⟩⟩)
    clear q1 q2 q3 q4 q5 q6 q7 hn0 hn1 WR WF CR CF HG5 HK5 HH5 HJ5 HF5 HX5
    go_wp2_with fail
    refine (written_any 2 HF.out HX.out HW.out HT.out (by omega) rfl).mono ?_
    rintro e w6 ⟨rfl, f6, x6, o6⟩
    have HF6 := Lib.hid f6
    have HX6 := Lib.hid x6
    have HH6 := Lib.hid (HH.out.only o6 HN.out.1)
    have HJ6 := Lib.hid (HJ.out.only o6 HN.out.2)
    clear f6 x6 o6 HF HX HH HJ
    go_wp2_with fail
    refine (wgot_none HX6.out HW.out.at_ (.inr (by rw [HW.out.told]; decide))).mono ?_
    rintro e w7 ⟨rfl, b7⟩
    unfold noneV lkV lk0
    have HF7 := Lib.hid (HF6.out.below b7)
    have HH7 := Lib.hid (HH6.out.below b7)
    have HJ7 := Lib.hid (HJ6.out.below b7)
    clear b7 HF6 HX6 HH6 HJ6 HW
    go_wp2_with fail
    refine (read_h HF7.out.alloc.alloc nmC (by decide)).mono ?_
    rintro e w8 ⟨RA, rn, rc, rfl, hrn, hown, b8⟩
    rw [readF_of nmC_ok HC.out.c] at hrn hown ⊢
    have hrn' : rn = 34 := by have : lm.bytes.length = rn := hrn; rw [Lk.bytes_len] at this; exact this.symm
    subst hrn'
    have hcap := hown.cap
    have HRA := Lib.hid (own_bs (l := lm.bytes) hown (Lk.bytes_by _) (by omega))
    have HF8 := Lib.hid (HF7.out.alloc.alloc.below b8)
    have HH8 := Lib.hid (((HH7.out.alloc _).alloc _).below b8)
    have HJ8 := Lib.hid (((HJ7.out.alloc _).alloc _).below b8)
    clear hrn hown b8 HF7 HH7 HJ7
    go_wp2_with fail
    refine (ropenlock_any RA 34 rc lm.bytes _ HRA.out hcap (by omega)).mono ?_
    rintro e w9 ⟨rfl, b9⟩
    rw [HO2.out]
    have HF9 := Lib.hid (HF8.out.below b9)
    have HH9 := Lib.hid (HH8.out.below b9)
    have HJ9 := Lib.hid (HJ8.out.below b9)
    clear b9 HF8 HH8 HJ8 HRA
    simp only [Option.getD_some, Option.isSome_some]
    unfold lkV
    go_upto_region 17 with fail
    obtain ⟨yb, hyb⟩ : ∃ yb, yb = w9.heap.size := ⟨_, rfl⟩
    rw [← hyb]
    refine at_world (fun W => Blk W yb 28 (lkCells lm) ∧ Blk W hb 26 [.string nmC, .int .i64 sl] ∧ Blk W jb 28 (lkCells lm) ∧ FsH w W fb mb SX 10) ⟨blk_new hyb, HH9.out.alloc _, HJ9.out.alloc _, HF9.out.alloc⟩ ?_
    clear HH9 HJ9 HF9 hyb
    rintro V ⟨k1, k2, k3, k4⟩
    have HKc := Lib.hid (fun (w' : World) (hbl : Below V.heap.size V w') => (show w'.cell? ⟨hb, 1, none⟩ = some (.int .i64 sl) ∧ w'.cell? ⟨yb, 0, none⟩ = some (.int .i64 lm.who) ∧ w'.cell? ⟨yb, 1, none⟩ = some (.int .i64 lm.inc) ∧ w'.cell? ⟨yb, 2, none⟩ = some (.int .i64 lm.epoch) ∧ w'.cell? ⟨yb, 3, none⟩ = some (.int .i64 lm.till) ∧ w'.cell? ⟨jb, 0, none⟩ = some (.int .i64 lm.who) ∧ w'.cell? ⟨jb, 1, none⟩ = some (.int .i64 lm.inc) ∧ w'.cell? ⟨jb, 2, none⟩ = some (.int .i64 lm.epoch) ∧ w'.cell? ⟨jb, 3, none⟩ = some (.int .i64 lm.till) from ⟨(k2.below hbl).cell 1, (k1.below hbl).cell 0, (k1.below hbl).cell 1, (k1.below hbl).cell 2, (k1.below hbl).cell 3, (k3.below hbl).cell 0, (k3.below hbl).cell 1, (k3.below hbl).cell 2, (k3.below hbl).cell 3⟩))
    have HF10 := Lib.hid k4.drew
    have HST := Lib.hid (show SX.st nmC = sl from (by_of HC.out.c).2.1)
    clear k1 k2 k3 k4
    (refine wp_region_held_drew (S := fun w' => w'.cell? ⟨hb, 1, none⟩ = some (.int .i64 sl) ∧ w'.cell? ⟨yb, 0, none⟩ = some (.int .i64 lm.who) ∧ w'.cell? ⟨yb, 1, none⟩ = some (.int .i64 lm.inc) ∧ w'.cell? ⟨yb, 2, none⟩ = some (.int .i64 lm.epoch) ∧ w'.cell? ⟨yb, 3, none⟩ = some (.int .i64 lm.till) ∧ w'.cell? ⟨jb, 0, none⟩ = some (.int .i64 lm.who) ∧ w'.cell? ⟨jb, 1, none⟩ = some (.int .i64 lm.inc) ∧ w'.cell? ⟨jb, 2, none⟩ = some (.int .i64 lm.epoch) ∧ w'.cell? ⟨jb, 3, none⟩ = some (.int .i64 lm.till)) (by kernel_rfl) (HKc.out _ (Below.refl _ _).drew) (fun hHeld => ?_))
    (refine wpAnyH_take (i := 0) (oi := _) (v := ?_) (ops_at rfl) (by kernel_rfl) (by kernel_rfl) (by kernel_rfl) (fun _ _ _ h => h) (Or.inl ⟨by rfl, ?_⟩) (by assumption) ?_; rotate_left; (focus (intro w hSw; (try dsimp only at hSw); go_simp; (try with_reducible rfl))); (try simp only [Act.put, List.setIfInBounds_toArray, List.set_cons_zero, List.set_cons_succ])); (refine wpAnyH_take (i := 1) (oi := _) (v := ?_) (ops_at rfl) (by kernel_rfl) (by kernel_rfl) (by kernel_rfl) (fun _ _ _ h => h) (Or.inl ⟨by rfl, ?_⟩) (by assumption) ?_; rotate_left; (focus (intro w hSw; (try dsimp only at hSw); go_simp; (try with_reducible rfl))); (try simp only [Act.put, List.setIfInBounds_toArray, List.set_cons_zero, List.set_cons_succ])); (refine wpAnyH_take (i := 2) (oi := _) (v := ?_) (ops_at rfl) (by kernel_rfl) (by kernel_rfl) (by kernel_rfl) (fun _ _ _ h => h) (Or.inl ⟨by rfl, ?_⟩) (by assumption) ?_; rotate_left; (focus (intro w hSw; (try dsimp only at hSw); go_simp; (try with_reducible rfl))); (try simp only [Act.put, List.setIfInBounds_toArray, List.set_cons_zero, List.set_cons_succ])); (refine wpAnyH_take (i := 3) (oi := _) (v := ?_) (ops_at rfl) (by kernel_rfl) (by kernel_rfl) (by kernel_rfl) (fun _ _ _ h => h) (Or.inl ⟨by rfl, ?_⟩) (by assumption) ?_; rotate_left; (focus (intro w hSw; (try dsimp only at hSw); go_simp; (try with_reducible rfl))); (try simp only [Act.put, List.setIfInBounds_toArray, List.set_cons_zero, List.set_cons_succ])); (refine wpAnyH_take (i := 5) (oi := _) (v := ?_) (ops_at rfl) (by kernel_rfl) (by kernel_rfl) (by kernel_rfl) (fun _ _ _ h => h) (Or.inl ⟨by rfl, ?_⟩) (by assumption) ?_; rotate_left; (focus (intro w hSw; (try dsimp only at hSw); go_simp; (try with_reducible rfl))); (try simp only [Act.put, List.setIfInBounds_toArray, List.set_cons_zero, List.set_cons_succ])); (refine wpAnyH_take (i := 6) (oi := _) (v := ?_) (ops_at rfl) (by kernel_rfl) (by kernel_rfl) (by kernel_rfl) (fun _ _ _ h => h) (Or.inl ⟨by rfl, ?_⟩) (by assumption) ?_; rotate_left; (focus (intro w hSw; (try dsimp only at hSw); go_simp; (try with_reducible rfl))); (try simp only [Act.put, List.setIfInBounds_toArray, List.set_cons_zero, List.set_cons_succ]))
    (refine wpAnyH_ready (rs := [4]) (by kernel_rfl) (by simp) (AllReadyH.cons (ops_at rfl) (fun K hK => ?_) AllReadyH.nil); go_simp; (refine (stamp_h HF10.out nmC (by decide)).mono ?_; rintro e w' ⟨rfl, rfl⟩; rw [HST.out]); refine hK.out _ _ (HKc.out _ (Below.refl _ _).drew) (fun hHeld => ?_); clear hK K; (try simp only [Act.put, List.setIfInBounds_toArray, List.set_cons_zero, List.set_cons_succ]))
    (refine wpAnyH_take (i := 7) (oi := _) (v := ?_) (ops_at rfl) (by kernel_rfl) (by kernel_rfl) (by kernel_rfl) (fun _ _ _ h => h) (Or.inl ⟨by rfl, ?_⟩) (by assumption) ?_; rotate_left; (focus (intro w hSw; (try dsimp only at hSw); go_simp; (try with_reducible rfl))); (try simp only [Act.put, List.setIfInBounds_toArray, List.set_cons_zero, List.set_cons_succ])); (refine wpAnyH_take (i := 8) (oi := _) (v := ?_) (ops_at rfl) (by kernel_rfl) (by kernel_rfl) (by kernel_rfl) (fun _ _ _ h => h) (Or.inl ⟨by rfl, ?_⟩) (by assumption) ?_; rotate_left; (focus (intro w hSw; (try dsimp only at hSw); go_simp; (try with_reducible rfl))); (try simp only [Act.put, List.setIfInBounds_toArray, List.set_cons_zero, List.set_cons_succ])); (refine wpAnyH_take (i := 9) (oi := _) (v := ?_) (ops_at rfl) (by kernel_rfl) (by kernel_rfl) (by kernel_rfl) (fun _ _ _ h => h) (Or.inl ⟨by rfl, ?_⟩) (by assumption) ?_; rotate_left; (focus (intro w hSw; (try dsimp only at hSw); go_simp; (try with_reducible rfl))); (try simp only [Act.put, List.setIfInBounds_toArray, List.set_cons_zero, List.set_cons_succ])); (refine wpAnyH_take (i := 10) (oi := _) (v := ?_) (ops_at rfl) (by kernel_rfl) (by kernel_rfl) (by kernel_rfl) (fun _ _ _ h => h) (Or.inl ⟨by rfl, ?_⟩) (by assumption) ?_; rotate_left; (focus (intro w hSw; (try dsimp only at hSw); go_simp; (try with_reducible rfl))); (try simp only [Act.put, List.setIfInBounds_toArray, List.set_cons_zero, List.set_cons_succ])); (refine wpAnyH_take (i := 11) (oi := _) (v := ?_) (ops_at rfl) (by kernel_rfl) (by kernel_rfl) (by kernel_rfl) (fun _ _ _ h => h) (Or.inl ⟨by rfl, ?_⟩) (by assumption) ?_; rotate_left; (focus (intro w hSw; (try dsimp only at hSw); go_simp; (try with_reducible rfl))); (try simp only [Act.put, List.setIfInBounds_toArray, List.set_cons_zero, List.set_cons_succ])); (refine wpAnyH_take (i := 12) (oi := _) (v := ?_) (ops_at rfl) (by kernel_rfl) (by kernel_rfl) (by kernel_rfl) (fun _ _ _ h => h) (Or.inl ⟨by rfl, ?_⟩) (by assumption) ?_; rotate_left; (focus (intro w hSw; (try dsimp only at hSw); go_simp; (try with_reducible rfl))); (try simp only [Act.put, List.setIfInBounds_toArray, List.set_cons_zero, List.set_cons_succ])); (refine wpAnyH_take (i := 13) (oi := _) (v := ?_) (ops_at rfl) (by kernel_rfl) (by kernel_rfl) (by kernel_rfl) (fun _ _ _ h => h) (Or.inl ⟨by rfl, ?_⟩) (by assumption) ?_; rotate_left; (focus (intro w hSw; (try dsimp only at hSw); go_simp; (try with_reducible rfl))); (try simp only [Act.put, List.setIfInBounds_toArray, List.set_cons_zero, List.set_cons_succ])); (refine wpAnyH_take (i := 14) (oi := _) (v := ?_) (ops_at rfl) (by kernel_rfl) (by kernel_rfl) (by kernel_rfl) (fun _ _ _ h => h) (Or.inl ⟨by rfl, ?_⟩) (by assumption) ?_; rotate_left; (focus (intro w hSw; (try dsimp only at hSw); go_simp; (try with_reducible rfl))); (try simp only [Act.put, List.setIfInBounds_toArray, List.set_cons_zero, List.set_cons_succ])); (refine wpAnyH_take (i := 15) (oi := _) (v := ?_) (ops_at rfl) (by kernel_rfl) (by kernel_rfl) (by kernel_rfl) (fun _ _ _ h => h) (Or.inl ⟨by rfl, ?_⟩) (by assumption) ?_; rotate_left; (focus (intro w hSw; (try dsimp only at hSw); go_simp; (try with_reducible rfl))); (try simp only [Act.put, List.setIfInBounds_toArray, List.set_cons_zero, List.set_cons_succ])); (refine wpAnyH_take (i := 16) (oi := _) (v := ?_) (ops_at rfl) (by kernel_rfl) (by kernel_rfl) (by kernel_rfl) (fun _ _ _ h => h) (Or.inl ⟨by rfl, ?_⟩) (by assumption) ?_; rotate_left; (focus (intro w hSw; (try dsimp only at hSw); go_simp; (try with_reducible rfl))); (try simp only [Act.put, List.setIfInBounds_toArray, List.set_cons_zero, List.set_cons_succ])); (refine wpAnyH_take (i := 17) (oi := _) (v := ?_) (ops_at rfl) (by kernel_rfl) (by kernel_rfl) (by kernel_rfl) (fun _ _ _ h => h) (Or.inl ⟨by rfl, ?_⟩) (by assumption) ?_; rotate_left; (focus (intro w hSw; (try dsimp only at hSw); go_simp; (try with_reducible rfl))); (try simp only [Act.put, List.setIfInBounds_toArray, List.set_cons_zero, List.set_cons_succ])); (refine wpAnyH_take (i := 18) (oi := _) (v := ?_) (ops_at rfl) (by kernel_rfl) (by kernel_rfl) (by kernel_rfl) (fun _ _ _ h => h) (Or.inl ⟨by rfl, ?_⟩) (by assumption) ?_; rotate_left; (focus (intro w hSw; (try dsimp only at hSw); go_simp; (try with_reducible rfl))); (try simp only [Act.put, List.setIfInBounds_toArray, List.set_cons_zero, List.set_cons_succ]))
    (refine wpAnyH_ready (rs := [19]) (by kernel_rfl) (by simp) (AllReadyH.cons (ops_at rfl) (fun K hK => ?_) AllReadyH.nil); go_simp; (refine (list_h HF10.out ⟨#[116, 109, 112]⟩ (by decide)).mono ?_; rintro e w20 ⟨ks, LA, ln, lc, hks, rfl, hln, -, b20⟩); refine hK.out _ _ (HKc.out _ (bl_of_drew b20)) (fun hHeld => ?_); clear hK K; (try simp only [Act.put, List.setIfInBounds_toArray, List.set_cons_zero, List.set_cons_succ]))
    obtain rfl : ln = 0 := by rw [hln]; exact HC.out.tmp hks
    have HF20 := Lib.hid (HF10.out.below b20)
    have HB20 := Lib.hid (bl_of_drew b20)
    clear hks hln b20
    (refine wpAnyH_take (i := 20) (oi := _) (v := ?_) (ops_at rfl) (by kernel_rfl) (by kernel_rfl) (by kernel_rfl) (fun _ _ _ h => h) (Or.inl ⟨by rfl, ?_⟩) (by assumption) ?_; rotate_left; (focus (intro w hSw; (try dsimp only at hSw); go_simp; (try with_reducible rfl))); (try simp only [Act.put, List.setIfInBounds_toArray, List.set_cons_zero, List.set_cons_succ])); (refine wpAnyH_take (i := 21) (oi := _) (v := ?_) (ops_at rfl) (by kernel_rfl) (by kernel_rfl) (by kernel_rfl) (fun _ _ _ h => h) (Or.inl ⟨by rfl, ?_⟩) (by assumption) ?_; rotate_left; (focus (intro w hSw; (try dsimp only at hSw); go_simp; (try with_reducible rfl))); (try simp only [Act.put, List.setIfInBounds_toArray, List.set_cons_zero, List.set_cons_succ])); (refine wpAnyH_take (i := 22) (oi := _) (v := ?_) (ops_at rfl) (by kernel_rfl) (by kernel_rfl) (by kernel_rfl) (fun _ _ _ h => h) (Or.inl ⟨by rfl, ?_⟩) (by assumption) ?_; rotate_left; (focus (intro w hSw; (try dsimp only at hSw); go_simp; (try with_reducible rfl))); (try simp only [Act.put, List.setIfInBounds_toArray, List.set_cons_zero, List.set_cons_succ])); (refine wpAnyH_take (i := 23) (oi := _) (v := ?_) (ops_at rfl) (by kernel_rfl) (by kernel_rfl) (by kernel_rfl) (fun _ _ _ h => h) (Or.inl ⟨by rfl, ?_⟩) (by assumption) ?_; rotate_left; (focus (intro w hSw; (try dsimp only at hSw); go_simp; (try with_reducible rfl))); (try simp only [Act.put, List.setIfInBounds_toArray, List.set_cons_zero, List.set_cons_succ]))
    (refine wpAnyH_ready (rs := [24]) (by kernel_rfl) (by simp) (AllReadyH.cons (ops_at rfl) (fun K hK => ?_) AllReadyH.nil); go_simp; (refine (awake13_any _).mono ?_; rintro e w21 ⟨rfl, b21⟩); refine hK.out _ _ (HKc.out _ (HB20.out.trans (b21.mono HB20.out.size))) (fun hHeld => ?_); clear hK K; (try simp only [Act.put, List.setIfInBounds_toArray, List.set_cons_zero, List.set_cons_succ]))
    have HF21 := Lib.hid (HF20.out.below b21)
    clear b21 HF20 HF10
    (refine wpAnyH_take (i := 25) (oi := _) (v := ?_) (ops_at rfl) (by kernel_rfl) (by kernel_rfl) (by kernel_rfl) (fun _ _ _ h => h) (Or.inl ⟨by rfl, ?_⟩) (by assumption) ?_; rotate_left; (focus (intro w hSw; (try dsimp only at hSw); go_simp; (try with_reducible rfl))); (try simp only [Act.put, List.setIfInBounds_toArray, List.set_cons_zero, List.set_cons_succ])); (refine wpAnyH_take (i := 26) (oi := _) (v := ?_) (ops_at rfl) (by kernel_rfl) (by kernel_rfl) (by kernel_rfl) (fun _ _ _ h => h) (Or.inl ⟨by rfl, ?_⟩) (by assumption) ?_; rotate_left; (focus (intro w hSw; (try dsimp only at hSw); go_simp; (try with_reducible rfl))); (try simp only [Act.put, List.setIfInBounds_toArray, List.set_cons_zero, List.set_cons_succ]))
    (refine wpAnyH_done (by kernel_rfl) ?_ _)
    clear hHeld
    go_wp2_with fail
    go_ret
    exact ⟨rfl, HF21.out.bel⟩
end Go.Proofs.YtahdeighocmijaaGreatDoor
