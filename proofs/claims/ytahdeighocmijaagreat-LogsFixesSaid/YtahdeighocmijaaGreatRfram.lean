/- The walk of the reference's sum. The reference's frames: frame, Scan. The reference's frames and commits are written. -/
import Derived.Test.YtahdeighocmijaaGreatSum
import Derived.Test.YtahdeighocmijaaGreatFrM
import Derived.Test.YtahdeighocmijaaGreatRread
namespace Go.Proofs.YtahdeighocmijaaGreat
set_option linter.unusedSimpArgs false
set_option linter.unusedVariables false
open Go.RowKit
open Crc (Bytes)
set_option maxHeartbeats 1000000 in
theorem rsum_any (A : Option Addr) (n c : Nat) (l : List Int) (w : World) (hr : Bs w A n l) :
    Calls Tryz.prog 21 #[.slice A n c] w fun e w' => e = .returned (.int .u32 (Crc.sum l)) ∧ w = w' := by
  obtain rfl : l.length = n := hr.len
  have hn := hr.le
  go_enter Tryz.func21, Tryz.ntmps21
  go_wp2
  go_loop [3, 4] (fun v i => ∃ k : Nat, k ≤ l.length ∧ i = .int .i64 k ∧ v = .int .u32 (sumTo l k)) (fun _ i => l.length - (intOf i).toNat)
  case atStart => exact ⟨0, Nat.zero_le _, rfl, rfl⟩
  case round =>
    obtain ⟨k, hk, rfl, rfl⟩ := hrel
    by_cases hlt : k < l.length
    · obtain ⟨ad, rfl, hc, h1, h2⟩ := hr.get hlt
      have hs := Lib.hid (sum_start hr.by_ hlt)
      go_wp2
      go_loop [3, 5] (fun v i => ∃ j : Nat, j ≤ 8 ∧ i = .int .i64 j ∧ v = .int .u32 (sumIn l k j)) (fun _ i => 8 - (intOf i).toNat)
      case atStart => exact ⟨0, by omega, rfl, by rw [hs.out]⟩
      case round =>
        clear hs
        obtain ⟨j, hj, rfl, rfl⟩ := hrel
        by_cases hj8 : j < 8
        · by_cases ho : Go.bits .and .u32 (sumIn l k j) 1 = 1
          · have he := Lib.hid (sum_odd hr.by_ hlt ho)
            have hb : (Go.bits .and .u32 (sumIn l k j) 1 == 1) = true := beq_iff_eq.2 ho
            clear ho
            go_wp2
            go_round
            case rel => exact ⟨j + 1, by omega, by go_num, by rw [he.out]⟩
            case measure => simp [intOf]; omega
          · have he := Lib.hid (sum_even hr.by_ hlt ho)
            have hb : (Go.bits .and .u32 (sumIn l k j) 1 == 1) = false := beq_eq_false_iff_ne.2 ho
            clear ho
            go_wp2
            go_round
            case rel => exact ⟨j + 1, by omega, by go_num, by rw [he.out]⟩
            case measure => simp [intOf]; omega
        · obtain rfl : j = 8 := by omega
          have he := Lib.hid (sum_next hlt)
          go_wp2
          go_round
          case rel => exact ⟨k + 1, by omega, by go_num, by rw [he.out]⟩
          case measure => simp [intOf]; omega
    · have he := Lib.hid (sum_end hr.by_)
      have hkl := Lib.hid (show k = l.length by omega)
      go_wp2
      go_ret
      exact ⟨by rw [hkl.out, he.out]; rfl, rfl⟩
theorem rsum_eq (A : Option Addr) (n c : Nat) (l : List Int) (r : Int) (w : World) (h : Crc.sum l = r) (hr : Bs w A n l) :
    Calls Tryz.prog 21 #[.slice A n c] w fun e w' => e = .returned (.int .u32 r) ∧ w = w' := by
  subst h; exact rsum_any A n c l w hr
end Go.Proofs.YtahdeighocmijaaGreat
namespace Go.Proofs.YtahdeighocmijaaGreat
set_option linter.unusedSimpArgs false
set_option linter.unusedVariables false
open Go.RowKit
open Crc (Bytes)
open Cod (six held dig far numOf numTo)

theorem numOf_take {l : List Int} {p : Nat} (h : 6 ≤ p) : numOf (l.take p) = numOf l := by
  unfold numOf
  rw [List.take_take, Nat.min_eq_left h]
/-- What the reference's reader says of a frame. -/
theorem one_q {l x l' : List Int} {bad : Bool} (hb : Bytes l) (h : qbytes (l, false) 10000 = (x, (l', bad))) :
    (bad = true ∧ oneF l = none) ∨ (bad = false ∧ l' = l.drop (6 + x.length) ∧ 6 + x.length ≤ l.length ∧ x.length ≤ 10000 ∧ oneF l = if l.length < 6 + x.length + 4 then none else if sum4 (l.take (6 + x.length)) = (l.drop (6 + x.length)).take 4 then some (x, 6 + x.length + 4) else none) := by
  by_cases hbad : l.length < 6 ∨ 10000 < numOf l
  · have hq : (qnum (l, false) 10000) = (0, (l, true)) := qnum_bad (.inr hbad)
    have hr : rnum (l.take (min l.length 10006), false) 10000 = (0, ([], true)) := by
      refine rnum_bad (.inr ?_)
      rcases hbad with h1 | h1
      · left; rw [List.length_take]; omega
      · by_cases h6 : 6 ≤ min l.length 10006
        · right; rw [numOf_take h6]; exact h1
        · left; rw [List.length_take]; omega
    left
    unfold qbytes at h
    rw [hq, if_pos (.inl rfl)] at h
    injection h with _ h
    injection h with _ h
    refine ⟨h.symm, ?_⟩
    have : rbytes (l.take (min l.length 10006), false) 10000 = ([], ([], true)) := by unfold rbytes; rw [hr]; rfl
    unfold oneF
    rw [this, if_pos rfl]
  · have h6 : 6 ≤ l.length := by omega
    have hN : numOf l ≤ 10000 := by omega
    have hlo : 0 ≤ numOf l := by
      have := (Cod.numTo_bd hb 6 h6).1
      rwa [numTo_six] at this
    obtain ⟨N, hNe⟩ := Int.eq_ofNat_of_zero_le hlo
    have hq : (qnum (l, false) 10000) = (numOf l, (l.drop 6, false)) := qnum_good h6 hN
    have hr : rnum (l.take (min l.length 10006), false) 10000 = (numOf l, ((l.take (min l.length 10006)).drop 6, false)) := by
      have h6' : 6 ≤ min l.length 10006 := by omega
      rw [← numOf_take h6']
      exact rnum_good (by rw [List.length_take]; omega) (by rw [numOf_take h6']; exact hN)
    unfold qbytes at h
    rw [hq] at h
    simp only [hNe, Int.toNat_natCast] at h
    have hd : (l.drop 6).length = l.length - 6 := List.length_drop
    have hd2 : ((l.take (min l.length 10006)).drop 6).length = min l.length 10006 - 6 := by rw [List.length_drop, List.length_take]; omega
    by_cases hs : l.length - 6 < N
    · rw [if_pos (.inr (by rw [hd]; omega))] at h
      injection h with _ h
      injection h with _ h
      left
      refine ⟨h.symm, ?_⟩
      have : rbytes (l.take (min l.length 10006), false) 10000 = ([], ([], true)) := by
        unfold rbytes; rw [hr]; simp only [hNe]; rw [if_pos (by rw [hd2]; omega)]
      unfold oneF
      rw [this, if_pos rfl]
    · rw [if_neg (by rw [hd]; simp; omega)] at h
      injection h with hx h
      injection h with hl h
      right
      have hxl : x.length = N := by rw [← hx, List.length_take, hd]; omega
      have hrb : rbytes (l.take (min l.length 10006), false) 10000 = (x, (((l.take (min l.length 10006)).drop 6).drop N, false)) := by
        unfold rbytes; rw [hr]; simp only [hNe, Int.toNat_natCast]; rw [if_neg (by rw [hd2]; omega)]
        have : ((l.take (min l.length 10006)).drop 6).take N = x := by
          rw [← hx, List.drop_take, List.take_take, Nat.min_eq_left (by omega)]
        rw [this]
      refine ⟨h.symm, by rw [← hl, hxl, List.drop_drop], by omega, by omega, ?_⟩
      unfold oneF
      rw [hrb, if_neg (by simp)]
theorem four_of {b : List Int} {E : Nat} (h : E + 4 ≤ b.length) : (b.drop E).take 4 = [ix b E, ix b (E + 1), ix b (E + 2), ix b (E + 3)] := by
  rw [ix_get (l := b) (k := E) (by omega), ix_get (l := b) (k := E + 1) (by omega), ix_get (l := b) (k := E + 2) (by omega), ix_get (l := b) (k := E + 3) (by omega)]
  rw [List.drop_eq_getElem_cons (by omega), List.drop_eq_getElem_cons (i := E + 1) (by omega), List.drop_eq_getElem_cons (i := E + 1 + 1) (by omega), List.drop_eq_getElem_cons (i := E + 1 + 1 + 1) (by omega)]
  rfl
theorem addr_succ (a : Addr) (j : Nat) (h : 0 < j) : a.add j = ⟨a.block, a.off + j, none⟩ := by
  unfold Addr.add; rw [if_neg (by omega)]
structure RFrame (w : World) (b : List Int) (k : Nat) (e : Ending) (w' : World) : Prop where
  ex : (oneF (b.drop k) = none ∧ e = .returned (.tuple #[.slice none 0 0, .int .i64 k, .bool false])) ∨ ∃ x s X m xc, oneF (b.drop k) = some (x, s) ∧ e = .returned (.tuple #[.slice X m xc, .int .i64 ((k : Int) + (s : Nat)), .bool true]) ∧ x.length = m ∧ s = m + 10 ∧ k + s ≤ b.length ∧ Own w' w.heap.size 5 1 X m xc (ints .u8 x) ∧ Bytes x
  bel : Below w.heap.size w w'
set_option maxRecDepth 100000 in
set_option maxHeartbeats 4000000 in
theorem rframe_any (A : Option Addr) (n c k : Nat) (b : List Int) (w : World) (h : Bs w A n b) (hc : n ≤ c) (hk : k ≤ n) (hn : n ≤ 5000000) :
    Calls Tryz.prog 46 #[.slice A n c, .int .i64 k] w (RFrame w b k) := by
  have H := Lib.hid h
  have hbl := h.len
  obtain ⟨A2, hA2⟩ : ∃ A2, (if c = k then A else A.map (·.add (k * 1))) = A2 := ⟨_, rfl⟩
  have hsl : ∀ w, (Instr.slice 23 (.slice A n c) (some (.int .i64 (k : Int))) none none).run Tryz.prog w = .ok (.slice A2 (n - k) (c - k)) w := fun w => by
    rw [← hA2]; exact slice_from (P := Tryz.prog) (k := k) (kk := .i64) Tryz.underlying23 u8s hk hc w
  have hbd : (b.drop k).take (n - k) = b.drop k := List.take_of_length_le (by rw [List.length_drop, hbl]; omega)
  have hmid := h.mid (k := k) (m := n) hk (Nat.le_refl _) hc hA2
  rw [hbd] at hmid
  have HM := Lib.hid hmid
  have HA2 := Lib.hid hA2
  have Hbl := Lib.hid hbl
  obtain ⟨r, hr⟩ : ∃ r, qbytes (b.drop k, false) 10000 = r := ⟨_, rfl⟩
  obtain ⟨x, l', bad⟩ := r
  have HQ := Lib.hid hr
  have H1 := Lib.hid (one_q (fun x hx => h.by_ x (List.mem_of_mem_drop hx)) hr)
  have hq : QAt w.heap.size (w.alloc (Obj.cells #[.slice A2 (n - k) (c - k), .bool false] 95)) w.heap.size (b.drop k) false :=
    ⟨A2, n - k, c - k, Blk.new w _ [.slice A2 (n - k) (c - k), .bool false], hmid.alloc _, by omega, hmid.lt, Nat.le_refl _⟩
  have HQA := Lib.hid hq
  clear h hbl hbd hmid hA2 hr hq
  go_enter Tryz.func46, Tryz.ntmps46
  go_wp2_with fail
  refine (qbytes_eq w.heap.size w.heap.size (b.drop k) false 10000 _ _ HQ.out HQA.out).mono ?_
  rintro e w1 ⟨⟨X, m, xc, rfl, hm, hown, hno⟩, hrd, hby, hon⟩
  have Hm := Lib.hid (show x.length = m from hm.out)
  have hrd' : QAt w.heap.size w1 w.heap.size l' bad := hrd
  have HOW := Lib.hid (show Own w1 w.heap.size 5 1 X m xc (ints .u8 x) from hown.more (by simp))
  have Hby := Lib.hid (show Bytes x from hby)
  have HB1 := Lib.hid (below_only (bl_alloc (o := Obj.cells #[.slice A2 (n - k) (c - k), .bool false] 95) (Below.refl w.heap.size w)) hon (by simp) (by simp))
  obtain ⟨B, n', c', hb, hbs, hnc, hne⟩ := hrd'.out
  have hl' := Lib.hid hbs.len
  have c0 : w1.cell? ⟨w.heap.size, 0, none⟩ = some (.slice B n' c') := hb.cell 0
  have c1 : w1.cell? ⟨w.heap.size, 1, none⟩ = some (.bool bad) := hb.cell 1
  clear hrd hrd' hown hby hon hb hbs hnc hne HQA hm hno
  cases bad
  rotate_left
  · have h1 := Lib.hid (show oneF (b.drop k) = none by rcases H1.out with h | h; exact h.2; exact absurd h.1 (by decide))
    go_wp2_with fail
    go_ret3
    exact ⟨.inl ⟨h1.out, rfl⟩, HB1.out⟩
  have h1 := Lib.hid (show _ ∧ _ from by rcases H1.out with h | h; exact absurd h.1 (by decide); exact h.2)
  have hlb : l'.length = (b.drop k).length - (6 + m) := by rw [h1.out.1, List.length_drop, Hm.out]
  rw [hl'.out, List.length_drop, Hbl.out] at hlb
  have hm6 : 6 + m ≤ n - k := by have := h1.out.2.1; rw [List.length_drop, Hbl.out, Hm.out] at this; exact this
  have hm10 : m ≤ 10000 := by have := h1.out.2.2.1; rw [Hm.out] at this; exact this
  by_cases h4 : n' < 4
  · have h2 := Lib.hid (show oneF (b.drop k) = none by rw [h1.out.2.2.2, if_pos (by rw [List.length_drop, Hbl.out, Hm.out]; omega)])
    go_wp2_with fail
    go_ret3
    exact ⟨.inl ⟨h2.out, rfl⟩, HB1.out⟩
  have h2 := Lib.hid (show oneF (b.drop k) = if sum4 ((b.drop k).take (6 + m)) = ((b.drop k).drop (6 + m)).take 4 then some (x, 6 + m + 4) else none by rw [h1.out.2.2.2, if_neg (by rw [List.length_drop, Hbl.out, Hm.out]; omega), Hm.out])
  obtain ⟨E, hE⟩ : ∃ E : Nat, k + 6 + m = E := ⟨_, rfl⟩
  go_upto_region 6 with fail
  rw [show (k : Int) + 6 + (m : Int) = ((E : Nat) : Int) by omega]
  have hEn : E + 4 ≤ n := by omega
  have hs2 := fun w => slice_mid (P := Tryz.prog) (A := A) (kk := .i64) (k := k) (m := E) Tryz.underlying23 u8s (by omega) (by omega) hc w
  rw [HA2.out, show E - k = 6 + m by omega] at hs2
  have hmid := H.out.mid (k := k) (m := E) (by omega) (by omega) hc HA2.out
  rw [show E - k = 6 + m by omega] at hmid
  have HD2 := Lib.hid (hmid.below HB1.out)
  clear hmid h1 H1 HQ c0 c1
  obtain ⟨y, hy⟩ : ∃ y, Crc.sum ((b.drop k).take (6 + m)) = y := ⟨_, rfl⟩
  have h3 := Lib.hid (show oneF (b.drop k) = if [y / 16777216 % 256, y / 65536 % 256, y / 256 % 256, y % 256] = [ix b E, ix b (E + 1), ix b (E + 2), ix b (E + 3)] then some (x, 6 + m + 4) else none by
    rw [h2.out, List.drop_drop, show k + (6 + m) = E by omega, four_of (by rw [Hbl.out]; exact hEn)]
    unfold sum4
    rw [hy])
  have Hy := Lib.hid hy
  clear h2 hy
  go_wp2_with fail
  refine (rsum_eq A2 (6 + m) (c - k) _ y _ Hy.out HD2.out).mono ?_
  rintro e w' ⟨rfl, rfl⟩
  have HBW := Lib.hid (H.out.below HB1.out)
  obtain ⟨ad, rfl, g0, _, _⟩ := HBW.out.get (k := E) (by omega)
  obtain ⟨ad1, hA1, g1, _, _⟩ := HBW.out.get (k := E + 1) (by omega)
  obtain ⟨ad2, hA2, g2, _, _⟩ := HBW.out.get (k := E + 2) (by omega)
  obtain ⟨ad3, hA3, g3, _, _⟩ := HBW.out.get (k := E + 3) (by omega)
  injection hA1 with hA1
  injection hA2 with hA2
  injection hA3 with hA3
  subst hA1 hA2 hA3
  rw [addr_succ _ _ (by omega)] at g1 g2 g3
  generalize ix b E = b0 at *
  generalize ix b (E + 1) = b1 at *
  generalize ix b (E + 2) = b2 at *
  generalize ix b (E + 3) = b3 at *
  clear HM hsl
  by_cases q0 : b0 = y / 16777216 % 256
  rotate_left
  · have hn0 := Lib.hid (h3.out.trans (if_neg (by intro e; injection e with e _; exact q0 e.symm)))
    have e0 : (b0 == y / 16777216 % 256) = false := by rw [beq_eq_false_iff_ne]; exact q0
    go_wp2_with fail
    go_ret3
    exact ⟨.inl ⟨hn0.out, rfl⟩, HB1.out⟩
  subst q0
  by_cases q1 : b1 = y / 65536 % 256
  rotate_left
  · have hn0 := Lib.hid (h3.out.trans (if_neg (by intro e; injection e with _ e; injection e with e _; exact q1 e.symm)))
    have e1 : (b1 == y / 65536 % 256) = false := by rw [beq_eq_false_iff_ne]; exact q1
    go_wp2_with fail
    go_ret3
    exact ⟨.inl ⟨hn0.out, rfl⟩, HB1.out⟩
  subst q1
  by_cases q2 : b2 = y / 256 % 256
  rotate_left
  · have hn0 := Lib.hid (h3.out.trans (if_neg (by intro e; injection e with _ e; injection e with _ e; injection e with e _; exact q2 e.symm)))
    have e2 : (b2 == y / 256 % 256) = false := by rw [beq_eq_false_iff_ne]; exact q2
    go_wp2_with fail
    go_ret3
    exact ⟨.inl ⟨hn0.out, rfl⟩, HB1.out⟩
  subst q2
  by_cases q3 : b3 = y % 256
  rotate_left
  · have hn0 := Lib.hid (h3.out.trans (if_neg (by intro e; injection e with _ e; injection e with _ e; injection e with _ e; injection e with e _; exact q3 e.symm)))
    have e3 : (b3 == y % 256) = false := by rw [beq_eq_false_iff_ne]; exact q3
    go_wp2_with fail
    go_ret3
    exact ⟨.inl ⟨hn0.out, rfl⟩, HB1.out⟩
  subst q3
  have hn0 := Lib.hid (h3.out.trans (if_pos rfl))
  go_wp2_with fail
  go_ret3
  exact ⟨.inr ⟨x, 6 + m + 4, X, m, xc, hn0.out, by rw [show (k : Int) + ((6 + m + 4 : Nat) : Int) = (E : Int) + 4 by omega]; rfl, Hm.out, by omega, by rw [Hbl.out]; omega, HOW.out, Hby.out⟩, HB1.out⟩
structure RScan (w : World) (b : List Int) (e : Ending) (w' : World) : Prop where
  ex : ∃ (fs : List Fx) (k : Nat) (O : Option Addr) (oc : Nat), e = .returned (.tuple #[.slice O fs.length oc, .int .i64 k]) ∧ Fr b (fs.map Fx.pair) k ∧ oneF (b.drop k) = none ∧ (∀ f ∈ fs, f.ok w') ∧ Rd w' 1 O fs.length (fs.map Fx.val)
  bel : Below w.heap.size w w'
theorem Fx.ok.grown {W W' : World} {f : Fx} {row : Option Nat} (h : f.ok W) (hg : W.grownBy W' row) (hr : ∀ k, row = some k → ∃ t cs fr, W.heap[k]? = some (Obj.cells cs t fr) ∧ t ≠ 5) : f.ok W' := by
  have hk := h.u8.grown hg hr
  exact ⟨⟨h.bs.rd.keep hg.size hk, h.bs.by_, h.bs.le⟩, h.u8.keep hk, h.cap, h.pos_⟩
theorem Fx.ok.below {W W' : World} {f : Fx} (h : f.ok W) (hb : Below W.heap.size W W') : f.ok W' := ⟨h.bs.below hb, h.u8.below hb, h.cap, h.pos_⟩
set_option maxRecDepth 100000 in
set_option maxHeartbeats 4000000 in
theorem rscan_any (A : Option Addr) (n c : Nat) (b : List Int) (w : World) (h : Bs w A n b) (hc : n ≤ c) (hn : n ≤ 5000000) :
    Calls Tryz.prog 28 #[.slice A n c] w (RScan w b) := by
  have H := Lib.hid h
  have Hbl := Lib.hid h.len
  clear h
  go_enter Tryz.func28, Tryz.ntmps28
  go_wp2_with fail
  go_loopw [4, 5] (fun v i wr => ∃ (fs : List Fx) (k : Nat) (O : Option Addr) (oc : Nat), v = .slice O fs.length oc ∧ i = .int .i64 k ∧ k ≤ n ∧ Fr b (fs.map Fx.pair) k ∧ (∀ f ∈ fs, f.ok wr) ∧ Own wr w.heap.size 23 1 O fs.length oc (fs.map Fx.val) ∧ Below w.heap.size w wr) (fun _ i _ => n - (intOf i).toNat)
  case atStart => exact ⟨[], 0, none, 0, rfl, rfl, Nat.zero_le _, .nil, by simp, Own.nil _ _ _ _, Below.refl _ _⟩
  case round =>
    obtain ⟨fs, k, O, oc, rfl, rfl, hk, hfr, hok, hown, hbel⟩ := hrel
    have HB := Lib.hid (H.out.below hbel)
    have HF := Lib.hid hfr
    have HK := Lib.hid hok
    have HO := Lib.hid hown
    have Hbel := Lib.hid hbel
    have hsz := hbel.size
    clear hfr hok hown hbel
    go_wp2_with fail
    refine (rframe_any A n c k b _ HB.out hc hk hn).mono ?_
    rintro e w2 ⟨⟨hno, rfl⟩ | ⟨x, s, X, m, xc, ho, rfl, hxm, hs, hks, hown2, hby⟩, hb2⟩
    · have hfin := Lib.hid (show Below w.heap.size w w2 from Hbel.out.trans (hb2.mono hsz))
      have hok2 := Lib.hid (show ∀ f ∈ fs, f.ok w2 from fun f hf => (HK.out f hf).below hb2)
      have hO2 := Lib.hid (HO.out.below hb2)
      have hN := Lib.hid hno
      clear hb2 hno
      go_wp2_with fail
      go_ret2
      exact ⟨⟨fs, k, O, oc, rfl, HF.out, hN.out, hok2.out, hO2.out.rd⟩, hfin.out⟩
    · have hfin := Lib.hid (show Below w.heap.size w w2 from Hbel.out.trans (hb2.mono hsz))
      rw [Hbl.out] at hks
      have hO2 := Lib.hid (HO.out.below hb2)
      have hok2 := Lib.hid (show ∀ f ∈ fs ++ [⟨k, X, m, xc, x⟩], Fx.ok w2 f from fun f hf => by
        rcases List.mem_append.1 hf with h1 | h1
        · exact (HK.out f h1).below hb2
        · simp at h1; subst h1
          exact ⟨own_bs hown2 hby (by show m ≤ _; omega), U8.of_own hown2, hown2.cap, by show k ≤ _; omega⟩)
      have HF2 := Lib.hid (show Fr b ((fs ++ [(⟨k, X, m, xc, x⟩ : Fx)]).map Fx.pair) (k + s) from by rw [List.map_append]; exact HF.out.snoc ho)
      have hlen := HF.out.len
      rw [List.length_map] at hlen
      have hsz2 : w.heap.size ≤ w2.heap.size := hfin.out.size
      have hsk : (k : Int) + (s : Int) = ((k + s : Nat) : Int) := by omega
      clear hb2 ho hown2 hby
      go_wp2_with (at_builtin; refine wpList_app rfl (.tmp 20) (.tmp 22) 66 rfl Tryz.underlying66 slInfo rfl (by decide) rfl (hO2.out.alloc _) rfl (Rd.lit w2 #[.slice X m xc] 23 (0, 0) 1 1 rfl) (by simp [Value.oneCell']) (by omega) (by omega) (by simp; omega) rfl rfl ?_; intro Y yc w3 hx1 hg1 hx2)
      have hr : ∀ q, ob O = some q → ∃ t cs fr, (w2.alloc (Obj.cells #[.slice X m xc] 23)).heap[q]? = some (Obj.cells cs t fr) ∧ t ≠ 5 := fun q hq => by
        obtain ⟨cs, fr, e⟩ := own_at (hO2.out.alloc _) hq
        exact ⟨_, cs, fr, e, by decide⟩
      refine ⟨⟨fs ++ [⟨k, X, m, xc, x⟩], k + s, Y, yc, by simp, by congr 1; omega, by omega, HF2.out, fun f hf => ((hok2.out f hf).below (bl_alloc (Below.refl _ _))).grown hg1 hr, ?_, ?_⟩, by simp [intOf]; omega⟩
      · have e1 : (fs ++ [(⟨k, X, m, xc, x⟩ : Fx)]).length = fs.length + 1 := by simp
        have e2 : (fs ++ [(⟨k, X, m, xc, x⟩ : Fx)]).map Fx.val = fs.map Fx.val ++ [.slice X m xc] := by simp [Fx.val]
        rw [e1, e2]; exact hx1
      · exact (bl_alloc hfin.out).grown hg1 (by simp; omega) (fun q hq => (hO2.out.blk q hq).1)
end Go.Proofs.YtahdeighocmijaaGreat
namespace Go.Proofs.YtahdeighocmijaaGreat
set_option linter.unusedSimpArgs false
set_option linter.unusedVariables false
open Go.RowKit
open Crc (Bytes)
open Cod (six held dig far numOf)

set_option maxRecDepth 100000 in
set_option maxHeartbeats 2000000 in
theorem rput_any (A B : Option Addr) (n m c d : Nat) (l x : List Int) (w : World) (h : Bs w A n l) (hx : Bs w B m x) (hn : n + m ≤ 140737488350000) :
    Calls Tryz.prog 6 #[.slice A n c, .slice B m d] w (Gives w (l ++ framed x)) := by
  have H := Lib.hid h
  have HX := Lib.hid hx
  have hxl := hx.len
  have hll := h.len
  obtain ⟨y, hy⟩ : ∃ y, Crc.sum (bod x) = y := ⟨_, rfl⟩
  have Hy := Lib.hid hy
  clear h hx hy
  go_enter Tryz.func6, Tryz.ntmps6
  go_wp2_with fail
  refine (qbytesw_any none B 0 m 0 d [] x w (Bs.nil _ _) HX.out (by omega)).mono ?_
  rintro e w1 ⟨C, k, e1, rfl, hk, hown, hno, hb1⟩
  rw [show [] ++ six (x.length : Int) ++ x = bod x from rfl] at hk hown
  have hkl := hk.out
  rw [bod_len] at hkl
  have HC := Lib.hid (own_bs hown (bod_bytes HX.out.by_) (by omega))
  have HB1 := Lib.hid hb1
  have H2 := Lib.hid (H.out.below hb1)
  have hsz1 := hb1.size
  clear hown hno hb1
  go_wp2_with fail
  refine (rsum_eq C k e1 (bod x) y _ Hy.out HC.out).mono ?_
  rintro e w' ⟨rfl, rfl⟩
  have e4 : ints .u8 (sum4 (bod x)) = [.int .u8 (y / 16777216 % 256), .int .u8 (y / 65536 % 256), .int .u8 (y / 256 % 256), .int .u8 (y % 256)] := by unfold sum4; rw [Hy.out]; rfl
  have E4 := Lib.hid e4
  clear e4
  go_wp2_with (at_builtin; first
    | (refine wpList_app rfl (.tmp 11) (.tmp 12) 23 rfl Tryz.underlying23 u8i rfl (by decide) rfl (Own.lit w1 [] 5 1 0 (Nat.le_refl _) rfl (by decide)) rfl (H2.out.alloc _).rd (ints_one _ _) (by omega) (by omega) (by simp) (Nat.zero_add n) (List.nil_append _) ?_
       intro D dc w2 hown2 hg2 hx2
       have HB2 := Lib.hid (show Below w1.heap.size w1 w2 from ((Below.refl _ _).alloc (Nat.le_refl _) _).grown hg2 (by simp) (by intro k hk; simp [ob] at hk; omega))
       have hsz2 := HB2.out.size
       have HC2 := Lib.hid (HC.out.below HB2.out)
       have HD := Lib.hid hown2
       clear hown2 hg2 hx2)
    | (refine wpList_app rfl (.tmp 13) (.tmp 14) 23 rfl Tryz.underlying23 u8i rfl (by decide) rfl HD.out rfl HC2.out.rd (ints_one _ _) (by omega) (by omega) hsz2 rfl (show ints .u8 l ++ ints .u8 (bod x) = ints .u8 (l ++ bod x) by simp [ints]) ?_
       intro F fc w3 hown3 hg3 hx3
       have HB3 := Lib.hid (show Below w1.heap.size w1 w3 from HB2.out.grown hg3 hsz2 (fun k hk => (HD.out.blk k hk).1))
       have hsz3 := HB3.out.size
       have HF := Lib.hid hown3
       clear hown3 hg3 hx3)
    | (refine wpList_app rfl (.tmp 15) (.tmp 27) 23 rfl Tryz.underlying23 u8i rfl (by decide) rfl (HF.out.alloc _) rfl (Rd.lit w3 #[.int .u8 (y / 16777216 % 256), .int .u8 (y / 65536 % 256), .int .u8 (y / 256 % 256), .int .u8 (y % 256)] 5 (0, 0) 1 4 rfl) (by simp [Value.oneCell']) (by omega) (by omega) (by simp; omega) rfl (show ints .u8 (l ++ bod x) ++ #[Value.int .u8 (y / 16777216 % 256), .int .u8 (y / 65536 % 256), .int .u8 (y / 256 % 256), .int .u8 (y % 256)].toList = ints .u8 (l ++ framed x) by rw [show #[Value.int .u8 (y / 16777216 % 256), .int .u8 (y / 65536 % 256), .int .u8 (y / 256 % 256), .int .u8 (y % 256)].toList = ints .u8 (sum4 (bod x)) from E4.out.symm]; simp [ints, framed]) ?_
       intro G gc w4 hown4 hg4 hx4
       have HB4 := Lib.hid (show Below w1.heap.size w1 w4 from (bl_alloc HB3.out).grown hg4 (by simp; omega) (fun k hk => (HF.out.blk k hk).1))
       have HG := Lib.hid hown4
       clear hown4 hg4 hx4))
  go_ret
  have hl4 : (l ++ framed x).length = n + k + 4 := by rw [List.length_append, framed_len]; omega
  refine ⟨G, n + k + 4, gc, rfl, Lib.hid hl4, HG.out.more hsz1, fun hG => ?_, HB1.out.trans (HB4.out.mono hsz1)⟩
  subst hG
  obtain ⟨g, hg, _⟩ := HG.out.some (show 0 < n + k + 4 by omega)
  cases hg
end Go.Proofs.YtahdeighocmijaaGreat
