/- The walk of CodeBack. -/
import Derived.Test.YtdegfbhnilbcfaaBackMath
import Derived.Test.YtdegfbhnilbcfaaAwake2
import Derived.Test.YtdegfbhnilbcfaaInts
import Derived.Deep.DeepCutAuto
import Derived.Deep.CutBlock
import Derived.Test.YtdegfbhnilbcfaaTells
namespace Go.Proofs.Ytdegfbhnilbcfaa
set_option linter.unusedSimpArgs false
set_option linter.unusedVariables false
open Go.RowKit
open Crc (Bytes)
open Cod (six held far numOf)

def wsTo (N : List Int) (k : Nat) : List Int := (N.take k).map fun x => Go.bits .and .i64 x 4294967295
theorem wsTo_len {N : List Int} {k : Nat} (h : k ≤ N.length) : (wsTo N k).length = k := by simp [wsTo]; omega
theorem wsTo_succ {N : List Int} {k : Nat} (h : k < N.length) : wsTo N (k + 1) = wsTo N k ++ [Go.bits .and .i64 (ix N k) 4294967295] := by
  unfold wsTo
  rw [List.take_succ_eq_append_getElem h, List.map_append, ix_get h]; rfl
theorem wsTo_bd {N : List Int} {k j : Nat} (h : k ≤ N.length) (hj : j < k) : 0 ≤ ix (wsTo N k) j ∧ ix (wsTo N k) j < 4294967296 := by
  rw [ix_get (by rw [wsTo_len h]; exact hj)]
  simp only [wsTo, List.getElem_map]
  exact mask32 _

structure BackRel (w : World) (raw N : List Int) (k : Nat) (B7 : Option Addr) (nb cb : Nat) (B8 : Option Addr) (cw : Nat) (wr : World) : Prop where
  len : (msg raw (wsTo N k)).length = nb
  b : Own wr w.heap.size 5 1 B7 nb cb (ints .u8 (msg raw (wsTo N k)))
  want : Own wr w.heap.size 3 1 B8 k cw (ints .i64 (wsTo N k))
  bel : Below w.heap.size w wr

set_option maxHeartbeats 400000 in
theorem back_long (A B : Option Addr) (n c n2 c2 : Nat) (cut : Int) (w : World) (h : 100 < n2) :
    Calls Try.prog 7 #[.slice A n c, .slice B n2 c2, .int .i64 cut] w fun e w' => e = .returned (.bool true) ∧ Below w.heap.size w w' := by
  go_enter Try.func7, Try.ntmps7
  go_wp2_with (go_at_call 17; refine (awake2_any _).mono ?_; rintro e w' ⟨rfl, hb⟩)
  go_ret
  exact ⟨rfl, hb⟩

/-- What stays while the readers go. -/
structure BackCtx (W : World) (base : Nat) (raw ws : List Int) (B : Option Addr) (n2 : Nat) (C1 : Option Addr) (L c1 p : Nat) (B8 : Option Addr) (k cw g : Nat) : Prop where
  blk : Blk W g 26 [.slice C1 L c1, .slice C1 p c1]
  full : Bs W C1 L (msg raw ws ++ six 7)
  raw_ : Bs W B n2 raw
  want : Own W base 3 1 B8 k cw (ints .i64 ws)
theorem back_ctx {w : World} {base : Nat} {raw ws : List Int} {B : Option Addr} {n2 : Nat} {C1 : Option Addr} {L c1 p : Nat} {B8 : Option Addr} {k cw : Nat} (hr : Bs w B n2 raw) (hf : Bs w C1 L (msg raw ws ++ six 7)) (hw : Own w base 3 1 B8 k cw (ints .i64 ws)) :
    BackCtx (w.alloc (.cells #[.slice C1 L c1, .slice C1 p c1] 26)) base raw ws B n2 C1 L c1 p B8 k cw w.heap.size :=
  ⟨Blk.new w _ [.slice C1 L c1, .slice C1 p c1], hf.alloc _, hr.alloc _, hw.alloc _⟩
theorem BackCtx.row {W : World} {base : Nat} {raw ws : List Int} {B : Option Addr} {n2 : Nat} {C1 : Option Addr} {L c1 p : Nat} {B8 : Option Addr} {k cw g q : Nat} (h : BackCtx W base raw ws B n2 C1 L c1 p B8 k cw g) (hq : q < 2) (hp : p ≤ L) :
    ∃ nx, W.cell? ⟨g, q, none⟩ = some (.slice C1 nx c1) ∧ Bs W C1 nx ((msg raw ws ++ six 7).take nx) ∧ nx ≤ L := by
  have hq' : q = 0 ∨ q = 1 := by omega
  rcases hq' with rfl | rfl
  · exact ⟨L, h.blk.cell 0, by have := h.full; rwa [List.take_of_length_le (Nat.le_of_eq this.len)], Nat.le_refl _⟩
  · exact ⟨p, h.blk.cell 1, h.full.take hp, hp⟩
theorem BackCtx.cell {W w' : World} {base : Nat} {raw ws : List Int} {B : Option Addr} {n2 : Nat} {C1 : Option Addr} {L c1 p : Nat} {B8 : Option Addr} {k cw g q : Nat} {v : Value} (h : BackCtx W base raw ws B n2 C1 L c1 p B8 k cw g) (hb : Below W.heap.size W w')
    (hc : W.cell? ⟨g, q, none⟩ = some v) : w'.cell? ⟨g, q, none⟩ = some v := (hb.cell (p := ⟨g, q, none⟩) h.blk.lt).trans hc
def BackDone (w : World) (raw N : List Int) (n : Nat) (b wv : Value) (wx : World) : Prop :=
  ∃ (k : Nat) (B7 : Option Addr) (nb cb : Nat) (B8 : Option Addr) (cw : Nat), k ≤ n ∧ k ≤ 8 ∧ nb ≤ 8 * 112 ∧ b = .slice B7 nb cb ∧ wv = .slice B8 k cw ∧ BackRel w raw N k B7 nb cb B8 cw wx
set_option maxRecDepth 100000 in
set_option maxHeartbeats 4000000 in
theorem back_any (A B : Option Addr) (n c n2 c2 : Nat) (N raw : List Int) (cut : Int) (w : World) (hN : Is w A n N) (hr : Bs w B n2 raw) (h100 : n2 ≤ 100) :
    Calls Try.prog 7 #[.slice A n c, .slice B n2 c2, .int .i64 cut] w fun e w' => e = .returned (.bool true) ∧ Below w.heap.size w w' := by
  have HN := Lib.hid hN
  have HR := Lib.hid hr
  have hnle := hN.le
  have Hnl := Lib.hid (show N.length = n from hN.len)
  have Hrl := Lib.hid (show raw.length = n2 from hr.len)
  clear hN hr
  go_enter Try.func7, Try.ntmps7
  go_upto_block 0 with fail
  go_cut [7, 8] (fun b wv wx => BackDone w raw N n b wv wx)
  case first =>
    go_wp2_with fail
    go_loopw [7, 8, 9] (fun b wv i wr => ∃ (k : Nat) (B7 : Option Addr) (nb cb : Nat) (B8 : Option Addr) (cw : Nat), k ≤ n ∧ k ≤ 8 ∧ i = .int .i64 k ∧ b = .slice B7 nb cb ∧ wv = .slice B8 k cw ∧ BackRel w raw N k B7 nb cb B8 cw wr) (fun _ _ i _ => 8 - (intOf i).toNat)
    case atStart => exact ⟨0, none, 0, 0, none, 0, by omega, by omega, rfl, rfl, rfl, rfl, Own.nil _ _ _ _, Own.nil _ _ _ _, Below.refl _ _⟩
    case round =>
      obtain ⟨k, B7, nb, cb, B8, cw, hkn, hk8, rfl, rfl, rfl, hrel'⟩ := hrel
      have Hrel := Lib.hid hrel'
      have hnb : nb ≤ 8 * 112 := by
        rw [← hrel'.len, msg_len, wsTo_len (by rw [Hnl.out]; exact hkn), Hrl.out]
        exact Nat.mul_le_mul hk8 (by omega)
      clear hrel'
      by_cases hlt : k < n ∧ k < 8
      · obtain ⟨hl1, hl2⟩ := hlt
        obtain ⟨ad, hA, hc, hc1, hc2⟩ := (HN.out.below Hrel.out.bel).get hl1
        subst hA
        have hb7 := own_bs Hrel.out.b (msg_bytes HR.out.by_ _) (by omega)
        have Hb7 := Lib.hid hb7
        clear hb7
        have HR1 := Lib.hid (HR.out.below Hrel.out.bel)
        go_wp2_with fail
        refine (num_any B7 nb cb _ (Go.bits .and .i64 (ix N k) 4294967295) _ Hb7.out (by omega)).mono ?_
        rintro e w1 ⟨C1, N1, c1, rfl, hN1, ho1, _, hb1⟩
        have HN1 := Lib.hid (own_bs ho1 (bytes_app Hb7.out.by_ (Cod.six_bytes _)) (show N1 ≤ 140737488355328 by
          have := hN1.out; rw [List.length_append, Hrel.out.len] at this; simp [six] at this; omega))
        have hN1b : N1 ≤ 8 * 112 + 6 := by have := hN1.out; rw [List.length_append, Hrel.out.len] at this; simp [six] at this; omega
        have HR2 := Lib.hid (HR1.out.below hb1)
        have Hb1 := Lib.hid hb1
        clear ho1 hN1 hb1 hc
        go_wp2_with fail
        refine (bytes_any C1 B N1 n2 c1 c2 _ raw _ HN1.out HR2.out (by omega)).mono ?_
        rintro e w2 ⟨C2, N2, c3, rfl, hN2, ho2, _, hb2⟩
        rw [← msg_snoc] at hN2 ho2
        rw [← wsTo_succ (by rw [Hnl.out]; exact hl1)] at hN2 ho2
        have hbw : Below wr.heap.size wr w2 := Hb1.out.trans (hb2.mono Hb1.out.size)
        have hbel2 : Below w.heap.size w w2 := Hrel.out.bel.trans (hbw.mono Hrel.out.bel.size)
        obtain ⟨ad', hA', hc', hc1', hc2'⟩ := (HN.out.below hbel2).get hl1
        cases hA'
        have Hbw := Lib.hid hbw
        have Hbel2 := Lib.hid hbel2
        have Ho2 := Lib.hid (ho2.more (show w.heap.size ≤ w1.heap.size by have := Hb1.out.size; have := Hrel.out.bel.size; omega))
        have Hw2 := Lib.hid (Hrel.out.want.below hbw)
        have hsz2 := hbel2.size
        have Hnews := Lib.hid (show Rd (w2.alloc (.cells #[.int .i64 (Go.bits .and .i64 (ix N k) 4294967295)] 3)) 1 (some ⟨w2.heap.size, 0, none⟩) 1 (ints .i64 [Go.bits .and .i64 (ix N k) 4294967295]) from
          Rd.lit w2 #[.int .i64 (Go.bits .and .i64 (ix N k) 4294967295)] 3 (0, 0) 1 1 rfl)
        have Hzz := Lib.hid (show ints .i64 (wsTo N k) ++ ints .i64 [Go.bits .and .i64 (ix N k) 4294967295] = ints .i64 (wsTo N (k + 1)) by
          rw [wsTo_succ (by rw [Hnl.out]; exact hl1)]; simp [ints])
        clear hbw hbel2 ho2 hb2
        go_wp2_with (first
          | (at_builtin
             refine wpList_app rfl (.tmp 41) (.tmp 47) 38 rfl Try.underlying38 i64i rfl (by decide) rfl (Hw2.out.alloc _) rfl Hnews.out (ints_one _ _) (by omega) (by omega) (by simp; omega) rfl Hzz.out ?_
             intro D dc w3 hown3 hg3 hob3))
        refine ⟨⟨k + 1, C2, N2, c3, D, dc, by omega, by omega, by go_num, rfl, rfl, hN2.out, ?_, hown3, ?_⟩, by simp [intOf]; omega⟩
        · exact (Ho2.out.alloc _).grown hg3 (own_apart Ho2.out Hw2.out (by decide))
        · exact (Hbel2.out.alloc hsz2 _).grown hg3 (by simp; omega) (fun j hj => (Hw2.out.blk j hj).1)
      · have Hd := Lib.hid (show BackDone w raw N n (.slice B7 nb cb) (.slice B8 k cw) wr from ⟨k, B7, nb, cb, B8, cw, hkn, hk8, hnb, rfl, rfl, Hrel.out⟩)
        by_cases hk8' : k < 8
        · have hkn' : ¬ k < n := fun h => hlt ⟨h, hk8'⟩
          clear hlt
          go_wp2_with fail
          go_meet
          exact Hd.out
        · clear hlt
          go_wp2_with fail
          all_goals go_meet
          all_goals exact Hd.out
  case rest =>
    obtain ⟨wr, rfl⟩ : ∃ y : World, y = wc := ⟨_, rfl⟩
    obtain ⟨k, B7, nb, cb, B8, cw, hkn, hk8, hnb, rfl, rfl, hrel'⟩ := hcut
    have Hrel := Lib.hid hrel'
    clear hrel'
    have hb7 := own_bs Hrel.out.b (msg_bytes HR.out.by_ _) (by omega)
    have Hb7 := Lib.hid hb7
    obtain ⟨m, hm, he⟩ := and65535 cut
    clear hb7
    go_wp2_with fail
    refine (num_any B7 nb cb _ 7 _ Hb7.out (by omega)).mono ?_
    rintro e w1 ⟨C1, L, c1, rfl, hN1, ho1, _, hb1⟩
    have hL := Lib.hid hN1.out
    have hbw : Below w.heap.size w w1 := Hrel.out.bel.trans (hb1.mono Hrel.out.bel.size)
    have hwant := Hrel.out.want.below hb1
    have hL6 : 6 ≤ L := by have := hL.out; rw [List.length_append] at this; simp [six] at this; omega
    have hLb : L ≤ 8 * 112 + 6 := by have := hL.out; rw [List.length_append, Hrel.out.len] at this; simp [six] at this; omega
    obtain ⟨r, hrm, hrl⟩ : ∃ r : Nat, (m : Int) % (L : Int) = (r : Int) ∧ r < L := ⟨m % L, by rw [Int.natCast_emod], Nat.mod_lt _ (by omega)⟩
    obtain ⟨p, hp, hpl⟩ : ∃ p : Nat, (L : Int) - 1 - (r : Int) = (p : Int) ∧ p < L := ⟨L - 1 - r, by omega, by omega⟩
    have hcap := ho1.cap
    have b0 : (0 : Int) ≤ (p : Int) := by omega
    have b1 : (p : Int) ≤ (c1 : Int) := by omega
    have b2 : (0 : Int) < (L : Int) := by omega
    have hL0 : ((L : Int) == 0) = false := by simp; omega
    have Hfull := Lib.hid (own_bs ho1 (bytes_app Hb7.out.by_ (Cod.six_bytes 7)) (by omega))
    have Hwant := Lib.hid hwant
    have Hbw := Lib.hid hbw
    clear hN1 ho1 hb1 hwant hbw
    go_wp2_with fail
    refine at_world (fun W => BackCtx W w.heap.size raw (wsTo N k) B n2 C1 L c1 p B8 k cw w1.heap.size ∧ Below w.heap.size w W) ⟨back_ctx (HR.out.below Hbw.out) Hfull.out Hwant.out, Hbw.out.alloc Hbw.out.size _⟩ ?_
    rintro W ⟨hW, hbW⟩
    clear hrm hp he hm
    have HW := Lib.hid hW
    have HbW := Lib.hid hbW
    clear hW hbW Hfull Hwant Hbw Hrel Hb7
    obtain ⟨g40, hg40⟩ : ∃ y, y = w1.heap.size := ⟨_, rfl⟩
    rw [← hg40] at HW ⊢
    clear hg40
    have hws : (wsTo N k).length = k := wsTo_len (by rw [Hnl.out]; exact hkn)
    have Hws := Lib.hid hws
    obtain ⟨ws, hwse⟩ : ∃ y, y = wsTo N k := ⟨_, rfl⟩
    have Hbd := Lib.hid (show ∀ j, j < k → 0 ≤ ix ws j ∧ ix ws j < 4294967296 from fun j hj => by rw [hwse]; exact wsTo_bd (by rw [Hnl.out]; exact hkn) hj)
    rw [← hwse] at HW hL Hws
    clear hws hwse
    go_loopw [68] (fun i wr => ∃ q : Nat, q ≤ 2 ∧ i = .int .i64 q ∧ Below W.heap.size W wr) (fun i _ => 2 - (intOf i).toNat)
    case atStart => exact ⟨0, by omega, rfl, Below.refl _ _⟩
    case round =>
      obtain ⟨q, hq, rfl, hbel⟩ := hrel
      have Hbel := Lib.hid hbel
      clear hbel
      by_cases hq2 : q < 2
      · obtain ⟨nx, hcell, hX, hnx⟩ := HW.out.row hq2 (by omega)
        have hcell2 := HW.out.cell Hbel.out hcell
        have HX := Lib.hid (hX.below Hbel.out)
        have Hnx := Lib.hid hnx
        clear hX hnx hcell
        go_wp2_with fail
        refine (read_any C1 nx c1 _ _ HX.out).mono ?_
        rintro e w3 ⟨gr, rfl, hr3, hgr, hb3⟩
        have hst0 := st_start raw ws nx (by rw [hL.out]; exact Hnx.out)
        rw [hL.out] at hst0
        have hgrW : W.heap.size ≤ gr := by have := Hbel.out.size; omega
        have hbel3 : Below W.heap.size W w3 := Hbel.out.trans (hb3.mono Hbel.out.size)
        obtain ⟨whole, hwh⟩ : ∃ y, y = decide (nx = L) := ⟨_, rfl⟩
        rw [← hwh] at hst0
        have Hwh := Lib.hid hwh
        have Hst0 := Lib.hid hst0
        have Hr3 := Lib.hid hr3
        have Hbel3 := Lib.hid hbel3
        clear hst0 hwh hr3 hbel3 hb3 hcell2 HX Hbel hgr
        go_wp2_with fail
        go_loopw [78] (fun i wi => ∃ (j : Nat) (sj : List Int × Bool), j ≤ k ∧ i = .int .i64 j ∧ RdAt wi gr sj.1 sj.2 ∧ St raw ws whole j sj ∧ Below W.heap.size W wi) (fun i _ => k - (intOf i).toNat)
        case atStart => exact ⟨0, _, by omega, rfl, Hr3.out, Hst0.out, Hbel3.out⟩
        case round =>
          clear Hr3 Hst0 Hbel3
          obtain ⟨j, ⟨l, bad⟩, hj, rfl, hrd, hst, hbw⟩ := hrel
          have Hrd := Lib.hid hrd
          have Hst := Lib.hid hst
          have Hbw := Lib.hid hbw
          have hsz := hbw.size
          clear hrd hst hbw
          by_cases hjk : j < k
          · have hstep := st_pair Hst.out (by rw [Hws.out]; exact hjk) (by rw [Hrl.out]; exact h100) (Hbd.out j hjk)
            obtain ⟨r1, hr1⟩ : ∃ y, rnum (l, bad) 1099511627776 = y := ⟨_, rfl⟩
            rw [hr1] at hstep
            obtain ⟨m1, l1, bad1⟩ := r1
            obtain ⟨r2, hr2⟩ : ∃ y, rbytes (l1, bad1) 100 = y := ⟨_, rfl⟩
            simp only [hr2] at hstep
            obtain ⟨y2, l2, bad2⟩ := r2
            simp only at hstep
            have Hstep := Lib.hid hstep
            have Hr1 := Lib.hid hr1
            have Hr2 := Lib.hid hr2
            clear hstep hr1 hr2
            have hwt := HW.out.want.below Hbw.out
            obtain ⟨gw, hA8, _, _⟩ := hwt.some (show 0 < k by omega)
            subst hA8
            have hcw : _ := hwt.cellAt j (by omega)
            rw [ints_get .i64 ws (by rw [Hws.out]; exact hjk), ← ix_get] at hcw
            clear hwt
            go_wp2_with fail
            with_reducible refine (rnum_eq gr l bad 1099511627776 _ _ Hr1.out Hrd.out).mono ?_
            rintro e w4 ⟨rfl, hrd4, hon4⟩
            have Hb4 := Lib.hid (below_only Hbw.out hon4 (by simpa using hgrW) hsz)
            have hsz4 := Hb4.out.size
            have Hrd4 := Lib.hid hrd4
            clear hcw hon4 hrd4
            go_wp2_with fail
            with_reducible refine (rbytes_eq gr l1 bad1 100 _ _ Hr2.out Hrd4.out).mono ?_
            rintro e w5 ⟨⟨A5, n5, c5, rfl, hn5, ho5, _⟩, hrd5, hby5, hon5⟩
            have Hb5 := Lib.hid (below_only Hb4.out hon5 (by simpa using hgrW) hsz4)
            have Hrd5 := Lib.hid hrd5
            have hn5b : n5 ≤ 140737488355328 := by rw [← hn5.out]; exact rbytes_le Hrd4.out Hr2.out
            have Hy5 := Lib.hid (own_bs ho5 hby5 hn5b)
            have Hraw5 := Lib.hid (HW.out.raw_.below Hb5.out)
            clear ho5 hrd5 hby5 hon5
            go_wp2_with fail
            with_reducible refine (rok_any gr l2 bad2 _ Hrd5.out).mono ?_
            rintro e w6 ⟨rfl, rfl⟩
            have k1 := conv_str (P := Try.prog) (c := c5) Try.underlying26 Try.underlying5 Try.underlying9 Hy5.out
            have k2 := conv_str (P := Try.prog) (c := c2) Try.underlying26 Try.underlying5 Try.underlying9 Hraw5.out
            cases bad2
            · obtain ⟨e1, e2⟩ := Hstep.out.2 rfl
              have Hst2 := Lib.hid Hstep.out.1
              clear Hstep
              have e4 : ((str y2).toList == (str raw).toList) = true := by rw [e2]; simp
              clear e2
              subst e1
              go_wp2_with fail
              exact ⟨⟨j + 1, (l2, false), by omega, by go_num, Hrd5.out, Hst2.out, Hb5.out⟩, by simp [intOf]; omega⟩
            · have Hst2 := Lib.hid Hstep.out.1
              clear Hstep
              go_wp2_with fail
              exact ⟨⟨j + 1, (l2, true), by omega, by go_num, Hrd5.out, Hst2.out, Hb5.out⟩, by simp [intOf]; omega⟩
          · have hjk' := Lib.hid (show j = ws.length by rw [Hws.out]; omega)
            have hend := Hst.out
            rw [hjk'.out] at hend
            have hr7 := st_end hend
            have HbwW := Lib.hid (HbW.out.trans (Hbw.out.mono HbW.out.size))
            clear hend Hst
            cases whole
            · have Hr7 := Lib.hid hr7
              have hnxL : ¬ nx = L := by have := Hwh.out; simpa using this.symm
              have e5 : ((nx : Int) == (L : Int)) = false := by simp; omega
              clear hr7 Hwh hnxL
              go_wp2_with fail
              with_reducible refine (rnum_eq gr l bad 7 _ _ Hr7.out Hrd.out).mono ?_
              rintro e w4 ⟨rfl, hrd4, hon4⟩
              have Hb4 := Lib.hid (below_only Hbw.out hon4 (by simpa using hgrW) hsz)
              have Hrd4 := Lib.hid hrd4
              clear hrd4 hon4
              go_wp2_with (first
                | (go_at_call 15; refine (rend_any gr _ _ _ Hrd4.out).mono ?_; rintro e w6 ⟨rfl, rfl⟩)
                | (go_at_call 16; refine (rok_any gr _ _ _ Hrd4.out).mono ?_; rintro e w6 ⟨rfl, rfl⟩))
              exact ⟨⟨q + 1, by omega, by go_num, Hb4.out⟩, by simp [intOf]; omega⟩
            · have Hr7 := Lib.hid hr7
              have hnxL : nx = L := by have := Hwh.out; simpa using this.symm
              have e5 : ((nx : Int) == (L : Int)) = true := by simp; omega
              clear hr7 Hwh hnxL
              go_wp2_with fail
              with_reducible refine (rnum_eq gr l bad 7 _ _ Hr7.out Hrd.out).mono ?_
              rintro e w4 ⟨rfl, hrd4, hon4⟩
              have Hb4 := Lib.hid (below_only Hbw.out hon4 (by simpa using hgrW) hsz)
              have Hrd4 := Lib.hid hrd4
              clear hrd4 hon4
              go_wp2_with (first
                | (go_at_call 15; refine (rend_any gr _ _ _ Hrd4.out).mono ?_; rintro e w6 ⟨rfl, rfl⟩)
                | (go_at_call 16; refine (rok_any gr _ _ _ Hrd4.out).mono ?_; rintro e w6 ⟨rfl, rfl⟩))
              exact ⟨⟨q + 1, by omega, by go_num, Hb4.out⟩, by simp [intOf]; omega⟩
      · have HbW2 := Lib.hid (HbW.out.trans (Hbel.out.mono HbW.out.size))
        go_wp2_with (first | (go_at_call 17; refine (awake2_any _).mono ?_; rintro e w6 ⟨rfl, hb6⟩))
        go_ret
        exact ⟨rfl, HbW2.out.trans (hb6.mono HbW2.out.size)⟩

theorem back_row {A B : Option Addr} {n c n2 c2 : Nat} {N raw : List Int} {cut : Int} {w : World} (hn : Came .i64 w A n c N) (yn : n * 8 ≤ 140737488351232) (hb : Came .u8 w B n2 c2 raw) (yb : n2 * 1 ≤ 140737488351232) (_ : (Lit.int .i64 cut).wf = true) (W : World) (hW : W = w) :
    Calls Try.prog 7 #[.slice A n c, .slice B n2 c2, .int .i64 cut] W fun e w' => e = .returned (.bool true) ∧ Below W.heap.size W w' := by
  subst hW
  by_cases h : 100 < n2
  · exact back_long A B n c n2 c2 cut W h
  · exact back_any A B n c n2 c2 N raw cut W (came_ints hn yn) (came_bytes hb yb) (by omega)
end Go.Proofs.Ytdegfbhnilbcfaa
