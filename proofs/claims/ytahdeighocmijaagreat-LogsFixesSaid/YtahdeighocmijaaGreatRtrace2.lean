/- The reference's Trace at any bytes. -/
import Derived.Test.YtahdeighocmijaaGreatQopen
namespace Go.Proofs.YtahdeighocmijaaGreat
set_option linter.unusedSimpArgs false
set_option linter.unusedVariables false
open Go.RowKit
open Crc (Bytes)
open Cod (six held dig far numOf)

set_option maxRecDepth 100000 in
set_option maxHeartbeats 4000000 in
theorem rtrace2_any (A : Option Addr) (n c : Nat) (l : List Int) (ds : List Dn) (r : List Int) (w : World) (h : Bs w A n l) (hc : n ≤ c) (hn : n ≤ 5000000) (hl : l = tr ds ++ r) (hd : Dns ds) {x0 : List Int} {s0 : Nat} (hr : oneF r = some (x0, s0)) (hx0 : openD x0 = none) :
    Calls Tryz.prog 10 #[.slice A n c] w (TrRes w ds) := by
  have H := Lib.hid h
  have Hl := Lib.hid hl
  have HD := Lib.hid hd
  have Hr := Lib.hid hr
  have Hx0 := Lib.hid hx0
  clear h hl hd hr hx0
  go_enter Tryz.func10, Tryz.ntmps10
  go_wp2_with fail
  refine (rscan_any A n c l _ H.out hc hn).mono ?_
  rintro e w1 ⟨⟨fs, k, O, oc, rfl, hfr, hnone, hok, hrd⟩, hbel⟩
  obtain ⟨l', f1, f2, f3, f4⟩ := fr_more (r := r) HD.out Hr.out (by rw [← Hl.out]; exact hfr) (by rw [← Hl.out]; exact hnone)
  have hl' : l'.length = ds.length := by have := congrArg List.length f2; simpa using this
  have hfl : ds.length < fs.length := by have := congrArg List.length f3; simp [hl'] at this; omega
  have HX := Lib.hid (show ∀ j (h : j < ds.length) (h2 : j < fs.length), (fs[j]).x = (ds[j]).raw from fun j h h2 => by
    have e1 := congrArg (fun q => q[j]?) f3
    simp only [List.getElem?_take, List.getElem?_map, List.getElem?_eq_getElem h2, if_pos (show j < ds.length + 1 by omega), List.getElem?_append_left (show j < l'.length by omega), List.getElem?_eq_getElem (show j < l'.length by omega), Option.map_some, Option.some.injEq] at e1
    have e2 := congrArg (fun q => q[j]?) f2
    simp only [List.getElem?_map, List.getElem?_eq_getElem h, List.getElem?_eq_getElem (show j < l'.length by omega), Option.map_some, Option.some.injEq] at e2
    rw [← e2, ← e1]; rfl)
  have HX0 := Lib.hid (show (fs[ds.length]).x = x0 from by
    have e1 := congrArg (fun q => q[ds.length]?) f3
    simp only [List.getElem?_take, List.getElem?_map, List.getElem?_eq_getElem hfl, if_pos (show ds.length < ds.length + 1 by omega), List.getElem?_append_right (show l'.length ≤ ds.length by omega), hl', Nat.sub_self, List.getElem?_cons_zero, Option.map_some, Option.some.injEq] at e1
    have := congrArg Prod.snd e1
    exact this)
  have hlen := hfr.len
  have hln2 := f1.len
  rw [hl'] at hln2
  rw [List.length_map] at hlen
  have htl := H.out.len
  rw [Hl.out, List.length_append] at htl
  have HOK := Lib.hid hok
  have HRD := Lib.hid hrd
  have HB := Lib.hid hbel
  have hds5 : ds.length ≤ 500000 := by omega
  clear hfr hnone hok hrd hbel hlen htl hln2 f1 f2 f3 f4 hl'
  have hsz := HB.out.size
  go_wp2_with fail
  go_loopw [6, 7, 8] (fun v q i wr => ∃ (j : Nat) (Y : Option Addr) (yc : Nat), j ≤ ds.length ∧ i = .int .i64 j ∧ v = .slice Y j yc ∧ q = .int .i64 ((tr (ds.take j)).length : Nat) ∧ DRow wr w1.heap.size Y j yc (ds.take j) ∧ Below w1.heap.size w1 wr) (fun _ _ i _ => ds.length - (intOf i).toNat)
  case atStart => exact ⟨0, none, 0, Nat.zero_le _, rfl, rfl, rfl, DRow.nil _ _, Below.refl _ _⟩
  case round =>
    obtain ⟨j, Y, yc, hj, rfl, rfl, rfl, hrow, hbl⟩ := hrel
    by_cases hlt : j < ds.length
    · have hjf : j < fs.length := by omega
      obtain ⟨ad, hA, hlt2, hc⟩ := HRD.out.at_ (by omega)
      have hcj := hc j (fs[j].val) (by rw [List.getElem?_map, List.getElem?_eq_getElem hjf]; rfl)
      have hcj2 := (hbl.cell (by rw [addr_block]; exact hlt2)).trans hcj
      unfold Fx.val at hcj2
      obtain ⟨f, hf⟩ : ∃ f, fs[j] = f := ⟨_, rfl⟩
      have hfo := HOK.out f (by rw [← hf]; exact List.getElem_mem _)
      have hfx : f.x = (ds[j]).raw := by rw [← hf]; exact HX.out j hlt hjf
      rw [hf] at hcj2
      have Hdr := Lib.hid (HD.out.right _ (List.getElem_mem hlt))
      have hfc := hfo.cap
      have Hf := Lib.hid (hfo.bs.below hbl)
      obtain ⟨d0, hd0⟩ : ∃ d0, ds[j] = d0 := ⟨_, rfl⟩
      have Htk := Lib.hid (show ds.take (j + 1) = ds.take j ++ [d0] by rw [List.take_succ_eq_append_getElem hlt, hd0])
      have hd4 : d0.p.length ≤ 4000 := by rw [← hd0]; exact (Dn.right_bd (HD.out.right _ (List.getElem_mem _))).2.2.1
      rw [hd0] at Hdr hfx
      have hfm : f.m = d0.raw.length := by rw [← hfx]; exact hfo.bs.len.symm
      have hraw : d0.raw.length ≤ 10000 := Dn.raw_le Hdr.out
      have hend : (tr (ds.take (j + 1))).length = (tr (ds.take j)).length + 10 + f.m := by rw [Htk.out, tr_snoc, List.length_append, framed_len, hfm]; omega
      have htle : (tr (ds.take j)).length ≤ 5000000 := by
        have e := congrArg List.length (tr_app (ds.take j) (ds.drop j))
        rw [List.take_append_drop, List.length_append] at e
        have := H.out.len
        rw [Hl.out, List.length_append] at this
        omega
      have hfm2 : f.m ≤ 10000 := by omega
      have Hend := Lib.hid hend
      clear hend hfm hraw
      have Hrow := Lib.hid hrow
      have Hbl := Lib.hid hbl
      subst hA
      unfold Fx.val at hcj
      rw [hf] at hcj
      have Hcj := Lib.hid hcj
      have Hlt2 := Lib.hid hlt2
      clear hc hcj hlt2 hrow hbl hfo hf hd0
      rw [hfx] at Hf
      clear hfx
      go_wp2_with fail
      refine (qopen_raw d0 f.A f.m f.d _ Hdr.out Hf.out hfc).mono ?_
      rintro e w2 ⟨⟨X, m, xc, rfl, hm, hown, hby⟩, hb2⟩
      have Hm := Lib.hid hm
      obtain ⟨xs, g1, g2, g3⟩ := (Hrow.out.below hb2).ex
      have HG2 := Lib.hid g2
      have HG3 := Lib.hid g3
      have Hown := Lib.hid hown
      have Hby := Lib.hid hby
      have HB2 := Lib.hid (Hbl.out.trans (hb2.mono Hbl.out.size))
      clear hcj2 hm hown hby g2 g3 hb2
      unfold dnV
      have HX2 := Lib.hid (show Dx.ok w2 ⟨d0, X, m, xc⟩ from ⟨own_bs Hown.out Hby.out (by show m ≤ _; rw [← Hm.out]; omega), U8.of_own Hown.out, Hown.out.cap⟩)
      have HR := Lib.hid (show Rd ((w2.alloc (Obj.cells #[.string d0.t, .int .i64 d0.who, .int .i64 d0.inc, .slice X m xc] 30)).alloc (Obj.cells #[.string d0.t, .int .i64 d0.who, .int .i64 d0.inc, .slice X m xc] 30)) 4 (some ⟨w2.heap.size + 1, 0, none⟩) 1 [.string d0.t, .int .i64 d0.who, .int .i64 d0.inc, .slice X m xc] from by
        have := Rd.lit (w2.alloc (Obj.cells #[.string d0.t, .int .i64 d0.who, .int .i64 d0.inc, .slice X m xc] 30)) #[.string d0.t, .int .i64 d0.who, .int .i64 d0.inc, .slice X m xc] 30 (0, 0) 4 1 rfl
        rw [World.size_alloc] at this
        exact this)
      have hsz2 : w1.heap.size ≤ w2.heap.size := HB2.out.size
      go_wp2_with (at_builtin; refine wpList_app rfl (.tmp 34) (.tmp 36) 35 rfl Tryz.underlying35 dnInfo rfl (by decide) rfl ((HG2.out.alloc _).alloc _) rfl HR.out (by simp [Value.oneCell']) (by omega) (by omega) (by simp; omega) rfl rfl ?_; intro Z zc w3 hx1 hg1 hx2; have hb3 := Lib.hid (show Below w1.heap.size w1 w3 from (bl_alloc (bl_alloc HB2.out)).grown hg1 (by simp; omega) (fun k hk => (HG2.out.blk k hk).1)); have hcj3 := (hb3.out.cell (p := ad.add j) (by rw [addr_block]; exact Hlt2.out)).trans Hcj.out; have hrow3 := DRow.app (o := Obj.cells #[.string d0.t, .int .i64 d0.who, .int .i64 d0.inc, .slice X m xc] 30) (HX2.out.below (bl_alloc (o := Obj.cells #[.string d0.t, .int .i64 d0.who, .int .i64 d0.inc, .slice X m xc] 30) (Below.refl _ _))) g1 (HG2.out.alloc _) (fun x hx => (HG3.out x hx).below (bl_alloc (Below.refl _ _))) hg1 hx1; have Hrow3 := Lib.hid hrow3; clear hrow3 hg1 hx1 hx2)
      refine ⟨⟨j + 1, Z, zc, by omega, by go_num, rfl, by rw [Hend.out]; first | rfl | (congr 1; omega), by rw [Htk.out]; exact Hrow3.out, hb3.out⟩, by simp [intOf]; omega⟩
    · have hjd : j = ds.length := by omega
      subst hjd
      rw [List.take_length] at hrow ⊢
      obtain ⟨ad, hA, hlt2, hc⟩ := HRD.out.at_ (by omega)
      have hcj := hc ds.length (fs[ds.length].val) (by rw [List.getElem?_map, List.getElem?_eq_getElem hfl]; rfl)
      have hcj2 := (hbl.cell (by rw [addr_block]; exact hlt2)).trans hcj
      unfold Fx.val at hcj2
      obtain ⟨f, hf⟩ : ∃ f, fs[ds.length] = f := ⟨_, rfl⟩
      have hfo := HOK.out f (by rw [← hf]; exact List.getElem_mem _)
      have hfc := hfo.cap
      have Hfx := Lib.hid (show openD f.x = none by rw [← hf, HX0.out]; exact Hx0.out)
      rw [hf] at hcj2
      have Hf := Lib.hid (hfo.bs.below hbl)
      have hli : (ds.length : Int) < (fs.length : Int) := by omega
      subst hA
      have Hrow := Lib.hid (hrow.more hsz)
      have Hbl := Lib.hid (HB.out.trans (hbl.mono HB.out.size))
      clear hc hcj hlt2 hrow hbl hfo hf
      go_wp2_with fail
      refine (qopen_none f.A f.m f.d f.x _ Hf.out hfc Hfx.out).mono ?_
      rintro e w2 ⟨rfl, hb2⟩
      have Hrow2 := Lib.hid (Hrow.out.below hb2)
      have HB2 := Lib.hid (Hbl.out.trans (hb2.mono Hbl.out.size))
      clear hcj2 hb2 Hrow Hbl
      go_wp2_with fail
      go_ret2
      exact ⟨⟨Y, yc, rfl, Hrow2.out.below (bl_alloc (Below.refl _ _))⟩, HB2.out.alloc HB2.out.size _⟩
theorem rtraceN_any (A : Option Addr) (n c : Nat) (l : List Int) (ds : List Dn) (r : List Int) (w : World) (h : Bs w A n l) (hc : n ≤ c) (hn : n ≤ 5000000) (hl : l = tr ds ++ r) (hd : Dns ds) (hr : NoD r) :
    Calls Tryz.prog 10 #[.slice A n c] w (TrRes w ds) := by
  rcases hr with hr | ⟨x, s, h1, h2⟩
  · exact rtrace_any A n c l ds r w h hc hn hl hd hr
  · exact rtrace2_any A n c l ds r w h hc hn hl hd h1 h2
end Go.Proofs.YtahdeighocmijaaGreat
