/- reco.Trace at bytes with a frame behind that is no commit. -/
import Derived.Test.YtahdeighocmijaaGreatTrace
import Derived.Test.YtahdeighocmijaaGreatSplitT
import Derived.Test.YtahdeighocmijaaGreatBegins
namespace Go.Proofs.YtahdeighocmijaaGreat
set_option linter.unusedSimpArgs false
set_option linter.unusedVariables false
open Go.RowKit
open Crc (Bytes)
open Cod (six held dig far numOf)
theorem fr_more {ds : List Dn} {r : List Int} {l : List (Nat × List Int)} {k s : Nat} {x : List Int} (hd : Dns ds) (hr : oneF r = some (x, s)) (h : Fr (tr ds ++ r) l k) (hn : oneF ((tr ds ++ r).drop k) = none) :
    ∃ l', Fr (tr ds ++ r) l' (tr ds).length ∧ l'.map Prod.snd = ds.map Dn.raw ∧ l.take (ds.length + 1) = l' ++ [((tr ds).length, x)] ∧ oneF ((tr ds ++ r).drop (tr ds).length) = some (x, s) := by
  obtain ⟨l', h1, h2⟩ := fr_tr r ds hd ds.length (Nat.le_refl _)
  rw [List.take_length] at h1 h2
  have hdr : oneF ((tr ds ++ r).drop (tr ds).length) = some (x, s) := by rw [List.drop_left]; exact hr
  have h3 := Fr.snoc h1 hdr
  have hl' : l'.length = ds.length := by have := congrArg List.length h2; simpa using this
  have hle : ds.length + 1 ≤ l.length := by
    rcases Nat.lt_or_ge l.length (ds.length + 1) with hlt | hge
    · exfalso
      obtain ⟨k', y, q, g1, g2⟩ := fr_take h3 l.length (by simp [hl']; exact hlt)
      obtain ⟨_, rfl⟩ := fr_same h g1 (by rw [List.length_take]; simp [hl']; omega)
      rw [hn] at g2; cases g2
    · exact hge
  refine ⟨l', h1, h2, ?_, hdr⟩
  by_cases he : l.length = ds.length + 1
  · rw [List.take_of_length_le (by omega)]
    exact (fr_same h h3 (by simp [hl', he])).1
  · obtain ⟨k', y, q, g1, g2⟩ := fr_take h (ds.length + 1) (by omega)
    exact (fr_same g1 h3 (by rw [List.length_take]; simp [hl']; omega)).1
set_option maxRecDepth 100000 in
set_option maxHeartbeats 4000000 in
theorem trace2_any (A : Option Addr) (n c : Nat) (l : List Int) (ds : List Dn) (r : List Int) (w : World) (h : Bs w A n l) (hn : n ≤ 5000000) (hl : l = tr ds ++ r) (hd : Dns ds) {x0 : List Int} {s0 : Nat} (hr : oneF r = some (x0, s0)) (hx0 : openD x0 = none) :
    Calls Tryz.prog 50 #[.slice A n c] w (TrRes w ds) := by
  have H := Lib.hid h
  have Hl := Lib.hid hl
  have HD := Lib.hid hd
  have Hr := Lib.hid hr
  have Hx0 := Lib.hid hx0
  clear h hl hd hr hx0
  go_enter Tryz.func50, Tryz.ntmps50
  go_wp2_with fail
  refine (scan_any A n c l _ H.out (by omega)).mono ?_
  rintro e w1 ⟨fs, k, O, rfl, hfr, hnone, hok, hrd, hbel⟩
  obtain ⟨l', f1, f2, f3, f4⟩ := fr_more (r := r) HD.out Hr.out (by rw [← Hl.out]; exact hfr) (by rw [← Hl.out]; exact hnone)
  have hl' : l'.length = ds.length := by have := congrArg List.length f2; simpa using this
  have hfl : ds.length < fs.length := by have := congrArg List.length f3; simp [hl'] at this; omega
  have HX := Lib.hid (show ∀ j (h : j < ds.length) (h2 : j < fs.length), (fs[j]).x = (ds[j]).raw from fun j h h2 => by
    have e1 := congrArg (fun q => q[j]?) f3
    simp only [List.getElem?_take, List.getElem?_map, List.getElem?_eq_getElem h2, if_pos (show j < ds.length + 1 by omega), List.getElem?_append_left (show j < l'.length by omega), List.getElem?_eq_getElem (show j < l'.length by omega), Option.map_some, Option.some.injEq] at e1
    have e2 := congrArg (fun q => q[j]?) f2
    simp only [List.getElem?_map, List.getElem?_eq_getElem h, List.getElem?_eq_getElem (show j < l'.length by omega), Option.map_some, Option.some.injEq] at e2
    rw [← e2, ← e1]; rfl)
  have HX0 := Lib.hid (show (fs[ds.length]).x = x0 from by
    have e1 := congrArg (fun q => q[ds.length]?) f3
    simp only [List.getElem?_take, List.getElem?_map, List.getElem?_eq_getElem hfl, if_pos (show ds.length < ds.length + 1 by omega), List.getElem?_append_right (show l'.length ≤ ds.length by omega), hl', Nat.sub_self, List.getElem?_cons_zero, Option.map_some, Option.some.injEq] at e1
    have := congrArg Prod.snd e1
    exact this)
  have HFR := Lib.hid (And.intro (Hl.out ▸ f1) (And.intro hl' (Hl.out ▸ f4)))
  have hlen := hfr.len
  have hln2 := f1.len
  rw [hl'] at hln2
  rw [List.length_map] at hlen
  have htl := H.out.len
  rw [Hl.out, List.length_append] at htl
  have HOK := Lib.hid hok
  have HRD := Lib.hid hrd
  have HB := Lib.hid hbel
  have hds5 : ds.length ≤ 500000 := by omega
  clear hfr hnone hok hrd hbel hlen htl hln2 f1 f2 f3 f4 hl'
  have hsz := HB.out.size
  go_wp2_with fail
  go_loopw [6, 18] (fun v i wr => ∃ (j : Nat) (Y : Option Addr) (yc : Nat), j ≤ ds.length ∧ i = .int .i64 j ∧ v = .slice Y j yc ∧ DRow wr w1.heap.size Y j yc (ds.take j) ∧ Below w1.heap.size w1 wr) (fun _ i _ => ds.length - (intOf i).toNat)
  case atStart => exact ⟨0, none, 0, Nat.zero_le _, rfl, rfl, DRow.nil _ _, Below.refl _ _⟩
  case round =>
    obtain ⟨j, Y, yc, hj, rfl, rfl, hrow, hbl⟩ := hrel
    by_cases hlt : j < ds.length
    · have hjf : j < fs.length := by omega
      obtain ⟨ad, hA, hlt2, hc⟩ := HRD.out.at_ (by omega)
      have hcj := hc j (fs[j].val) (by rw [List.getElem?_map, List.getElem?_eq_getElem hjf]; rfl)
      have hcj2 := (hbl.cell (by rw [addr_block]; exact hlt2)).trans hcj
      unfold Fx.val at hcj2
      obtain ⟨f, hf⟩ : ∃ f, fs[j] = f := ⟨_, rfl⟩
      have hfo := HOK.out f (by rw [← hf]; exact List.getElem_mem _)
      have hfx : f.x = (ds[j]).raw := by rw [← hf]; exact HX.out j hlt hjf
      rw [hf] at hcj2
      have Hop := Lib.hid (show openD f.x = some ds[j] by rw [hfx]; exact openD_raw (HD.out.right _ (List.getElem_mem _)))
      have Hf := Lib.hid (hfo.bs.below hbl)
      obtain ⟨d0, hd0⟩ : ∃ d0, ds[j] = d0 := ⟨_, rfl⟩
      have Htk := Lib.hid (show ds.take (j + 1) = ds.take j ++ [d0] by rw [List.take_succ_eq_append_getElem hlt, hd0])
      have hd4 : d0.p.length ≤ 4000 := by rw [← hd0]; exact (Dn.right_bd (HD.out.right _ (List.getElem_mem _))).2.2.1
      rw [hd0] at Hop
      have Hrow := Lib.hid hrow
      have Hbl := Lib.hid hbl
      subst hA
      clear hc hcj hlt2 hrow hbl hfo hfx hf hd0
      go_wp2_with fail
      refine (openDone_any f.A f.m f.d f.x _ Hf.out).mono ?_
      rintro e w2 ⟨⟨hno, rfl⟩ | ⟨d, X, m, xc, ho, rfl, hm, hown, hby⟩, hb2⟩
      · rw [Hop.out] at hno; cases hno
      rw [Hop.out] at ho
      obtain rfl : d0 = d := by injection ho
      clear ho
      have Hm := Lib.hid hm
      obtain ⟨xs, g1, g2, g3⟩ := (Hrow.out.below hb2).ex
      have HG2 := Lib.hid g2
      have HG3 := Lib.hid g3
      have Hown := Lib.hid hown
      have Hby := Lib.hid hby
      have HB2 := Lib.hid (Hbl.out.trans (hb2.mono Hbl.out.size))
      clear hcj2 hm hown hby g2 g3 hb2
      unfold dnV
      have HX2 := Lib.hid (show Dx.ok w2 ⟨d0, X, m, xc⟩ from ⟨own_bs Hown.out Hby.out (by show m ≤ _; rw [← Hm.out]; omega), U8.of_own Hown.out, Hown.out.cap⟩)
      have HR := Lib.hid (show Rd ((w2.alloc (Obj.cells #[.string d0.t, .int .i64 d0.who, .int .i64 d0.inc, .slice X m xc] 30)).alloc (Obj.cells #[.string d0.t, .int .i64 d0.who, .int .i64 d0.inc, .slice X m xc] 30)) 4 (some ⟨w2.heap.size + 1, 0, none⟩) 1 [.string d0.t, .int .i64 d0.who, .int .i64 d0.inc, .slice X m xc] from by
        have := Rd.lit (w2.alloc (Obj.cells #[.string d0.t, .int .i64 d0.who, .int .i64 d0.inc, .slice X m xc] 30)) #[.string d0.t, .int .i64 d0.who, .int .i64 d0.inc, .slice X m xc] 30 (0, 0) 4 1 rfl
        rw [World.size_alloc] at this
        exact this)
      have hsz2 : w1.heap.size ≤ w2.heap.size := HB2.out.size
      go_wp2_with (at_builtin; refine wpList_app rfl (.tmp 34) (.tmp 36) 35 rfl Tryz.underlying35 dnInfo rfl (by decide) rfl ((HG2.out.alloc _).alloc _) rfl HR.out (by simp [Value.oneCell']) (by omega) (by omega) (by simp; omega) rfl rfl ?_; intro Z zc w3 hx1 hg1 hx2)
      have hrow3 := DRow.app (o := Obj.cells #[.string d0.t, .int .i64 d0.who, .int .i64 d0.inc, .slice X m xc] 30) (HX2.out.below (bl_alloc (o := Obj.cells #[.string d0.t, .int .i64 d0.who, .int .i64 d0.inc, .slice X m xc] 30) (Below.refl _ _))) g1 (HG2.out.alloc _) (fun x hx => (HG3.out x hx).below (bl_alloc (Below.refl _ _))) hg1 hx1
      refine ⟨⟨j + 1, Z, zc, by omega, by go_num, rfl, by rw [Htk.out]; exact hrow3, ?_⟩, by simp [intOf]; omega⟩
      exact (bl_alloc (bl_alloc HB2.out)).grown hg1 (by simp; omega) (fun k hk => (HG2.out.blk k hk).1)
    · have hjd : j = ds.length := by omega
      subst hjd
      rw [List.take_length] at hrow
      obtain ⟨ad, hA, hlt2, hc⟩ := HRD.out.at_ (by omega)
      have hcj := hc ds.length (fs[ds.length].val) (by rw [List.getElem?_map, List.getElem?_eq_getElem hfl]; rfl)
      have hcj2 := (hbl.cell (by rw [addr_block]; exact hlt2)).trans hcj
      unfold Fx.val at hcj2
      obtain ⟨f, hf⟩ : ∃ f, fs[ds.length] = f := ⟨_, rfl⟩
      have hfo := HOK.out f (by rw [← hf]; exact List.getElem_mem _)
      have Hfx := Lib.hid (show openD f.x = none by rw [← hf, HX0.out]; exact Hx0.out)
      rw [hf] at hcj2
      have Hf := Lib.hid (hfo.bs.below hbl)
      have hli : (ds.length : Int) < (fs.length : Int) := by omega
      subst hA
      have Hrow := Lib.hid hrow
      have Hbl := Lib.hid hbl
      clear hc hcj hlt2 hrow hbl hfo hf
      go_wp2_with fail
      refine (openDone_any f.A f.m f.d f.x _ Hf.out).mono ?_
      rintro e w2 ⟨⟨hno, rfl⟩ | ⟨d, X, m, xc, ho, rfl, hm, hown, hby⟩, hb2⟩
      rotate_left
      · rw [Hfx.out] at ho; cases ho
      have HB2 := Lib.hid (Hbl.out.trans (hb2.mono Hbl.out.size))
      have Hrow2 := Lib.hid (Hrow.out.below hb2)
      clear hcj2 hb2 hno
      have HBW := Lib.hid (HB.out.trans (HB2.out.mono HB.out.size))
      have HHW := Lib.hid (H.out.below HBW.out)
      go_wp2_with fail
      refine (begins_any A n c l ds.length _ (HHW.out.alloc _) (by omega) HFR.out.1 HFR.out.2.1 HFR.out.2.2).mono ?_
      rintro e w3 ⟨rfl, hb3⟩
      have Hrow3 := Lib.hid (((Hrow2.out.below (bl_alloc (Below.refl _ _))).below hb3).more hsz)
      have HB3 := Lib.hid ((HBW.out.alloc HBW.out.size _).trans (hb3.mono (by have := HBW.out.size; simp; omega)))
      clear hb3 Hrow2 HB2 HBW HHW
      go_wp2_with fail
      go_ret2
      exact ⟨⟨Y, yc, rfl, Hrow3.out⟩, HB3.out⟩
theorem traceN_any (A : Option Addr) (n c : Nat) (l : List Int) (ds : List Dn) (r : List Int) (w : World) (h : Bs w A n l) (hn : n ≤ 5000000) (hl : l = tr ds ++ r) (hd : Dns ds) (hr : NoD r) :
    Calls Tryz.prog 50 #[.slice A n c] w (TrRes w ds) := by
  rcases hr with hr | ⟨x, s, h1, h2⟩
  · exact trace_any A n c l ds r w h hn hl hd hr
  · exact trace2_any A n c l ds r w h hn hl hd h1 h2
end Go.Proofs.YtahdeighocmijaaGreat
