/- Traces: rows of commits in memory; reco.Trace. -/
import Derived.Test.YtahdeighocmijaaGreatTrM
namespace Go.Proofs.YtahdeighocmijaaGreat
set_option linter.unusedSimpArgs false
set_option linter.unusedVariables false
open Go.RowKit
open Crc (Bytes)
open Cod (six held dig far numOf)

/-- A commit in a row: where its print lies. -/
structure Dx where
  d : Dn
  A : Option Addr
  m : Nat
  c : Nat
def Dx.cells (x : Dx) : List Value := [.string x.d.t, .int .i64 x.d.who, .int .i64 x.d.inc, .slice x.A x.m x.c]
structure Dx.ok (W : World) (x : Dx) : Prop where
  bs : Bs W x.A x.m x.d.p
  u8 : Go.Proofs.YtahdeighocmijaaGreat.U8 W x.A x.m
  cap : x.m ≤ x.c
theorem Dx.ok.keep {W W' : World} {x : Dx} (h : x.ok W) (hs : W.heap.size ≤ W'.heap.size) (hk : ∀ ad, x.A = some ad → 0 < x.m → W'.heap[ad.block]? = W.heap[ad.block]?) : x.ok W' :=
  ⟨⟨h.bs.rd.keep hs hk, h.bs.by_, h.bs.le⟩, h.u8.keep hk, h.cap⟩
theorem Dx.ok.below {W W' : World} {x : Dx} (h : x.ok W) (hb : Below W.heap.size W W') : x.ok W' := ⟨h.bs.below hb, h.u8.below hb, h.cap⟩
theorem Dx.ok.grown {W W' : World} {x : Dx} {row : Option Nat} (h : x.ok W) (hg : W.grownBy W' row) (hr : ∀ k, row = some k → ∃ t cs fr, W.heap[k]? = some (Obj.cells cs t fr) ∧ t ≠ 5) : x.ok W' :=
  h.keep hg.size (h.u8.grown hg hr)
def flat (xs : List Dx) : List Value := (xs.map Dx.cells).flatten
theorem flat_snoc (xs : List Dx) (x : Dx) : flat (xs ++ [x]) = flat xs ++ x.cells := by simp [flat]
theorem flat_len (xs : List Dx) : (flat xs).length = xs.length * 4 := by
  induction xs with
  | nil => rfl
  | cons x xs ih => unfold flat at *; simp only [List.map_cons, List.flatten_cons, List.length_append, ih, List.length_cons]; simp [Dx.cells]; omega
/-- A row of commits that is the call's own. -/
structure DRow (W : World) (base : Nat) (A : Option Addr) (n c : Nat) (ds : List Dn) : Prop where
  ex : ∃ xs : List Dx, xs.map Dx.d = ds ∧ Own W base 30 4 A n c (flat xs) ∧ ∀ x ∈ xs, x.ok W
theorem DRow.below {W W' : World} {base : Nat} {A : Option Addr} {n c : Nat} {ds : List Dn} (h : DRow W base A n c ds) (hb : Below W.heap.size W W') : DRow W' base A n c ds := by
  obtain ⟨xs, h1, h2, h3⟩ := h.ex
  exact ⟨xs, h1, h2.below hb, fun x hx => (h3 x hx).below hb⟩
theorem DRow.more {W : World} {base b2 : Nat} {A : Option Addr} {n c : Nat} {ds : List Dn} (h : DRow W base A n c ds) (hb : b2 ≤ base) : DRow W b2 A n c ds := by
  obtain ⟨xs, h1, h2, h3⟩ := h.ex
  exact ⟨xs, h1, h2.more hb, h3⟩
theorem DRow.nil (W : World) (base : Nat) : DRow W base none 0 0 [] := ⟨[], rfl, Own.nil _ _ _ _, fun x h => by cases h⟩
theorem DRow.len {W : World} {base : Nat} {A : Option Addr} {n c : Nat} {ds : List Dn} (h : DRow W base A n c ds) : ds.length = n := by
  obtain ⟨xs, rfl, h2, h3⟩ := h.ex
  have := h2.rd.len
  rw [flat_len] at this
  rw [List.length_map]; omega
theorem dnInfo : (Tryz.prog.info? 30).map (fun i => (i.zero, i.size, i.bytes)) = some (some (.agg #[.string ⟨#[]⟩, .int .i64 0, .int .i64 0, .slice none 0 0]), 4, 56) := by kernel_rfl
/-- One more commit. -/
theorem DRow.app {W w2 : World} {base : Nat} {A Y : Option Addr} {n c yc : Nat} {ds : List Dn} {xs : List Dx} {x : Dx} {o : Obj} (hx : x.ok W) (h1 : xs.map Dx.d = ds) (h2 : Own W base 30 4 A n c (flat xs)) (h3 : ∀ x ∈ xs, x.ok W) (hg : (W.alloc o).grownBy w2 (ob A)) (hown : Own w2 base 30 4 Y (n + 1) yc (flat xs ++ x.cells)) : DRow w2 base Y (n + 1) yc (ds ++ [x.d]) := by
  have hr : ∀ k, ob A = some k → ∃ t cs fr, (W.alloc o).heap[k]? = some (Obj.cells cs t fr) ∧ t ≠ 5 := fun k hk => by
    obtain ⟨cs, fr, e⟩ := own_at (h2.alloc o) hk
    exact ⟨_, cs, fr, e, by decide⟩
  have hb : Below W.heap.size W (W.alloc o) := bl_alloc (Below.refl _ _)
  refine ⟨xs ++ [x], by simp [h1], by rw [flat_snoc]; exact hown, fun y hy => ?_⟩
  rcases List.mem_append.1 hy with h4 | h4
  · exact ((h3 y h4).below hb).grown hg hr
  · simp at h4; subst h4; exact (hx.below hb).grown hg hr
structure TrRes (w : World) (ds : List Dn) (e : Ending) (w' : World) : Prop where
  ex : ∃ Y yc, e = .returned (.tuple #[.slice Y ds.length yc, .int .i64 ((tr ds).length : Nat)]) ∧ DRow w' w.heap.size Y ds.length yc ds
  bel : Below w.heap.size w w'
set_option maxRecDepth 100000 in
set_option maxHeartbeats 4000000 in
theorem trace_any (A : Option Addr) (n c : Nat) (l : List Int) (ds : List Dn) (r : List Int) (w : World) (h : Bs w A n l) (hn : n ≤ 5000000) (hl : l = tr ds ++ r) (hd : Dns ds) (hr : oneF r = none) :
    Calls Tryz.prog 50 #[.slice A n c] w (TrRes w ds) := by
  have H := Lib.hid h
  have Hl := Lib.hid hl
  have HD := Lib.hid hd
  have Hr := Lib.hid hr
  clear h hl hd hr
  go_enter Tryz.func50, Tryz.ntmps50
  go_wp2_with fail
  refine (scan_any A n c l _ H.out (by omega)).mono ?_
  rintro e w1 ⟨fs, k, O, rfl, hfr, hnone, hok, hrd, hbel⟩
  have hfe := fr_of (r := r) HD.out Hr.out (by rw [← Hl.out]; exact hfr) (by rw [← Hl.out]; exact hnone)
  have hfl : fs.length = ds.length := by have := congrArg List.length hfe.1; simpa using this
  have HX := Lib.hid (show fs.map Fx.x = ds.map Dn.raw by have := hfe.1; rw [List.map_map] at this; exact this)
  have hkl := hfe.2
  have hlen := hfr.len
  rw [List.length_map] at hlen
  have htl := H.out.len
  rw [Hl.out, List.length_append] at htl
  have HOK := Lib.hid hok
  have HRD := Lib.hid hrd
  have HB := Lib.hid hbel
  have hds5 : ds.length ≤ 500000 := by omega
  subst hkl
  clear hfr hnone hok hrd hbel hfe hlen htl
  rw [hfl] at HRD ⊢
  have hsz := HB.out.size
  go_wp2_with fail
  go_loopw [6, 18] (fun v i wr => ∃ (j : Nat) (Y : Option Addr) (yc : Nat), j ≤ ds.length ∧ i = .int .i64 j ∧ v = .slice Y j yc ∧ DRow wr w1.heap.size Y j yc (ds.take j) ∧ Below w1.heap.size w1 wr) (fun _ i _ => ds.length - (intOf i).toNat)
  case atStart => exact ⟨0, none, 0, Nat.zero_le _, rfl, rfl, DRow.nil _ _, Below.refl _ _⟩
  case round =>
    obtain ⟨j, Y, yc, hj, rfl, rfl, hrow, hbl⟩ := hrel
    by_cases hlt : j < ds.length
    · have hjf : j < fs.length := by omega
      obtain ⟨ad, hA, hlt2, hc⟩ := HRD.out.at_ (by omega)
      have hcj := hc j (fs[j].val) (by rw [List.getElem?_map, List.getElem?_eq_getElem hjf]; rfl)
      have hcj2 := (hbl.cell (by rw [addr_block]; exact hlt2)).trans hcj
      unfold Fx.val at hcj2
      obtain ⟨f, hf⟩ : ∃ f, fs[j] = f := ⟨_, rfl⟩
      have hfo := HOK.out f (by rw [← hf]; exact List.getElem_mem _)
      have hfx : f.x = (ds[j]).raw := by
        have := congrArg (fun l => l[j]?) HX.out
        simp only [List.getElem?_map, List.getElem?_eq_getElem hjf, List.getElem?_eq_getElem hlt, Option.map_some, Option.some.injEq, hf] at this
        exact this
      rw [hf] at hcj2
      have Hop := Lib.hid (show openD f.x = some ds[j] by rw [hfx]; exact openD_raw (HD.out.right _ (List.getElem_mem _)))
      have Hf := Lib.hid (hfo.bs.below hbl)
      obtain ⟨d0, hd0⟩ : ∃ d0, ds[j] = d0 := ⟨_, rfl⟩
      have Htk := Lib.hid (show ds.take (j + 1) = ds.take j ++ [d0] by rw [List.take_succ_eq_append_getElem hlt, hd0])
      have hd4 : d0.p.length ≤ 4000 := by rw [← hd0]; exact (Dn.right_bd (HD.out.right _ (List.getElem_mem _))).2.2.1
      rw [hd0] at Hop
      have Hrow := Lib.hid hrow
      have Hbl := Lib.hid hbl
      subst hA
      clear hc hcj hlt2 hrow hbl hfo hfx hf hd0
      go_wp2_with fail
      refine (openDone_any f.A f.m f.d f.x _ Hf.out).mono ?_
      rintro e w2 ⟨⟨hno, rfl⟩ | ⟨d, X, m, xc, ho, rfl, hm, hown, hby⟩, hb2⟩
      · rw [Hop.out] at hno; cases hno
      rw [Hop.out] at ho
      obtain rfl : d0 = d := by injection ho
      clear ho
      have Hm := Lib.hid hm
      obtain ⟨xs, g1, g2, g3⟩ := (Hrow.out.below hb2).ex
      have HG2 := Lib.hid g2
      have HG3 := Lib.hid g3
      have Hown := Lib.hid hown
      have Hby := Lib.hid hby
      have HB2 := Lib.hid (Hbl.out.trans (hb2.mono Hbl.out.size))
      clear hcj2 hm hown hby g2 g3 hb2
      unfold dnV
      have HX2 := Lib.hid (show Dx.ok w2 ⟨d0, X, m, xc⟩ from ⟨own_bs Hown.out Hby.out (by show m ≤ _; rw [← Hm.out]; omega), U8.of_own Hown.out, Hown.out.cap⟩)
      have HR := Lib.hid (show Rd ((w2.alloc (Obj.cells #[.string d0.t, .int .i64 d0.who, .int .i64 d0.inc, .slice X m xc] 30)).alloc (Obj.cells #[.string d0.t, .int .i64 d0.who, .int .i64 d0.inc, .slice X m xc] 30)) 4 (some ⟨w2.heap.size + 1, 0, none⟩) 1 [.string d0.t, .int .i64 d0.who, .int .i64 d0.inc, .slice X m xc] from by
        have := Rd.lit (w2.alloc (Obj.cells #[.string d0.t, .int .i64 d0.who, .int .i64 d0.inc, .slice X m xc] 30)) #[.string d0.t, .int .i64 d0.who, .int .i64 d0.inc, .slice X m xc] 30 (0, 0) 4 1 rfl
        rw [World.size_alloc] at this
        exact this)
      have hsz2 : w1.heap.size ≤ w2.heap.size := HB2.out.size
      go_wp2_with (at_builtin; refine wpList_app rfl (.tmp 34) (.tmp 36) 35 rfl Tryz.underlying35 dnInfo rfl (by decide) rfl ((HG2.out.alloc _).alloc _) rfl HR.out (by simp [Value.oneCell']) (by omega) (by omega) (by simp; omega) rfl rfl ?_; intro Z zc w3 hx1 hg1 hx2)
      have hrow3 := DRow.app (o := Obj.cells #[.string d0.t, .int .i64 d0.who, .int .i64 d0.inc, .slice X m xc] 30) (HX2.out.below (bl_alloc (o := Obj.cells #[.string d0.t, .int .i64 d0.who, .int .i64 d0.inc, .slice X m xc] 30) (Below.refl _ _))) g1 (HG2.out.alloc _) (fun x hx => (HG3.out x hx).below (bl_alloc (Below.refl _ _))) hg1 hx1
      refine ⟨⟨j + 1, Z, zc, by omega, by go_num, rfl, by rw [Htk.out]; exact hrow3, ?_⟩, by simp [intOf]; omega⟩
      exact (bl_alloc (bl_alloc HB2.out)).grown hg1 (by simp; omega) (fun k hk => (HG2.out.blk k hk).1)
    · have hjd : j = ds.length := by omega
      subst hjd
      rw [List.take_length] at hrow
      have Hrow := Lib.hid (hrow.more hsz)
      have Hbl := Lib.hid (HB.out.trans (hbl.mono HB.out.size))
      clear hrow hbl
      go_wp2_with fail
      go_ret2
      exact ⟨⟨Y, yc, rfl, Hrow.out⟩, Hbl.out⟩
end Go.Proofs.YtahdeighocmijaaGreat
