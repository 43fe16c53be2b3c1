/- Frames: Scan. -/
import Derived.Test.YtahdeighocmijaaGreatRounds
namespace Go.Proofs.YtahdeighocmijaaGreat
set_option linter.unusedSimpArgs false
set_option linter.unusedVariables false
open Go.RowKit Go.Shelf
open Crc (Bytes)

attribute [local go_sem] Oper.semAt_some

set_option maxRecDepth 100000 in
set_option maxHeartbeats 1000000 in
theorem all_any (A : Option Addr) (n c : Nat) (l : List Int) (w : World) (h : Bs w A n l) :
    Calls Tryz.prog 79 #[.slice A n c] w fun e w' => ∃ g X xc, e = .returned (.func (.func 101) #[] #[.pointer (some ⟨g, 0, none⟩)]) ∧ w'.cell? ⟨g, 0, none⟩ = some (.slice X n xc) ∧ n ≤ xc ∧ Bs w' X n l ∧ U8 w' X n ∧ w.heap.size ≤ g ∧ Below w.heap.size w w' := by
  have H := Lib.hid h
  have hl := h.len
  have hle := h.le
  clear h
  go_enter Tryz.func79, Tryz.ntmps79
  go_wp2_with fail
  refine (clone_any A n c l _ (H.out.alloc _)).mono ?_
  rintro e w2 ⟨X, m, xc, rfl, hm, hown, hnone, hbel⟩
  have hmn : n = m := hl.symm.trans hm.out
  subst hmn
  have hblk := (Blk.new w 23 [.slice A n c]).below hbel
  have HBk := Lib.hid hblk
  have hc0 : w2.cell? ⟨w.heap.size, 0, none⟩ = some (.slice A n c) := hblk.cell 0
  have hz0 := hblk.frozen 0
  have HX := Lib.hid hown
  have hap := Lib.hid (own_ne hown (show w.heap.size < (w.alloc (Obj.cells #[.slice A n c] 23)).heap.size by simp))
  have Hb := Lib.hid ((bl_alloc (o := Obj.cells #[.slice A n c] 23) (Below.refl w.heap.size w)).trans (hbel.mono (by simp)))
  clear hblk hown hbel
  go_wp2_with fail
  go_ret
  refine ⟨w.heap.size, X, xc, rfl, ?_, HX.out.cap, ?_, ?_, Nat.le_refl _, Hb.out.setCell (p := ⟨w.heap.size, 0, none⟩) (Nat.le_refl _) _⟩
  · exact World.cell?_setCell_same' _ _ _ (by rw [hc0]; rfl)
  · have hb := own_bs HX.out H.out.by_ (by omega)
    exact ⟨hb.rd.setCell hap.out _, hb.by_, hb.le⟩
  · exact (U8.of_own HX.out).keep fun ad hA h0 => Below.heap_setCell _ _ _ _ (hap.out ad hA h0)
def Fx.val (f : Fx) : Value := .slice f.A f.m f.d
/-- Where the frames that were met end. -/
def endOf (fs : List Fx) : Int := match fs.getLast? with | none => 0 | some f => (f.pos : Int) + 6 + (f.m : Int) + 4
theorem endOf_snoc (fs : List Fx) (f : Fx) : endOf (fs ++ [f]) = (f.pos : Int) + 6 + (f.m : Int) + 4 := by unfold endOf; simp
structure ScanJ (w0 W : World) (bo be base : Nat) (fs : List Fx) : Prop where
  out : ∃ O c, Blk W bo 66 [.slice O fs.length c] ∧ Own W base 23 1 O fs.length c (fs.map Fx.val)
  en : Blk W be 3 [.int .i64 (endOf fs)]
  bel : Below w0.heap.size w0 W
  lt : base ≤ W.heap.size
theorem ScanJ.below {w0 W W' : World} {bo be base : Nat} {fs : List Fx} (h : ScanJ w0 W bo be base fs) (hb : Below W.heap.size W W') : ScanJ w0 W' bo be base fs := by
  obtain ⟨O, c, h1, h2⟩ := h.out
  exact ⟨⟨O, c, h1.below hb, h2.below hb⟩, h.en.below hb, h.bel.trans (hb.mono h.bel.size), by have := h.lt; have := hb.size; omega⟩
theorem cells_ne {W : World} {k r : Nat} {o : Obj} {cs : Array Value} {e : TypeId} {fr : Nat × Nat} (hk : W.heap[k]? = some (Obj.cells cs e fr)) (hr : W.heap[r]? = some o) (hc : o.isCells = false) : k ≠ r := by
  rintro rfl
  rw [hk] at hr
  cases hr
  cases hc
theorem below_putObj {B : Nat} {w W : World} (h : Below B w W) (r : Nat) (o : Obj) (hr : B ≤ r) : Below B w (W.putObj r o) :=
  ⟨h.os, h.tape, h.output, by rw [World.putObj_size]; exact h.size, fun i hi => (World.putObj_heap_other (by omega)).trans (h.block i hi)⟩
theorem Fx.ok.putObj {W : World} {f : Fx} {r : Nat} {o : Obj} (o' : Obj) (h : f.ok W) (hr : W.heap[r]? = some o) (hc : o.isCells = false) : f.ok (W.putObj r o') := by
  have hk : ∀ ad, f.A = some ad → 0 < f.m → (W.putObj r o').heap[ad.block]? = W.heap[ad.block]? := fun ad hA h0 => by
    obtain ⟨cs, fr, e⟩ := h.u8 ad hA h0
    exact World.putObj_heap_other (cells_ne e hr hc)
  exact ⟨⟨h.bs.rd.keep (by rw [World.putObj_size]; exact Nat.le_refl _) hk, h.bs.by_, h.bs.le⟩, h.u8.keep hk, h.cap, h.pos_⟩
theorem ScanJ.putObj {w0 W : World} {bo be base r : Nat} {fs : List Fx} {o : Obj} (o' : Obj) (h : ScanJ w0 W bo be base fs) (hr : W.heap[r]? = some o) (hc : o.isCells = false) (hb : w0.heap.size ≤ r) : ScanJ w0 (W.putObj r o') bo be base fs := by
  obtain ⟨O, c, h1, h2⟩ := h.out
  refine ⟨⟨O, c, h1.keep (World.putObj_heap_other (cells_ne h1.at_ hr hc)), h2.keep fun g hg => ?_⟩, h.en.keep (World.putObj_heap_other (cells_ne h.en.at_ hr hc)), below_putObj h.bel r o' hb, by rw [World.putObj_size]; exact h.lt⟩
  rcases h2.row.2 with ⟨hv, _⟩ | ⟨g', cap, cur, hv, _, hh, _⟩
  · have : O = none := by injection hv
    rw [this] at hg; cases hg
  · have hO : O = some ⟨g', 0, none⟩ := by injection hv
    rw [hO] at hg
    simp only [ob, Option.some.injEq] at hg
    subst hg
    exact World.putObj_heap_other (cells_ne hh hr hc)
theorem wpListIn_app {F : Fence} {nF : Nat} {P : Program} {w : World} {base : Nat} {e : TypeId} {size n c : Nat} {A : Option Addr} {xs : List Value} {ops : Array Oper} {rest : List Oper} {o : Oper} {a : Act} {Q : Exit → Act → World → Prop} (hgd : o.guard = none) (s x : Operand) (t : TypeId)
    (ho : o.op = .call { callee := .builtin .append, args := #[s, x], argTypes := #[t, t] })
    {z : Value} {bytes : Nat} (ht : P.underlying t = some (.slice e)) (hinfo : (P.info? e).map (fun i => (i.zero, i.size, i.bytes)) = some (some z, size, bytes))
    (hzs : z.cells.size = size) (hsz : 0 < size) (hs : a.eval s = .slice A n c) (hown : Own w base e size A n c xs)
    {B : Option Addr} {m d : Nat} {news : List Value} (hx : a.eval x = .slice B m d) (hr : Rd w size B m news) (h1 : ∀ u ∈ news, u.oneCell' = true)
    (h63 : n + m ≤ 140737488355328) (hbytes : (n + m) * bytes ≤ 140737488355328) (hbase : base ≤ w.heap.size)
    {N : Nat} {zs : List Value} (hN : n + m = N) (hzz : xs ++ news = zs)
    (h : ∀ A' c' w', Own w' base e size A' N c' zs → w.grownBy w' (ob A) → (ob A' = ob A ∨ ob A' = some w.heap.size) → wpListIn F nF P ops Q rest (a.put o.dst (.slice A' N c')) w') : wpListIn F nF P ops Q (o :: rest) a w := by
  subst hN hzz
  refine wpListIn_plain hgd fun K hK => ?_
  obtain ⟨A', c', w', hrun, h2, h3, h4⟩ := app_run (ty := o.type) ht hinfo hzs hsz hown (d := d) hr h1 h63 hbytes hbase
  unfold Oper.wpIn
  refine ⟨by simp [Oper.about, ho, resolve, Target.leads, Sem.run_pure], ?_⟩
  rw [Oper.semAt_plain F _ _ (by rw [ho]; intro c hc'; cases hc')]
  simp [execOp, ho, resolve, invoke, builtin, hs, hx, hrun, Result.andThen]
  exact hK _ _ (h A' c' w' h2 h3 h4)
theorem blk_app {W w3 : World} {bo base n c : Nat} {t e : TypeId} {cs xs : List Value} {O : Option Addr} {o : Obj} (h : Blk W bo t cs) (ho : Own W base e 1 O n c xs) (hb : bo < base) (hg : (W.alloc o).grownBy w3 (ob O)) : Blk w3 bo t cs :=
  (h.alloc o).keep (hg.block bo (h.alloc o).lt (fun e => by have := (ho.blk bo e.symm).1; omega))
theorem keepU_only {W W' : World} {g : Nat} {bs : List Nat} (h : Only bs W W') (hg : g < W.heap.size) (hgb : g ∉ bs) (hu : ∀ b ∈ bs, ∀ cs fr, W.heap[b]? ≠ some (Obj.cells cs 5 fr)) : KeepU g W W' :=
  ⟨h.size, fun k cs fr hk => h.block k (Array.getElem?_eq_some_iff.1 hk).1 (fun hin => hu k hin cs fr hk), h.block g hg hgb⟩
theorem slInfo : (Tryz.prog.info? 23).map (fun i => (i.zero, i.size, i.bytes)) = some (some (.slice none 0 0), 1, 24) := by kernel_rfl
theorem clipr_any (A : Option Addr) (n c : Nat) (w : World) (h : n ≤ c) : Calls Tryz.prog 80 #[.slice A n c] w fun e w' => e = .returned (.slice A n n) ∧ w = w' := by
  go_enter Tryz.func80, Tryz.ntmps80
  go_wp2_with fail
  go_ret
  exact ⟨rfl, rfl⟩
theorem endOf_fr {b : List Int} {W : World} {fs : List Fx} {k : Nat} (h : Fr b (fs.map Fx.pair) k) (hok : ∀ f ∈ fs, f.ok W) : endOf fs = k := by
  generalize hl : fs.map Fx.pair = l at h
  cases h with
  | nil =>
    have : fs = [] := List.map_eq_nil_iff.1 hl
    subst this; rfl
  | snoc h h1 =>
    rename_i l' k' s x
    obtain ⟨fs', f', e, h2, h3⟩ := List.map_eq_append_iff.1 hl
    obtain ⟨f, t, e2, h4, h5⟩ := List.map_eq_cons_iff.1 h3
    have ht : t = [] := List.map_eq_nil_iff.1 h5
    subst ht e2 e
    rw [endOf_snoc]
    have hs := (oneF_len h1).1
    have hm := (hok f (by simp)).bs.len
    unfold Fx.pair at h4
    injection h4 with h6 h7
    rw [h6, ← hm, h7]
    omega
/-- What Scan answers. -/
structure ScanRes (w : World) (l : List Int) (e : Ending) (w' : World) : Prop where
  ex : ∃ (fs : List Fx) (k : Nat) (O : Option Addr), e = .returned (.tuple #[.slice O fs.length fs.length, .int .i64 k]) ∧ Fr l (fs.map Fx.pair) k ∧ oneF (l.drop k) = none ∧ (∀ f ∈ fs, f.ok w') ∧ Rd w' 1 O fs.length (fs.map Fx.val) ∧ Below w.heap.size w w'
set_option maxRecDepth 100000 in
set_option maxHeartbeats 4000000 in
theorem scan_any (A : Option Addr) (n c : Nat) (l : List Int) (w : World) (h : Bs w A n l) (hn5 : n ≤ 5000000000000) :
    Calls Tryz.prog 66 #[.slice A n c] w (ScanRes w l) := by
  have H := Lib.hid h
  clear h
  refine (callsIn_wide (n := 6)).1 ?_
  refine callsIn_of_wp_marks Tryz.func66 rfl trivial ?_ rfl
  simp only [Tryz.ntmps66, List.size_toArray, List.length_cons, List.length_nil, Nat.reduceAdd, Nat.reduceSub, Array.replicate_succ, Array.replicate_zero, List.push_toArray, List.append_toArray, List.nil_append, List.cons_append]
  gi_wp2_with (refine ⟨trivial, ?_⟩; gi_at_call 79; refine (callsIn_wide.2 (all_any A n c l _ ((H.out.alloc _).alloc _))).mono ?_; rintro e w2 ⟨g, X, xc, rfl, hc0, hxc, hbx, hux, hg, hb2⟩)
  have hgl : g < w2.heap.size := World.block_lt_of_cell? w2 ⟨g, 0, none⟩ hc0
  obtain ⟨bo, hbo⟩ : ∃ y, y = w.heap.size := ⟨_, rfl⟩
  have hj0 : ScanJ w w2 bo (bo + 1) w2.heap.size [] := by
    subst hbo
    refine ⟨⟨none, 0, (((Blk.new w 66 [.slice none 0 0]).alloc _).below hb2), Own.nil _ _ _ _⟩, (blk_new (cs := [.int .i64 0]) (by simp)).below hb2, (((Below.refl _ w).alloc (Nat.le_refl _) _).alloc (by simp) _).trans (hb2.mono (by simp; omega)), Nat.le_refl _⟩
  have hgo : bo + 1 < g := by simp at hg; omega
  have hwb : bo < w2.heap.size ∧ w.heap.size ≤ w2.heap.size ∧ w.heap.size ≤ bo := by have := hb2.size; simp at this; omega
  rw [← hbo]
  clear hbo
  refine range_rounds (P := Tryz.prog) (gf := 101) (lb := #[.pointer (some ⟨g, 0, none⟩)]) rfl (enters_of Tryz.func101 (by kernel_rfl) rfl) (fun f : Fx => #[.int .i64 f.pos, .slice f.A f.m f.d]) (fun _ => rfl) (fun f W => f.ok W) (KeepU g)
    (fun fs W => ScanJ w W bo (bo + 1) w2.heap.size fs) (fun fs W => ∃ k, Fr l (fs.map Fx.pair) k ∧ oneF (l.drop k) = none ∧ ∀ f ∈ fs, f.ok W)
    (fun f => { tmps := #[.slice A n c, undef, .slice none 0 0, .int .i64 0, .pointer (some ⟨bo, 0, none⟩), .pointer (some ⟨bo + 1, 0, none⟩), .int .i64 f.pos, .slice f.A f.m f.d, .slice A n c, .func (.func 101) #[] #[.pointer (some ⟨g, 0, none⟩)], .int .i64 f.pos, .slice f.A f.m f.d, undef, undef, undef, undef, undef, undef, undef, undef, undef, undef, undef, undef, undef], defers := [] }) n
    ?contract ?jb ?jp ?gp ?sp ?kt ?ko hj0 ?assign ?body ?done
  case contract =>
    intro l2 J2 W hb ha hY hj
    refine (all1_any l2 g n xc X l hxc J2 ha (fun pre f W => hY pre f W) W ((hb.cell (p := ⟨g, 0, none⟩) hgl).trans hc0) (hbx.below hb) (hux.below hb) hj).mono ?_
    rintro e W' ⟨hv, fs, k, h1, h2, h3, h4⟩
    exact ⟨hv, fs, ⟨k, h1, h2, h3⟩, h4⟩
  case jb => exact fun pre W W' h hb => h.below hb
  case jp => exact fun pre W r o o' h hr ho hc => h.putObj o' ho hc (by have := hb2.size; simp at this; omega)
  case gp => exact fun f W r o o' h ho hc => h.putObj o' ho hc
  case sp => exact fun fs W r o o' ⟨k, h1, h2, h3⟩ ho hc => ⟨k, h1, h2, fun f hf => (h3 f hf).putObj o' ho hc⟩
  case kt => exact fun _ _ _ h k => h.trans k
  case ko => exact fun W r o o' hr ho hc => ⟨by rw [World.putObj_size]; exact Nat.le_refl _, fun k cs fr hk => World.putObj_heap_other (cells_ne hk ho hc), World.putObj_heap_other (by omega)⟩
  case assign =>
    intro l2 f W K hK
    gi_wp2
    exact hK
  case body =>
    rintro l2 pre f W hJ hN hG
    obtain ⟨O, oc, hbk, hown⟩ := hJ.out
    have hnl := H.out.le
    have c4 : W.cell? ⟨bo, 0, none⟩ = some (.slice O pre.length oc) := hbk.cell 0
    have z4 := hbk.frozen 0
    have c5 : W.cell? ⟨bo + 1, 0, none⟩ = some (.int .i64 (endOf pre)) := hJ.en.cell 0
    have z5 := hJ.en.frozen 0
    have hp1 := hG.pos_
    have hm1 := hG.bs.le
    have Hen := Lib.hid hJ.en
    have Hbk := Lib.hid hbk
    have Hown := Lib.hid hown
    have Hbel := Lib.hid hJ.bel
    have hlt := hJ.lt
    clear hJ hbk hown
    gi_wp2_with (gi_at_builtin; refine wpListIn_app rfl (.tmp 12) (.tmp 14) 66 rfl Tryz.underlying66 slInfo rfl (by decide) rfl (Hown.out.alloc _) rfl (Rd.lit W #[.slice f.A f.m f.d] 23 (0, 0) 1 1 rfl) (by simp [Value.oneCell']) (by omega) (by omega) (by simp; omega) rfl rfl ?_; intro Y yc w3 hown3 hg3 hob3; have hk3 := blk_app Hbk.out Hown.out hwb.1 hg3; have he3 := blk_app Hen.out Hown.out (by omega) hg3; have c4' : w3.cell? ⟨bo, 0, none⟩ = some (.slice O pre.length oc) := hk3.cell 0; have z4' := hk3.frozen 0; have c5' : w3.cell? ⟨bo + 1, 0, none⟩ = some (.int .i64 (endOf pre)) := he3.cell 0; have z5' := he3.frozen 0; have Hown3 := Lib.hid hown3; have Hg3 := Lib.hid hg3; have Hk3 := Lib.hid hk3; have He3 := Lib.hid he3; clear hown3 hg3 hk3 he3)
    have hOb : ∀ k, ob O = some k → w2.heap.size ≤ k ∧ k < W.heap.size := Hown.out.blk
    have hOc : ∀ k, ob O = some k → ∃ cs, W.heap[k]? = some (Obj.cells cs 23 (0, 0)) ∨ ∃ fr, W.heap[k]? = some (Obj.cells cs 23 fr) := fun k hk => by
      rcases Hown.out.row.2 with ⟨hv, _⟩ | ⟨g', cap, cur, hv, _, hh, _⟩
      · have : O = none := by injection hv
        rw [this] at hk; cases hk
      · have hO : O = some ⟨g', 0, none⟩ := by injection hv
        rw [hO] at hk
        simp only [ob, Option.some.injEq] at hk
        subst hk
        exact ⟨_, .inr ⟨_, hh⟩⟩
    obtain ⟨bs, hbs⟩ : ∃ bs : List Nat, bs = bo :: (bo + 1) :: (ob O).toList := ⟨_, rfl⟩
    have hon : Only bs W ((w3.setCell ⟨bo, 0, none⟩ (.slice Y (pre.length + 1) yc)).setCell ⟨bo + 1, 0, none⟩ (.int .i64 ((f.pos : Int) + 6 + (f.m : Int) + 4))) := by
      refine ((((Only.refl bs W).alloc _).grown Hg3.out (fun k hk => .inl (by rw [hbs, hk]; simp))).setCell (.inl (by rw [hbs]; simp)) _).setCell (.inl (by rw [hbs]; simp)) _
    have hku : KeepU g W _ := keepU_only hon (by omega) (by
      rw [hbs]; intro hin
      simp only [List.mem_cons, Option.mem_toList] at hin
      rcases hin with h | h | h
      · omega
      · omega
      · have := (hOb g h).1; omega) (by
      rw [hbs]; intro b hin cs fr he
      simp only [List.mem_cons, Option.mem_toList] at hin
      rcases hin with h | h | h
      · subst h; have := Hbk.out.at_; rw [he] at this; injection this with this; injection this with _ h2; exact absurd h2 (by decide)
      · subst h; have := Hen.out.at_; rw [he] at this; injection this with this; injection this with _ h2; exact absurd h2 (by decide)
      · obtain ⟨cs', h1 | ⟨fr', h1⟩⟩ := hOc b h
        · rw [he] at h1; injection h1 with h1; injection h1 with _ h2; exact absurd h2 (by decide)
        · rw [he] at h1; injection h1 with h1; injection h1 with _ h2; exact absurd h2 (by decide))
    refine ⟨?_, hku, ?_⟩
    · refine ((((KeepsOthers.alloc W _).trans (KeepsOthers.of_grownBy Hg3.out fun k o hk ho => ?_))).trans (KeepsOthers.setCell _ _ _)).trans (KeepsOthers.setCell _ _ _)
      obtain ⟨cs', h1⟩ := hOc k hk
      have hkl := (hOb k hk).2
      have ho' : W.heap[k]? = some o := (Below.heap_alloc W _ k hkl).symm.trans ho
      rcases h1 with h1 | ⟨fr', h1⟩ <;> (rw [ho'] at h1; injection h1 with h1; rw [h1]; rfl)
    · have hYb : ∀ k, ob Y = some k → w2.heap.size ≤ k := fun k hk => (Hown3.out.blk k hk).1
      have e1 : (pre ++ [f]).length = pre.length + 1 := by simp
      have e2 : (pre ++ [f]).map Fx.val = pre.map Fx.val ++ [.slice f.A f.m f.d] := by simp [Fx.val]
      refine ⟨⟨Y, yc, ?_, ?_⟩, ?_, ?_, ?_⟩
      · rw [e1]; exact (Hk3.out.set_ 0 (.slice Y (pre.length + 1) yc)).far (by simp) _
      · rw [e1, e2]
        exact (Hown3.out.setCell (fun h => by have := hYb _ h; simp at this; omega) _).setCell (fun h => by have := hYb _ h; simp at this; omega) _
      · rw [endOf_snoc]; exact (He3.out.far (by simp) _).set_ 0 (.int .i64 ((f.pos : Int) + 6 + (f.m : Int) + 4))
      · refine below_only Hbel.out hon (fun b hb => ?_) Hbel.out.size
        rw [hbs] at hb
        simp only [List.mem_cons, Option.mem_toList] at hb
        rcases hb with h | h | h
        · omega
        · omega
        · have := (hOb b h).1; omega
      · have := hon.size; omega
  case done =>
    rintro D fs W hD ⟨k, h1, h2, h3⟩ hJ hdef
    obtain ⟨O, oc, hbk, hown⟩ := hJ.out
    have c4 : W.cell? ⟨bo, 0, none⟩ = some (.slice O fs.length oc) := hbk.cell 0
    have c5 : W.cell? ⟨bo + 1, 0, none⟩ = some (.int .i64 (endOf fs)) := hJ.en.cell 0
    have hcap := hown.cap
    have hend := endOf_fr h1 h3
    rw [hend] at c5
    have hDl : D < W.heap.size := (Array.getElem?_eq_some_iff.1 hdef).1
    have HK := Lib.hid (fun (w' : World) (hb : Below W.heap.size W w') => (show w'.cell? ⟨bo, 0, none⟩ = some (.slice O fs.length oc) ∧ w'.cell? ⟨bo + 1, 0, none⟩ = some (.int .i64 (k : Int)) ∧ Below W.heap.size W w' from ⟨(hb.cell (p := ⟨bo, 0, none⟩) hbk.lt).trans c4, (hb.cell (p := ⟨bo + 1, 0, none⟩) hJ.en.lt).trans c5, hb⟩))
    have Hown := Lib.hid hown
    have Hbel := Lib.hid hJ.bel
    clear hJ hbk hown
    gi_wp2
    refine wpIn_mono (Q := fun e a' w' => match e with
      | .normal => a' = { tmps := #[.slice A n c, undef, .slice O fs.length fs.length, .int .i64 k, .pointer (some ⟨bo, 0, none⟩), .pointer (some ⟨bo + 1, 0, none⟩), undef, undef, .slice A n c, .func (.func 101) #[] #[.pointer (some ⟨g, 0, none⟩)], undef, undef, undef, undef, undef, undef, undef, undef, undef, undef, undef, undef, .slice O fs.length oc, .slice O fs.length fs.length, .int .i64 k], defers := [{ target := Target.collected D, args := #[] }] } ∧ w' = W.drew
      | _ => False) (wpIn_wide.2 ?_) ?_
    · (refine wp_region_held_drew (S := fun w' => w'.cell? ⟨bo, 0, none⟩ = some (.slice O fs.length oc) ∧ w'.cell? ⟨bo + 1, 0, none⟩ = some (.int .i64 (k : Int)) ∧ Below W.heap.size W w') (by kernel_rfl) (HK.out _ (by (repeat (first | assumption | exact Below.refl _ _ | (with_reducible apply Below.drew) | (with_reducible apply bl_drewN) | (with_reducible apply bl_alloc) | (with_reducible refine bl_then ?_ (by assumption)))))) (fun hHeld => ?_))
      (refine wpAnyH_take (i := 0) (oi := _) (v := ?_) (ops_at rfl) (by kernel_rfl) (by kernel_rfl) (by kernel_rfl) (fun _ _ _ h => h) (Or.inl ⟨by rfl, ?_⟩) (by assumption) ?_; rotate_left; (focus (intro w hSw; (try dsimp only at hSw); go_simp; (try with_reducible rfl))); (try simp only [Act.put, List.setIfInBounds_toArray, List.set_cons_zero, List.set_cons_succ])); (refine wpAnyH_take (i := 2) (oi := _) (v := ?_) (ops_at rfl) (by kernel_rfl) (by kernel_rfl) (by kernel_rfl) (fun _ _ _ h => h) (Or.inl ⟨by rfl, ?_⟩) (by assumption) ?_; rotate_left; (focus (intro w hSw; (try dsimp only at hSw); go_simp; (try with_reducible rfl))); (try simp only [Act.put, List.setIfInBounds_toArray, List.set_cons_zero, List.set_cons_succ]))
      (refine wpAnyH_ready (rs := [1]) (by kernel_rfl) (by simp) (AllReadyH.cons (ops_at rfl) (fun K hK => ?_) AllReadyH.nil); go_simp; (refine (clipr_any _ _ _ _ hcap).mono ?_; rintro e w4 ⟨rfl, rfl⟩); refine hK.out _ _ (HK.out _ (by (repeat (first | assumption | exact Below.refl _ _ | (with_reducible apply Below.drew) | (with_reducible apply bl_drewN) | (with_reducible apply bl_alloc) | (with_reducible refine bl_then ?_ (by assumption)))))) (fun hHeld => ?_); clear hK K; (try simp only [Act.put, List.setIfInBounds_toArray, List.set_cons_zero, List.set_cons_succ]))
      (refine wpAnyH_take (i := 3) (oi := _) (v := ?_) (ops_at rfl) (by kernel_rfl) (by kernel_rfl) (by kernel_rfl) (fun _ _ _ h => h) (Or.inl ⟨by rfl, ?_⟩) (by assumption) ?_; rotate_left; (focus (intro w hSw; (try dsimp only at hSw); go_simp; (try with_reducible rfl))); (try simp only [Act.put, List.setIfInBounds_toArray, List.set_cons_zero, List.set_cons_succ])); (refine wpAnyH_take (i := 4) (oi := _) (v := ?_) (ops_at rfl) (by kernel_rfl) (by kernel_rfl) (by kernel_rfl) (fun _ _ _ h => h) (Or.inl ⟨by rfl, ?_⟩) (by assumption) ?_; rotate_left; (focus (intro w hSw; (try dsimp only at hSw); go_simp; (try with_reducible rfl))); (try simp only [Act.put, List.setIfInBounds_toArray, List.set_cons_zero, List.set_cons_succ]))
      (refine wpAnyH_done (by kernel_rfl) ?_ _)
      exact ⟨rfl, rfl⟩
    intro e a' w' hq
    cases e <;> first | exact hq.elim | skip
    obtain ⟨rfl, rfl⟩ := hq
    have hdef2 : W.drew.heap[D]? = some (.deferred (some [])) := hdef
    gi_wp2
    have hbt : Below w.heap.size w (W.drew.putObj D (.deferred none)) := below_putObj (Hbel.out.drew) D _ (by omega)
    refine ⟨by simp, .inl ⟨_, _, rfl, run_takeDeferred hdef2, ?_⟩⟩
    refine ⟨_, results_tmp2 rfl _ _ _, fs, k, O, rfl, h1, h2, fun f hf => ?_, ?_, hbt⟩
    · have h4 := (h3 f hf)
      exact Fx.ok.putObj (W := W.drew) (r := D) (.deferred none) ⟨h4.bs.drew, h4.u8, h4.cap, h4.pos_⟩ hdef2 rfl
    · refine Rd.keep Hown.out.rd.drew (by rw [World.putObj_size]; exact Nat.le_refl _) fun ad hA h0 => World.putObj_heap_other ?_
      rcases Hown.out.row.2 with ⟨hv, _⟩ | ⟨g', cap, cur, hv, _, hh, _⟩
      · have : O = none := by injection hv
        rw [this] at hA; cases hA
      · have hO : O = some ⟨g', 0, none⟩ := by injection hv
        rw [hO] at hA
        cases hA
        exact cells_ne (W := W) hh hdef rfl
end Go.Proofs.YtahdeighocmijaaGreat
