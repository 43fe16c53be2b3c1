/- reco.begins: where a frame begins. -/
import Derived.Test.YtahdeighocmijaaGreatLeave
namespace Go.Proofs.YtahdeighocmijaaGreat
set_option linter.unusedSimpArgs false
set_option linter.unusedVariables false
open Go.RowKit Go.Shelf
open Crc (Bytes)
attribute [local go_sem] Oper.semAt_some
theorem results_cell1 {fn : Func} {p : Tmp} {ty : TypeId} (h : fn.results = #[.cell p ty]) (tmps : Array Value) (P : Program) (w : World) :
    (results fn tmps).run P w = ((asAddr (tmps.getD p undef)).run P w).andThen fun a w₁ => (loadVar ty a).run P w₁ := by
  simp only [results, h]
  simp [Sem.run_bind, Result.andThen]
structure BegJ (w0 W : World) (bo base : Nat) (v r : Int) : Prop where
  i : Blk W bo 3 [.int .i64 v]
  o : Blk W (bo + 1) 3 [.int .i64 r]
  bel : Below w0.heap.size w0 W
  lt : base ≤ W.heap.size
theorem BegJ.below {w0 W W' : World} {bo base : Nat} {v r : Int} (h : BegJ w0 W bo base v r) (hb : Below W.heap.size W W') : BegJ w0 W' bo base v r :=
  ⟨h.i.below hb, h.o.below hb, h.bel.trans (hb.mono h.bel.size), by have := h.lt; have := hb.size; omega⟩
theorem BegJ.putObj {w0 W : World} {bo base q : Nat} {v r : Int} {o : Obj} (o' : Obj) (h : BegJ w0 W bo base v r) (hr : W.heap[q]? = some o) (hc : o.isCells = false) (hb : w0.heap.size ≤ q) : BegJ w0 (W.putObj q o') bo base v r :=
  ⟨h.i.keep (World.putObj_heap_other (cells_ne h.i.at_ hr hc)), h.o.keep (World.putObj_heap_other (cells_ne h.o.at_ hr hc)), below_putObj h.bel q o' hb, by rw [World.putObj_size]; exact h.lt⟩
set_option maxRecDepth 100000 in
set_option maxHeartbeats 4000000 in
theorem begins_any (A : Option Addr) (n c : Nat) (l : List Int) (i : Nat) (w : World) (h : Bs w A n l) (hi : i ≤ 1000000000) {fl : List (Nat × List Int)} {k s : Nat} {x : List Int} (hfr : Fr l fl k) (hfl : fl.length = i) (ho : oneF (l.drop k) = some (x, s)) :
    Calls Tryz.prog 68 #[.slice A n c, .int .i64 i] w fun e w' => e = .returned (.int .i64 k) ∧ Below w.heap.size w w' := by
  have H := Lib.hid h
  clear h
  refine (callsIn_wide (n := 6)).1 ?_
  refine callsIn_of_wp_marks Tryz.func68 rfl trivial ?_ rfl
  simp only [Tryz.ntmps68, List.size_toArray, List.length_cons, List.length_nil, Nat.reduceAdd, Nat.reduceSub, Array.replicate_succ, Array.replicate_zero, List.push_toArray, List.append_toArray, List.nil_append, List.cons_append]
  gi_wp2_with (refine ⟨trivial, ?_⟩; gi_at_call 79; refine (callsIn_wide.2 (all_any A n c l _ ((H.out.alloc _).alloc _))).mono ?_; rintro e w2 ⟨g, X, xc, rfl, hc0, hxc, hbx, hux, hg, hb2⟩)
  have hgl : g < w2.heap.size := World.block_lt_of_cell? w2 ⟨g, 0, none⟩ hc0
  obtain ⟨bo, hbo⟩ : ∃ y, y = w.heap.size := ⟨_, rfl⟩
  have hj0 : BegJ w w2 bo w2.heap.size (i : Int) 0 := by
    subst hbo
    refine ⟨((Blk.new w 3 [.int .i64 (i : Int)]).alloc _).below hb2, (blk_new (cs := [.int .i64 0]) (by simp)).below hb2, (((Below.refl _ w).alloc (Nat.le_refl _) _).alloc (by simp) _).trans (hb2.mono (by simp; omega)), Nat.le_refl _⟩
  have hgo : bo + 1 < g := by simp at hg; omega
  have hwb : bo + 1 < w2.heap.size ∧ w.heap.size ≤ w2.heap.size ∧ w.heap.size ≤ bo := by have := hb2.size; simp at this; omega
  rw [← hbo]
  clear hbo
  refine range_leave (P := Tryz.prog) (gf := 101) (lb := #[.pointer (some ⟨g, 0, none⟩)]) rfl (enters_of Tryz.func101 (by kernel_rfl) rfl) (fun f : Fx => #[.int .i64 f.pos, .slice f.A f.m f.d]) (fun _ => rfl) (fun f W => f.ok W) (KeepU g)
    (fun fs W => BegJ w W bo w2.heap.size ((i : Int) - fs.length) 0) (fun fs W => ∃ pre f v, fs = pre ++ [f] ∧ BegJ w W bo w2.heap.size v (Fx.pos f)) (fun fs W => ∃ pre f, fs = pre ++ [f] ∧ Fr l (pre.map Fx.pair) (Fx.pos f) ∧ pre.length = i)
    (fun f => { tmps := #[.slice A n c, .int .i64 (i : Int), undef, .pointer (some ⟨bo, 0, none⟩), .pointer (some ⟨bo + 1, 0, none⟩), .int .i64 f.pos, .slice A n c, .func (.func 101) #[] #[.pointer (some ⟨g, 0, none⟩)], .int .i64 f.pos, .slice f.A f.m f.d, undef, undef, undef, undef, undef, undef, undef], defers := [] }) i
    ?contract ?jb ?j3p ?jp ?gp ?sp ?kt ?ko (by simpa using hj0) ?assign ?body ?leave ?done
  case contract =>
    intro l2 J2 J4 W hb ha hY hL hj
    refine (all1_leave i l2 g n xc X l hxc J2 J4 ⟨fl, k, x, s, hfr, hfl, ho⟩ ha (fun pre f W => hY pre f W) (fun pre f W => hL pre f W) W ((hb.cell (p := ⟨g, 0, none⟩) hgl).trans hc0) (hbx.below hb) (hux.below hb) hj).mono ?_
    rintro e W' ⟨hv, fs, f, h1, h2, h3⟩
    exact ⟨hv, fs ++ [f], ⟨fs, f, rfl, h1, h2⟩, h3⟩
  case jb => exact fun pre W W' h hb => h.below hb
  case j3p => exact fun pre W r o o' ⟨q, f, v, h1, h2⟩ hr ho hc => ⟨q, f, v, h1, h2.putObj o' ho hc (by omega)⟩
  case jp => exact fun pre W r o o' h hr ho hc => h.putObj o' ho hc (by omega)
  case gp => exact fun f W r o o' h ho hc => h.putObj o' ho hc
  case sp => exact fun fs W r o o' h ho hc => h
  case kt => exact fun _ _ _ h k => h.trans k
  case ko => exact fun W r o o' hr ho hc => ⟨by rw [World.putObj_size]; exact Nat.le_refl _, fun k cs fr hk => World.putObj_heap_other (cells_ne hk ho hc), World.putObj_heap_other (by omega)⟩
  case assign =>
    intro l2 f W K hK
    gi_wp2
    exact hK
  case body =>
    rintro l2 pre f W hJ hN hG
    have c3 : W.cell? ⟨bo, 0, none⟩ = some (.int .i64 ((i : Int) - pre.length)) := hJ.i.cell 0
    have z3 := hJ.i.frozen 0
    have hne : ((i : Int) - (pre.length : Int) == 0) = false := by rw [beq_eq_false_iff_ne]; omega
    have hwr : IntKind.i64.wrap ((i : Int) - (pre.length : Int) - 1) = (i : Int) - (pre.length : Int) - 1 := by rw [IntKind.wrap_i64]; omega
    have HJ := Lib.hid hJ
    clear hJ
    gi_wp2
    have hgb : g < W.heap.size := by have := HJ.out.lt; omega
    have hon : Only [bo] W (W.setCell ⟨bo, 0, none⟩ (.int .i64 ((i : Int) - pre.length - 1))) := (Only.refl [bo] W).setCell (.inl (by simp)) _
    refine ⟨KeepsOthers.setCell _ _ _, keepU_only hon hgb (by simp; omega) (fun b hin cs fr he => ?_), ?_⟩
    · simp at hin; subst hin
      have := HJ.out.i.at_; rw [he] at this; injection this with this; injection this with _ h2; exact absurd h2 (by decide)
    · rw [show (i : Int) - ((pre.length : Int) + 1) = (i : Int) - pre.length - 1 by omega]
      exact ⟨HJ.out.i.set_ 0 _, HJ.out.o.far (by simp) _, HJ.out.bel.setCell (p := ⟨bo, 0, none⟩) hwb.2.2 _, by simpa using HJ.out.lt⟩
  case leave =>
    rintro l2 pre f W hJ hN hG
    have c3 : W.cell? ⟨bo, 0, none⟩ = some (.int .i64 0) := by have := hJ.i.cell 0; rw [this]; simp [hN]
    have z3 := hJ.i.frozen 0
    have c4 : W.cell? ⟨bo + 1, 0, none⟩ = some (.int .i64 0) := hJ.o.cell 0
    have z4 := hJ.o.frozen 0
    have HJ := Lib.hid hJ
    clear hJ
    gi_wp2
    refine ⟨KeepsOthers.setCell _ _ _, pre, f, ⟨rfl, rfl⟩, _, HJ.out.i.far (p := ⟨bo + 1, 0, none⟩) (by simp) _, HJ.out.o.set_ 0 _, HJ.out.bel.setCell (p := ⟨bo + 1, 0, none⟩) (by have := hwb.2.2; show w.heap.size ≤ bo + 1; omega) _, by simpa using HJ.out.lt⟩
  case done =>
    rintro D fs W hD ⟨pre, f, rfl, h1, h2⟩ ⟨pre2, f2, v, hfs2, hJ⟩ hdef
    have hf : f = f2 := by have := congrArg List.getLast? hfs2; simpa using this
    subst hf
    obtain ⟨_, hpos⟩ := fr_same h1 hfr (by rw [List.length_map, h2, hfl])
    rw [hpos] at hJ
    have hDl : D < W.heap.size := (Array.getElem?_eq_some_iff.1 hdef).1
    have HJ := Lib.hid hJ
    clear hJ
    gi_wp2
    have hbt : Below w.heap.size w (W.putObj D (.deferred none)) := below_putObj HJ.out.bel D _ (by omega)
    have hrc : (W.putObj D (.deferred none)).cell? ⟨bo + 1, 0, none⟩ = some (.int .i64 (k : Int)) := (HJ.out.o.keep (World.putObj_heap_other (cells_ne HJ.out.o.at_ hdef rfl))).cell 0
    refine ⟨by simp, .inl ⟨_, _, rfl, run_takeDeferred hdef, ?_⟩⟩
    refine ⟨.int .i64 (k : Int), ?_, rfl, hbt⟩
    rw [results_cell1 rfl]
    go_simp
end Go.Proofs.YtahdeighocmijaaGreat
