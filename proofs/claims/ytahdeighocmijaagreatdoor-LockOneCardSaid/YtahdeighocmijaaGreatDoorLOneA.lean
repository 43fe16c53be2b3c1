/- Locks: three hands in the heap. -/
import Derived.Test.YtahdeighocmijaaGreatDoorLOneW
namespace Go.Proofs.YtahdeighocmijaaGreatDoor
set_option linter.unusedSimpArgs false
set_option linter.unusedVariables false
open Go.RowKit
open Crc (Bytes)
def ptrO {α : Type} (o : Option (Nat × α)) : Value := match o with | none => .pointer none | some x => .pointer (some ⟨x.1, 0, none⟩)
def Hd.cells (h : Hd) : List Value := [ptrO h.t, ptrO h.w, .bool h.free, .string h.gn, .int .i64 h.gs, .int .i64 h.l.who, .int .i64 h.l.inc, .int .i64 h.l.epoch, .int .i64 h.l.till, .bool h.held]
def cells3 (h : Nat → Hd) : List Value := (h 0).cells ++ ((h 1).cells ++ (h 2).cells)
theorem Hd.cells_len (h : Hd) : h.cells.length = 10 := rfl
theorem cells3_get (h : Nat → Hd) {j f : Nat} (hj : j < 3) (hf : f < 10) : (cells3 h)[10 * j + f]? = (h j).cells[f]? := by
  have : j = 0 ∨ j = 1 ∨ j = 2 := by omega
  unfold cells3
  rcases this with rfl | rfl | rfl
  · rw [List.getElem?_append_left (by rw [Hd.cells_len]; omega), show 10 * 0 + f = f by omega]
  · rw [List.getElem?_append_right (by rw [Hd.cells_len]; omega), Hd.cells_len, List.getElem?_append_left (by rw [Hd.cells_len]; omega), show 10 * 1 + f - 10 = f by omega]
  · rw [List.getElem?_append_right (by rw [Hd.cells_len]; omega), Hd.cells_len, List.getElem?_append_right (by rw [Hd.cells_len]; omega), Hd.cells_len, show 10 * 2 + f - 10 - 10 = f by omega]
theorem cells3_set (h : Nat → Hd) {j f : Nat} (hj : j < 3) (hf : f < 10) {v : Value} {x : Hd} (hx : (h j).cells.set f v = x.cells) : (cells3 h).set (10 * j + f) v = cells3 (hset h j x) := by
  have : j = 0 ∨ j = 1 ∨ j = 2 := by omega
  unfold cells3
  rcases this with rfl | rfl | rfl
  · rw [hset_same, hset_other (by decide), hset_other (by decide), ← hx, List.set_append_left _ _ (by rw [Hd.cells_len]; omega), show 10 * 0 + f = f by omega]
  · rw [hset_same, hset_other (by decide), hset_other (by decide), ← hx, List.set_append_right _ _ (by rw [Hd.cells_len]; omega), Hd.cells_len, List.set_append_left _ _ (by rw [Hd.cells_len]; omega), show 10 * 1 + f - 10 = f by omega]
  · rw [hset_same, hset_other (by decide), hset_other (by decide), ← hx, List.set_append_right _ _ (by rw [Hd.cells_len]; omega), Hd.cells_len, List.set_append_right _ _ (by rw [Hd.cells_len]; omega), Hd.cells_len, show 10 * 2 + f - 10 - 10 = f by omega]
theorem hset_hset (h : Nat → Hd) (j : Nat) (x y : Hd) : hset (hset h j x) j y = hset h j y := by
  funext k
  by_cases hk : k = j
  · subst hk; rw [hset_same, hset_same]
  · rw [hset_other hk, hset_other hk, hset_other hk]
theorem hset_id {h : Nat → Hd} {j : Nat} {x : Hd} (hx : h j = x) : hset h j x = h := by
  funext k
  by_cases hk : k = j
  · subst hk; rw [hset_same, hx]
  · rw [hset_other hk]
/-- The hands in the heap. -/
structure AllAt (w0 W : World) (ab : Nat) (h : Nat → Hd) : Prop where
  blk : Blk W ab 52 (cells3 h)
  t : ∀ j, j < 3 → ∀ x, (h j).t = some x → TkAt W x.1 x.2 ∧ w0.heap.size ≤ x.1
  w : ∀ j, j < 3 → ∀ x, (h j).w = some x → WkAt W x.1 x.2 ∧ w0.heap.size ≤ x.1
  ab_ : w0.heap.size ≤ ab
theorem Blk.diff {W : World} {a b : Nat} {t u : TypeId} {cs ds : List Value} (h : Blk W a t cs) (k : Blk W b u ds) (hne : t ≠ u) : a ≠ b := fun e => by
  subst e
  have := h.at_.symm.trans k.at_
  injection this with this
  injection this with _ h3 _
  exact hne h3
section
variable {w0 W W' : World} {ab fb mb j k : Nat} {h : Nat → Hd} {S S' : Fs}
theorem AllAt.cell (H : AllAt w0 W ab h) (hj : j < 3) {f : Nat} (hf : f < 10) {v : Value} (hv : (h j).cells[f]? = some v) : W.cell? ⟨ab, j * 10 + f, none⟩ = some v := by
  have := H.blk.cell (j * 10 + f)
  rw [this, Nat.mul_comm j 10, cells3_get h hj hf, hv]
theorem AllAt.below (H : AllAt w0 W ab h) (hb : Below W.heap.size W W') : AllAt w0 W' ab h :=
  ⟨H.blk.below hb, fun j hj x hx => ⟨Blk.below (H.t j hj x hx).1 hb, (H.t j hj x hx).2⟩, fun j hj x hx => ⟨Blk.below (H.w j hj x hx).1 hb, (H.w j hj x hx).2⟩, H.ab_⟩
theorem AllAt.set (H : AllAt w0 W ab h) (hj : j < 3) {f : Nat} (hf : f < 10) {v : Value} {x : Hd} (hc : (h j).cells.set f v = x.cells) (ht : ∀ y, x.t = some y → TkAt W y.1 y.2 ∧ w0.heap.size ≤ y.1) (hw : ∀ y, x.w = some y → WkAt W y.1 y.2 ∧ w0.heap.size ≤ y.1) :
    AllAt w0 (W.setCell ⟨ab, j * 10 + f, none⟩ v) ab (hset h j x) := by
  have hb := H.blk.set_ (j * 10 + f) v
  rw [Nat.mul_comm j 10, cells3_set h hj hf hc, Nat.mul_comm 10 j] at hb
  refine ⟨hb, fun k hk y hy => ?_, fun k hk y hy => ?_, H.ab_⟩
  · have h1 : TkAt W y.1 y.2 ∧ w0.heap.size ≤ y.1 := by
      by_cases hkj : k = j
      · subst hkj; rw [hset_same] at hy; exact ht y hy
      · rw [hset_other hkj] at hy; exact H.t k hk y hy
    exact ⟨Blk.far h1.1 (Blk.diff h1.1 H.blk (by decide)) v, h1.2⟩
  · have h1 : WkAt W y.1 y.2 ∧ w0.heap.size ≤ y.1 := by
      by_cases hkj : k = j
      · subst hkj; rw [hset_same] at hy; exact hw y hy
      · rw [hset_other hkj] at hy; exact H.w k hk y hy
    exact ⟨Blk.far h1.1 (Blk.diff h1.1 H.blk (by decide)) v, h1.2⟩
/-- The hands and the files. -/
structure OneAt (w0 W : World) (fb mb ab : Nat) (S : Fs) (h : Nat → Hd) (k : Nat) : Prop where
  all : AllAt w0 W ab h
  fs : FsH w0 W fb mb S k
theorem OneAt.below (H : OneAt w0 W fb mb ab S h k) (hb : Below W.heap.size W W') : OneAt w0 W' fb mb ab S h k := ⟨H.all.below hb, H.fs.below hb⟩
theorem OneAt.alloc (H : OneAt w0 W fb mb ab S h k) {o : Obj} : OneAt w0 (W.alloc o) fb mb ab S h k := H.below (bl_alloc (Below.refl _ _))
theorem OneAt.drew (H : OneAt w0 W fb mb ab S h k) : OneAt w0 W.drew fb mb ab S h k := H.below (Below.refl _ _).drew
theorem OneAt.more (H : OneAt w0 W fb mb ab S h k) {k' : Nat} (hk : k ≤ k') (h5 : k' ≤ 5000) : OneAt w0 W fb mb ab S h k' := ⟨H.all, H.fs.more hk h5⟩
theorem OneAt.set (H : OneAt w0 W fb mb ab S h k) (hj : j < 3) {f : Nat} (hf : f < 10) {v : Value} {x : Hd} (hc : (h j).cells.set f v = x.cells) (ht : ∀ y, x.t = some y → TkAt W y.1 y.2 ∧ w0.heap.size ≤ y.1) (hw : ∀ y, x.w = some y → WkAt W y.1 y.2 ∧ w0.heap.size ≤ y.1) :
    OneAt w0 (W.setCell ⟨ab, j * 10 + f, none⟩ v) fb mb ab S (hset h j x) k :=
  ⟨H.all.set hj hf hc ht hw, H.fs.turn ((Only.refl _ _).setCell (.inl (by simp)) v) H.all.blk (by decide) (by decide) H.all.ab_⟩
/-- A field that is none of the pointers. -/
theorem OneAt.setf (H : OneAt w0 W fb mb ab S h k) (hj : j < 3) {f : Nat} (hf : f < 10) {v : Value} {x : Hd} (hc : (h j).cells.set f v = x.cells) (ht : x.t = (h j).t) (hw : x.w = (h j).w) :
    OneAt w0 (W.setCell ⟨ab, j * 10 + f, none⟩ v) fb mb ab S (hset h j x) k :=
  H.set hj hf hc (fun y hy => H.all.t j hj y (ht ▸ hy)) (fun y hy => H.all.w j hj y (hw ▸ hy))
theorem AllAt.only (H : AllAt w0 W ab h) (I : ∃ C last e, ∀ j, j < 3 → HdOk C last e j (h j)) (hj : j < 3) {tb : Nat} {bs : List Nat} (ho : Only bs W W') (h1 : ∀ g, g ∈ bs → g = tb ∨ (∀ t cs, Blk W g t cs → t = 59)) (hab : ab ≠ tb)
    (x : Hd) (hc : x.cells = (h j).cells) (ht : ∀ y, x.t = some y → TkAt W' y.1 y.2 ∧ w0.heap.size ≤ y.1) (hw : ∀ y, x.w = some y → WkAt W' y.1 y.2 ∧ w0.heap.size ≤ y.1)
    (hne : ∀ k, k < 3 → k ≠ j → (∀ y, (h k).t = some y → y.1 ≠ tb) ∧ (∀ y, (h k).w = some y → y.1 ≠ tb)) : AllAt w0 W' ab (hset h j x) := by
  have hn : ∀ {g : Nat} {t : TypeId} {cs : List Value}, Blk W g t cs → t ≠ 59 → g ≠ tb → g ∉ bs := fun hb ht2 hg hin => by
    rcases h1 _ hin with e | e
    · exact hg e
    · exact ht2 (e _ _ hb)
  have hcells : cells3 (hset h j x) = cells3 h := by
    have : j = 0 ∨ j = 1 ∨ j = 2 := by omega
    unfold cells3
    rcases this with rfl | rfl | rfl
    · rw [hset_same, hset_other (by decide), hset_other (by decide), hc]
    · rw [hset_same, hset_other (by decide), hset_other (by decide), hc]
    · rw [hset_same, hset_other (by decide), hset_other (by decide), hc]
  refine ⟨by rw [hcells]; exact H.blk.only ho (hn H.blk (by decide) hab), fun k hk y hy => ?_, fun k hk y hy => ?_, H.ab_⟩
  · by_cases hkj : k = j
    · subst hkj; rw [hset_same] at hy; exact ht y hy
    · rw [hset_other hkj] at hy
      have h2 := H.t k hk y hy
      exact ⟨Blk.only h2.1 ho (hn h2.1 (by decide) ((hne k hk hkj).1 y hy)), h2.2⟩
  · by_cases hkj : k = j
    · subst hkj; rw [hset_same] at hy; exact hw y hy
    · rw [hset_other hkj] at hy
      have h2 := H.w k hk y hy
      exact ⟨Blk.only h2.1 ho (hn h2.1 (by decide) ((hne k hk hkj).2 y hy)), h2.2⟩
theorem FsH.onlyFS (H : FsH w0 W fb mb S k) (tb : Nat) : ∀ g, g ∈ [fb, mb, tb] → g = tb ∨ (∀ t cs, Blk W g t cs → t = 59) := by
  intro g hg
  by_cases hgt : g = tb
  · exact .inl hgt
  · right
    intro t cs hb
    by_cases ht : t = 59
    · exact ht
    · exact absurd (show g ∈ [fb, mb] by simp at hg ⊢; rcases hg with e | e | e; exact .inl e; exact .inr e; exact absurd e hgt) (H.ne hb.at_ ht)
theorem OneAt.took {e : Int} {k' : Int} {tb : Nat} {tk tk' : Tk} {en : Ending} {n : Nat} (H : OneAt w0 W fb mb ab S h k) (I : OneI S e h) (hj : j < 3) (ht : (h j).t = some (tb, tk)) (hd : TDid w0 fb mb tb W W' en k' S' n tk') :
    OneAt w0 W' fb mb ab S' (hset h j { h j with t := some (tb, tk') }) n := by
  obtain ⟨C, _, _, ho⟩ := I.ex
  have hT := (H.all.t j hj _ ht)
  have hwho := ((ho j hj).tk _ ht).1.who
  have hw0 := ((ho j hj).tk _ ht).2.1
  refine ⟨H.all.only ⟨_, _, _, ho⟩ hj hd.o (H.fs.onlyFS tb) (Blk.diff H.all.blk hT.1 (by decide)) _ (by unfold Hd.cells; rw [ht]; rfl) (fun y hy => ?_) (fun y hy => ?_) (fun q hq hqj => ⟨fun y hy e2 => ?_, fun y hy e2 => ?_⟩), hd.h⟩
  · cases hy; exact ⟨hd.x, hT.2⟩
  · have : (h j).w = some y := hy
    rw [hw0] at this; cases this
  · have h2 := (H.all.t q hq y hy).1
    have hwq := ((ho q hq).tk _ hy).1.who
    rw [e2] at h2
    have := (Blk.cell h2 2).symm.trans (Blk.cell hT.1 2)
    have h3 : (some (Value.int .i64 y.2.who) : Option Value) = some (Value.int .i64 tk.who) := this
    injection h3 with h3; injection h3 with _ h3
    rw [hwq, hwho] at h3
    omega
  · exact absurd e2 (Blk.diff (H.all.w q hq y hy).1 hT.1 (by decide))
theorem OneAt.wrote {e : Int} {k' : Int} {wb : Nat} {wk wk' : Wk} {en : Ending} {n : Nat} (H : OneAt w0 W fb mb ab S h k) (I : OneI S e h) (hj : j < 3) (hw : (h j).w = some (wb, wk)) (hd : WDid w0 fb mb wb W W' en k' S' n wk') :
    OneAt w0 W' fb mb ab S' (hset h j { h j with w := some (wb, wk') }) n := by
  obtain ⟨C, _, _, ho⟩ := I.ex
  have hT := (H.all.w j hj _ hw)
  have hwho := ((ho j hj).wk _ hw).1.who
  have ht0 := ((ho j hj).wk _ hw).2.1
  refine ⟨H.all.only ⟨_, _, _, ho⟩ hj hd.o (H.fs.onlyFS wb) (Blk.diff H.all.blk hT.1 (by decide)) _ (by unfold Hd.cells; rw [hw]; rfl) (fun y hy => ?_) (fun y hy => ?_) (fun q hq hqj => ⟨fun y hy e2 => ?_, fun y hy e2 => ?_⟩), hd.h⟩
  · have : (h j).t = some y := hy
    rw [ht0] at this; cases this
  · cases hy; exact ⟨hd.x, hT.2⟩
  · exact absurd e2 (Blk.diff (H.all.t q hq y hy).1 hT.1 (by decide))
  · have h2 := (H.all.w q hq y hy).1
    have hwq := ((ho q hq).wk _ hy).1.who
    rw [e2] at h2
    have := (Blk.cell h2 2).symm.trans (Blk.cell hT.1 2)
    have h3 : (some (Value.int .i64 y.2.l.who) : Option Value) = some (Value.int .i64 wk.l.who) := this
    injection h3 with h3; injection h3 with _ h3
    rw [hwq, hwho] at h3
    omega
/-- A guard and a lock laid into a hand. -/
theorem OneAt.gl (H : OneAt w0 W fb mb ab S h k) (hj : j < 3) (gn : ByteArray) (gs : Int) (L : Lk) :
    OneAt w0 ((((((W.setCell ⟨ab, j * 10 + 3, none⟩ (.string gn)).setCell ⟨ab, j * 10 + 4, none⟩ (.int .i64 gs)).setCell ⟨ab, j * 10 + 5, none⟩ (.int .i64 L.who)).setCell ⟨ab, j * 10 + 6, none⟩ (.int .i64 L.inc)).setCell ⟨ab, j * 10 + 7, none⟩ (.int .i64 L.epoch)).setCell ⟨ab, j * 10 + 8, none⟩ (.int .i64 L.till)) fb mb ab S (hset h j { h j with gn := gn, gs := gs, l := L }) k := by
  have h1 := H.setf hj (f := 3) (by decide) (v := .string gn) (x := { h j with gn := gn }) rfl rfl rfl
  have h2 := h1.setf hj (f := 4) (by decide) (v := .int .i64 gs) (x := { h j with gn := gn, gs := gs }) (by rw [hset_same]; rfl) (by rw [hset_same]) (by rw [hset_same])
  rw [hset_hset] at h2
  have h3 := h2.setf hj (f := 5) (by decide) (v := .int .i64 L.who) (x := { h j with gn := gn, gs := gs, l := { (h j).l with who := L.who } }) (by rw [hset_same]; rfl) (by rw [hset_same]) (by rw [hset_same])
  rw [hset_hset] at h3
  have h4 := h3.setf hj (f := 6) (by decide) (v := .int .i64 L.inc) (x := { h j with gn := gn, gs := gs, l := { (h j).l with who := L.who, inc := L.inc } }) (by rw [hset_same]; rfl) (by rw [hset_same]) (by rw [hset_same])
  rw [hset_hset] at h4
  have h5 := h4.setf hj (f := 7) (by decide) (v := .int .i64 L.epoch) (x := { h j with gn := gn, gs := gs, l := { (h j).l with who := L.who, inc := L.inc, epoch := L.epoch } }) (by rw [hset_same]; rfl) (by rw [hset_same]) (by rw [hset_same])
  rw [hset_hset] at h5
  have h6 := h5.setf hj (f := 8) (by decide) (v := .int .i64 L.till) (x := { h j with gn := gn, gs := gs, l := L }) (by rw [hset_same]; rfl) (by rw [hset_same]) (by rw [hset_same])
  rw [hset_hset] at h6
  exact h6
theorem OneAt.held (H : OneAt w0 W fb mb ab S h k) (hj : j < 3) (b : Bool) : OneAt w0 (W.setCell ⟨ab, j * 10 + 9, none⟩ (.bool b)) fb mb ab S (hset h j { h j with held := b }) k :=
  H.setf hj (f := 9) (by decide) (v := .bool b) (x := { h j with held := b }) rfl rfl rfl
theorem OneAt.noT (H : OneAt w0 W fb mb ab S h k) (hj : j < 3) : OneAt w0 (W.setCell ⟨ab, j * 10, none⟩ (.pointer none)) fb mb ab S (hset h j { h j with t := none }) k :=
  H.set hj (f := 0) (by decide) (v := .pointer none) (x := { h j with t := none }) rfl (fun y hy => by cases hy) (fun y hy => H.all.w j hj y hy)
theorem OneAt.noW (H : OneAt w0 W fb mb ab S h k) (hj : j < 3) : OneAt w0 (W.setCell ⟨ab, j * 10 + 1, none⟩ (.pointer none)) fb mb ab S (hset h j { h j with w := none }) k :=
  H.set hj (f := 1) (by decide) (v := .pointer none) (x := { h j with w := none }) rfl (fun y hy => H.all.t j hj y hy) (fun y hy => by cases hy)
end
theorem range_frame (t : Array Value) (N : Nat) (h : t.size = N) : t = ((List.range N).map fun k => t.getD k undef).toArray := by
  apply Array.ext
  · simp [h]
  · intro i h1 h2
    simp [Array.getD, h1]
set_option maxRecDepth 100000 in
theorem frame339 (t : Array Value) (h : t.size = 339) : t = #[t.getD 0 undef, t.getD 1 undef, t.getD 2 undef, t.getD 3 undef, t.getD 4 undef, t.getD 5 undef, t.getD 6 undef, t.getD 7 undef, t.getD 8 undef, t.getD 9 undef, t.getD 10 undef, t.getD 11 undef, t.getD 12 undef, t.getD 13 undef, t.getD 14 undef, t.getD 15 undef, t.getD 16 undef, t.getD 17 undef, t.getD 18 undef, t.getD 19 undef, t.getD 20 undef, t.getD 21 undef, t.getD 22 undef, t.getD 23 undef, t.getD 24 undef, t.getD 25 undef, t.getD 26 undef, t.getD 27 undef, t.getD 28 undef, t.getD 29 undef, t.getD 30 undef, t.getD 31 undef, t.getD 32 undef, t.getD 33 undef, t.getD 34 undef, t.getD 35 undef, t.getD 36 undef, t.getD 37 undef, t.getD 38 undef, t.getD 39 undef, t.getD 40 undef, t.getD 41 undef, t.getD 42 undef, t.getD 43 undef, t.getD 44 undef, t.getD 45 undef, t.getD 46 undef, t.getD 47 undef, t.getD 48 undef, t.getD 49 undef, t.getD 50 undef, t.getD 51 undef, t.getD 52 undef, t.getD 53 undef, t.getD 54 undef, t.getD 55 undef, t.getD 56 undef, t.getD 57 undef, t.getD 58 undef, t.getD 59 undef, t.getD 60 undef, t.getD 61 undef, t.getD 62 undef, t.getD 63 undef, t.getD 64 undef, t.getD 65 undef, t.getD 66 undef, t.getD 67 undef, t.getD 68 undef, t.getD 69 undef, t.getD 70 undef, t.getD 71 undef, t.getD 72 undef, t.getD 73 undef, t.getD 74 undef, t.getD 75 undef, t.getD 76 undef, t.getD 77 undef, t.getD 78 undef, t.getD 79 undef, t.getD 80 undef, t.getD 81 undef, t.getD 82 undef, t.getD 83 undef, t.getD 84 undef, t.getD 85 undef, t.getD 86 undef, t.getD 87 undef, t.getD 88 undef, t.getD 89 undef, t.getD 90 undef, t.getD 91 undef, t.getD 92 undef, t.getD 93 undef, t.getD 94 undef, t.getD 95 undef, t.getD 96 undef, t.getD 97 undef, t.getD 98 undef, t.getD 99 undef, t.getD 100 undef, t.getD 101 undef, t.getD 102 undef, t.getD 103 undef, t.getD 104 undef, t.getD 105 undef, t.getD 106 undef, t.getD 107 undef, t.getD 108 undef, t.getD 109 undef, t.getD 110 undef, t.getD 111 undef, t.getD 112 undef, t.getD 113 undef, t.getD 114 undef, t.getD 115 undef, t.getD 116 undef, t.getD 117 undef, t.getD 118 undef, t.getD 119 undef, t.getD 120 undef, t.getD 121 undef, t.getD 122 undef, t.getD 123 undef, t.getD 124 undef, t.getD 125 undef, t.getD 126 undef, t.getD 127 undef, t.getD 128 undef, t.getD 129 undef, t.getD 130 undef, t.getD 131 undef, t.getD 132 undef, t.getD 133 undef, t.getD 134 undef, t.getD 135 undef, t.getD 136 undef, t.getD 137 undef, t.getD 138 undef, t.getD 139 undef, t.getD 140 undef, t.getD 141 undef, t.getD 142 undef, t.getD 143 undef, t.getD 144 undef, t.getD 145 undef, t.getD 146 undef, t.getD 147 undef, t.getD 148 undef, t.getD 149 undef, t.getD 150 undef, t.getD 151 undef, t.getD 152 undef, t.getD 153 undef, t.getD 154 undef, t.getD 155 undef, t.getD 156 undef, t.getD 157 undef, t.getD 158 undef, t.getD 159 undef, t.getD 160 undef, t.getD 161 undef, t.getD 162 undef, t.getD 163 undef, t.getD 164 undef, t.getD 165 undef, t.getD 166 undef, t.getD 167 undef, t.getD 168 undef, t.getD 169 undef, t.getD 170 undef, t.getD 171 undef, t.getD 172 undef, t.getD 173 undef, t.getD 174 undef, t.getD 175 undef, t.getD 176 undef, t.getD 177 undef, t.getD 178 undef, t.getD 179 undef, t.getD 180 undef, t.getD 181 undef, t.getD 182 undef, t.getD 183 undef, t.getD 184 undef, t.getD 185 undef, t.getD 186 undef, t.getD 187 undef, t.getD 188 undef, t.getD 189 undef, t.getD 190 undef, t.getD 191 undef, t.getD 192 undef, t.getD 193 undef, t.getD 194 undef, t.getD 195 undef, t.getD 196 undef, t.getD 197 undef, t.getD 198 undef, t.getD 199 undef, t.getD 200 undef, t.getD 201 undef, t.getD 202 undef, t.getD 203 undef, t.getD 204 undef, t.getD 205 undef, t.getD 206 undef, t.getD 207 undef, t.getD 208 undef, t.getD 209 undef, t.getD 210 undef, t.getD 211 undef, t.getD 212 undef, t.getD 213 undef, t.getD 214 undef, t.getD 215 undef, t.getD 216 undef, t.getD 217 undef, t.getD 218 undef, t.getD 219 undef, t.getD 220 undef, t.getD 221 undef, t.getD 222 undef, t.getD 223 undef, t.getD 224 undef, t.getD 225 undef, t.getD 226 undef, t.getD 227 undef, t.getD 228 undef, t.getD 229 undef, t.getD 230 undef, t.getD 231 undef, t.getD 232 undef, t.getD 233 undef, t.getD 234 undef, t.getD 235 undef, t.getD 236 undef, t.getD 237 undef, t.getD 238 undef, t.getD 239 undef, t.getD 240 undef, t.getD 241 undef, t.getD 242 undef, t.getD 243 undef, t.getD 244 undef, t.getD 245 undef, t.getD 246 undef, t.getD 247 undef, t.getD 248 undef, t.getD 249 undef, t.getD 250 undef, t.getD 251 undef, t.getD 252 undef, t.getD 253 undef, t.getD 254 undef, t.getD 255 undef, t.getD 256 undef, t.getD 257 undef, t.getD 258 undef, t.getD 259 undef, t.getD 260 undef, t.getD 261 undef, t.getD 262 undef, t.getD 263 undef, t.getD 264 undef, t.getD 265 undef, t.getD 266 undef, t.getD 267 undef, t.getD 268 undef, t.getD 269 undef, t.getD 270 undef, t.getD 271 undef, t.getD 272 undef, t.getD 273 undef, t.getD 274 undef, t.getD 275 undef, t.getD 276 undef, t.getD 277 undef, t.getD 278 undef, t.getD 279 undef, t.getD 280 undef, t.getD 281 undef, t.getD 282 undef, t.getD 283 undef, t.getD 284 undef, t.getD 285 undef, t.getD 286 undef, t.getD 287 undef, t.getD 288 undef, t.getD 289 undef, t.getD 290 undef, t.getD 291 undef, t.getD 292 undef, t.getD 293 undef, t.getD 294 undef, t.getD 295 undef, t.getD 296 undef, t.getD 297 undef, t.getD 298 undef, t.getD 299 undef, t.getD 300 undef, t.getD 301 undef, t.getD 302 undef, t.getD 303 undef, t.getD 304 undef, t.getD 305 undef, t.getD 306 undef, t.getD 307 undef, t.getD 308 undef, t.getD 309 undef, t.getD 310 undef, t.getD 311 undef, t.getD 312 undef, t.getD 313 undef, t.getD 314 undef, t.getD 315 undef, t.getD 316 undef, t.getD 317 undef, t.getD 318 undef, t.getD 319 undef, t.getD 320 undef, t.getD 321 undef, t.getD 322 undef, t.getD 323 undef, t.getD 324 undef, t.getD 325 undef, t.getD 326 undef, t.getD 327 undef, t.getD 328 undef, t.getD 329 undef, t.getD 330 undef, t.getD 331 undef, t.getD 332 undef, t.getD 333 undef, t.getD 334 undef, t.getD 335 undef, t.getD 336 undef, t.getD 337 undef, t.getD 338 undef] := (range_frame t 339 h).trans (by kernel_rfl)
set_option maxRecDepth 100000 in
theorem frameOne (t : Array Value) (h : t.size = 339) (x0 x3 x4 x5 x6 x7 : Value) (h0 : t.getD 0 undef = x0) (h3 : t.getD 3 undef = x3) (h4 : t.getD 4 undef = x4) (h5 : t.getD 5 undef = x5) (h6 : t.getD 6 undef = x6) (h7 : t.getD 7 undef = x7) :
    ∃ v : Nat → Value, t = #[x0, v 1, v 2, x3, x4, x5, x6, x7, v 8, v 9, v 10, v 11, v 12, v 13, v 14, v 15, v 16, v 17, v 18, v 19, v 20, v 21, v 22, v 23, v 24, v 25, v 26, v 27, v 28, v 29, v 30, v 31, v 32, v 33, v 34, v 35, v 36, v 37, v 38, v 39, v 40, v 41, v 42, v 43, v 44, v 45, v 46, v 47, v 48, v 49, v 50, v 51, v 52, v 53, v 54, v 55, v 56, v 57, v 58, v 59, v 60, v 61, v 62, v 63, v 64, v 65, v 66, v 67, v 68, v 69, v 70, v 71, v 72, v 73, v 74, v 75, v 76, v 77, v 78, v 79, v 80, v 81, v 82, v 83, v 84, v 85, v 86, v 87, v 88, v 89, v 90, v 91, v 92, v 93, v 94, v 95, v 96, v 97, v 98, v 99, v 100, v 101, v 102, v 103, v 104, v 105, v 106, v 107, v 108, v 109, v 110, v 111, v 112, v 113, v 114, v 115, v 116, v 117, v 118, v 119, v 120, v 121, v 122, v 123, v 124, v 125, v 126, v 127, v 128, v 129, v 130, v 131, v 132, v 133, v 134, v 135, v 136, v 137, v 138, v 139, v 140, v 141, v 142, v 143, v 144, v 145, v 146, v 147, v 148, v 149, v 150, v 151, v 152, v 153, v 154, v 155, v 156, v 157, v 158, v 159, v 160, v 161, v 162, v 163, v 164, v 165, v 166, v 167, v 168, v 169, v 170, v 171, v 172, v 173, v 174, v 175, v 176, v 177, v 178, v 179, v 180, v 181, v 182, v 183, v 184, v 185, v 186, v 187, v 188, v 189, v 190, v 191, v 192, v 193, v 194, v 195, v 196, v 197, v 198, v 199, v 200, v 201, v 202, v 203, v 204, v 205, v 206, v 207, v 208, v 209, v 210, v 211, v 212, v 213, v 214, v 215, v 216, v 217, v 218, v 219, v 220, v 221, v 222, v 223, v 224, v 225, v 226, v 227, v 228, v 229, v 230, v 231, v 232, v 233, v 234, v 235, v 236, v 237, v 238, v 239, v 240, v 241, v 242, v 243, v 244, v 245, v 246, v 247, v 248, v 249, v 250, v 251, v 252, v 253, v 254, v 255, v 256, v 257, v 258, v 259, v 260, v 261, v 262, v 263, v 264, v 265, v 266, v 267, v 268, v 269, v 270, v 271, v 272, v 273, v 274, v 275, v 276, v 277, v 278, v 279, v 280, v 281, v 282, v 283, v 284, v 285, v 286, v 287, v 288, v 289, v 290, v 291, v 292, v 293, v 294, v 295, v 296, v 297, v 298, v 299, v 300, v 301, v 302, v 303, v 304, v 305, v 306, v 307, v 308, v 309, v 310, v 311, v 312, v 313, v 314, v 315, v 316, v 317, v 318, v 319, v 320, v 321, v 322, v 323, v 324, v 325, v 326, v 327, v 328, v 329, v 330, v 331, v 332, v 333, v 334, v 335, v 336, v 337, v 338] := by
  refine ⟨fun k => t.getD k undef, ?_⟩
  subst h0 h3 h4 h5 h6 h7
  exact frame339 t h
/-- What holds at each round of LockOne. -/
structure OneL (w0 : World) (A : Option Addr) (ln lc fb mb ab : Nat) (a : Act) (w : World) : Prop where
  df : a.defers = []
  sz : a.tmps.size = 339
  s0 : a.tmps.getD 0 undef = .slice A ln lc
  s3 : a.tmps.getD 3 undef = .pointer (some ⟨fb, 0, none⟩)
  s4 : a.tmps.getD 4 undef = .pointer (some ⟨ab, 0, none⟩)
  ex : ∃ (i n e : Nat) (h : Nat → Hd) (S : Fs), a.tmps.getD 5 undef = .int .i64 n ∧ a.tmps.getD 6 undef = .int .i64 e ∧ a.tmps.getD 7 undef = .int .i64 i ∧ i ≤ 300 ∧ n ≤ 63 * i ∧ e ≤ i ∧ OneI S e h ∧ OneAt w0 w fb mb ab S h (2 * i)
def firstLoop : Code → Option Code
  | .loop c => some c
  | .seq a b => match firstLoop a with
    | some c => some c
    | none => firstLoop b
  | .block _ c => firstLoop c
  | .scope c => firstLoop c
  | .cond _ a b => match firstLoop a with
    | some c => some c
    | none => firstLoop b
  | _ => none
/-- The body of LockOne's loop. -/
noncomputable def oneBody : Code := ((Tryz.f5.body.bind firstLoop).getD .skip)
def oneMu (a : Act) (_ : World) : Nat := 301 - (intOf (a.tmps.getD 7 undef)).toNat
/-- What stands at the beginning of a round. -/
structure Arm (w0 : World) (ad : Addr) (ln lc fb mb ab : Nat) (t : Array Value) (wr : World) (i n e : Nat) (h : Nat → Hd) (S : Fs) (x : Int) (p j r : Nat) : Prop where
  sz : t.size = 339
  s0 : t.getD 0 undef = .slice (some ad) ln lc
  s3 : t.getD 3 undef = .pointer (some ⟨fb, 0, none⟩)
  s4 : t.getD 4 undef = .pointer (some ⟨ab, 0, none⟩)
  s5 : t.getD 5 undef = .int .i64 n
  s6 : t.getD 6 undef = .int .i64 e
  s7 : t.getD 7 undef = .int .i64 i
  hi : i < 300
  hlen : i < ln
  hn : n ≤ 63 * i
  he : e ≤ i
  I : OneI S e h
  H : OneAt w0 wr fb mb ab S h (2 * i)
  hc : ∀ W, Below w0.heap.size w0 W → W.cell? (ad.add i) = some (.int .i64 x)
  hp : Go.bits .and .i64 (x / 16) 255 = (p : Int)
  hpj : (p : Int) % 3 = (j : Int)
  hj : j < 3
  hr : Go.bits .and .i64 x 15 = (r : Int)
  hr1 : r < 16
/-- What a round is to come to. -/
def OneQ (w0 : World) (ad : Addr) (ln lc fb mb ab : Nat) (t : Array Value) (wr : World) (Q0 : Exit → Act → World → Prop) : Exit → Act → World → Prop :=
  Exit.then (fun a' w'' => OneL w0 (some ad) ln lc fb mb ab a' w'' ∧ oneMu a' w'' < oneMu ⟨t, []⟩ wr) Q0
end Go.Proofs.YtahdeighocmijaaGreatDoor
