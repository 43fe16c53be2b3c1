/- Locks: three hands: a step of one who writes (plain). -/
import Derived.Test.YtahdeighocmijaaGreatDoorLOneT
namespace Go.Proofs.YtahdeighocmijaaGreatDoor
set_option linter.unusedSimpArgs false
set_option linter.unusedVariables false
open Go.RowKit
open Crc (Bytes)
open Cod (six held)
/-- What a step of one who writes comes to. -/
structure WriteD (S : Fs) (e : Int) (h : Nat → Hd) (j wb : Nat) (k : Int) (wk' : Wk) (S' : Fs) : Prop where
  or_ : (k = 0 ∧ OneI S' e (hset h j { h j with w := some (wb, wk') })) ∨
    (k = 2 ∧ wk'.at_ = 5 ∧ wk'.told = 2 ∧ OneI S' e (hset h j { h j with w := none, held := false })) ∨
    (k = 1 ∧ S.st nmC = (h j).gs ∧ wk'.at_ = 5 ∧ wk'.told = 1 ∧ wk'.free = (h j).free ∧ wk'.gs = S'.st nmC ∧ wk'.l.epoch = (h j).l.epoch ∧
      ((h j).free = true → OneI S' e (hset h j { h j with w := none, held := false })) ∧ ((h j).free = false → OneI S' e (hset h j { h j with w := none, gn := wk'.gn, gs := wk'.gs, l := wk'.l, held := true })))
theorem tempW {h : Hd} (ht : h.t = none) (wb : Nat) (wk : Wk) : ({ h with w := some (wb, wk) } : Hd).tempO = if wk.at_ = 3 ∨ wk.at_ = 4 then some (wk.temp, wk.l.bytes) else none := by
  unfold Hd.tempO; simp only [ht]
theorem temp_noneW {h : Hd} (ht : h.t = none) (gn : ByteArray) (gs : Int) (l : Lk) (held : Bool) : ({ h with w := none, gn := gn, gs := gs, l := l, held := held } : Hd).tempO = none := by
  unfold Hd.tempO; simp only [ht]
theorem wgone_hd {C : Option (List Int × Int)} {last e : Int} {j : Nat} {h : Hd} (ht : h.t = none) : HdOk C last e j { h with w := none, held := false } :=
  ⟨fun x hx => (by have : h.t = some x := hx; rw [ht] at this; cases this), fun x hx => (by cases hx), fun hx => (by cases hx)⟩
theorem whave_hd {C : Option (List Int × Int)} {last e : Int} {j : Nat} {h : Hd} {gs : Int} {l : Lk} (ht : h.t = none) (hg : Gd C last e gs l.epoch) (h1 : l.who = j) (h2 : l.inc = 1) (h3 : 0 ≤ l.epoch) (h4 : l.epoch ≤ e) (h5 : Till l.till) : HdOk C last e j { h with w := none, gn := nmC, gs := gs, l := l, held := true } :=
  ⟨fun x hx => (by have : h.t = some x := hx; rw [ht] at this; cases this), fun x hx => (by cases hx), fun _ => ⟨rfl, hg, h1, h2, h3, h4, h5⟩⟩
theorem write_hd {C : Option (List Int × Int)} {last last' e : Int} {j wb : Nat} {h : Hd} {wk : Wk} (k : HdOk C last e j h) (hk : WkOk j h wk) (ht : h.t = none) (hh : h.held = true) (hl : last ≤ last') : HdOk C last' e j { h with w := some (wb, wk) } := by
  refine ⟨fun x hx => (by have : h.t = some x := hx; rw [ht] at this; cases this), fun x hx => (by cases hx; exact ⟨⟨hk.gn, hk.gs, hk.epoch, hk.who, hk.inc, hk.till, hk.temp, hk.free, hk.ph⟩, ht, hh⟩), fun _ => ?_⟩
  obtain ⟨a, b, c⟩ := k.hd hh
  exact ⟨a, b.keep hl, c⟩
theorem one_write {S : Fs} {e : Int} {h : Nat → Hd} (I : OneI S e h) {j wb : Nat} (hj : j < 3) {wk : Wk} (hw : (h j).w = some (wb, wk)) (he : e ≤ 299) :
    wk.temp.size ≤ 1000 ∧ wk.gn.size ≤ 1000 ∧ (wk.at_ = 2 ∨ wk.at_ = 3 ∨ wk.at_ = 4) ∧ ∃ k wk' S', stepW S wk = (k, wk', S') ∧ WriteD S e h j wb k wk' S' := by
  obtain ⟨C, hc, ce, ho⟩ := I.ex
  obtain ⟨hk, ht, hh⟩ := (ho j hj).wk _ hw
  obtain ⟨g1, g2, g3, g4, g5, g6, g7⟩ := (ho j hj).hd hh
  simp only at hk
  have e0 := I.e0
  obtain ⟨cc, hcc, htm⟩ := hk.temp
  refine ⟨by rw [htm]; exact tmp_size _ _ _, by rw [hk.gn]; decide, hk.ph, ?_⟩
  have hto : (h j).tempO = if wk.at_ = 3 ∨ wk.at_ = 4 then some (wk.temp, wk.l.bytes) else none := by unfold Hd.tempO; rw [ht, hw]
  have hother : ∀ {l' : Int}, S.last ≤ l' → ∀ k, k < 3 → k ≠ j → HdOk C l' e k (h k) := fun hl k hk3 _ => (ho k hk3).keep hl
  rcases hk.ph with a | a | a
  · have htn : (h j).tempO = none := by rw [hto, if_neg (by omega)]
    obtain ⟨p1, p2⟩ := hc.put hj hcc htn (b := wk.l.bytes) (Lk.bytes_len _)
    refine ⟨0, { wk with at_ := 3 }, S.write wk.temp wk.l.bytes, by unfold stepW; rw [if_pos a, htm, p1, if_pos rfl], ⟨.inl ⟨rfl, ?_⟩⟩⟩
    exact OneI.set (by rw [tempW ht, if_pos (.inl rfl)]; show Core _ _ (updT _ j (some (wk.temp, wk.l.bytes))); rw [htm]; exact p2) ce (write_hd (ho j hj) ⟨hk.gn, hk.gs, hk.epoch, hk.who, hk.inc, hk.till, hk.temp, hk.free, .inr (.inl rfl)⟩ ht hh (by show S.last ≤ S.last + 1; omega)) (hother (by show S.last ≤ S.last + 1; omega)) e0
  · have htn : (h j).tempO = some (wk.temp, wk.l.bytes) := by rw [hto, if_pos (.inl a)]
    have hl0 := hc.l0
    by_cases hq : ∃ cb, C = some (cb, wk.gs)
    · obtain ⟨cb, rfl⟩ := hq
      obtain ⟨m1, m2⟩ := hc.move hj htn
      have hep : (h j).l.epoch = e := g2.2.2 cb (by rw [hk.gs])
      have hbd : 0 ≤ wk.l.who ∧ wk.l.who ≤ 10 ∧ 0 ≤ wk.l.inc ∧ wk.l.inc ≤ 10 ∧ Till wk.l.till := by
        have := hk.who; have := hk.inc
        exact ⟨by omega, by omega, by omega, by omega, hk.till⟩
      refine ⟨1, Wk.end_ { wk with gs := S.last + 1 } 1, (S.gone wk.temp).write nmC wk.l.bytes, by rw [stepW_3 a, hk.gn, m1, if_neg (by simp)], ⟨.inr (.inr ⟨rfl, ?_, rfl, rfl, hk.free, ?_, hk.epoch, fun _ => ?_, fun _ => ?_⟩)⟩⟩
      · rw [← hk.gs]; exact (by_of hc.c).2.1
      · exact (by_of (wr_same (S.gone wk.temp) nmC wk.l.bytes)).2.1.symm
      · exact OneI.set (by rw [show ({ h j with w := none, held := false } : Hd).tempO = none from temp_noneW ht _ _ _ _]; exact m2) (.inr ⟨wk.l, _, rfl, hk.epoch.trans hep, hbd⟩) (wgone_hd ht) (fun k hk3 _ => (ho k hk3).turn (st := S.last + 1) (by omega) (Int.le_refl _) (Int.le_refl _)) e0
      · show OneI ((S.gone wk.temp).write nmC wk.l.bytes) e (hset h j { h j with w := none, gn := wk.gn, gs := S.last + 1, l := wk.l, held := true })
        rw [hk.gn]
        have hwe := hk.epoch
        exact OneI.set (by rw [temp_noneW ht]; exact m2) (.inr ⟨wk.l, _, rfl, hk.epoch.trans hep, hbd⟩) (whave_hd ht ⟨by omega, Int.le_refl _, fun _ _ => hk.epoch.trans hep⟩ hk.who hk.inc (by omega) (by omega) hk.till) (fun k hk3 _ => (ho k hk3).turn (st := S.last + 1) (by omega) (Int.le_refl _) (Int.le_refl _)) e0
    · have m1 := hc.lost hj htn (q := wk.gs) (fun cb hC => hq ⟨cb, hC⟩)
      refine ⟨0, { wk with at_ := 4 }, S, by rw [stepW_3 a, hk.gn, m1, if_pos (by simp)], ⟨.inl ⟨rfl, ?_⟩⟩⟩
      exact OneI.set (by rw [tempW ht, if_pos (.inr rfl), updT_id htn]; exact hc) ce (write_hd (ho j hj) ⟨hk.gn, hk.gs, hk.epoch, hk.who, hk.inc, hk.till, hk.temp, hk.free, .inr (.inr rfl)⟩ ht hh (Int.le_refl _)) (hother (Int.le_refl _)) e0
  · have htn : (h j).tempO = some (wk.temp, wk.l.bytes) := by rw [hto, if_pos (.inr a)]
    obtain ⟨q1, q2⟩ := hc.gone hj htn
    refine ⟨2, wk.end_ 2, S.gone wk.temp, by rw [stepW_4 a, q1], ⟨.inr (.inl ⟨rfl, rfl, rfl, ?_⟩)⟩⟩
    exact OneI.set (by rw [show ({ h j with w := none, held := false } : Hd).tempO = none from temp_noneW ht _ _ _ _]; exact q2) ce (wgone_hd ht) (hother (Int.le_refl _)) e0
/-- One who begins to take can have but what is there. -/
theorem take_new {S S' : Fs} {e : Int} {h : Nat → Hd} (I : OneI S e h) {tk tk' : Tk} {k now : Int} (ha : tk.at_ = 0) (hs : stepT now S tk = (k, tk', S')) (hm : S'.m nmC.data.toList = some (tk'.l.bytes, tk'.gs)) (ho : openLk tk'.l.bytes = some tk'.l) (he : e ≤ 299) : tk'.l.epoch = e := by
  rw [stepT_0 ha] at hs
  have hS : S = S' := (Prod.mk.inj (Prod.mk.inj hs).2).2
  subst hS
  obtain ⟨C, hc, ce, _⟩ := I.ex
  have e0 := I.e0
  rcases ce with ⟨hC, _⟩ | ⟨L, st, hC, hL, hb⟩
  · have := hc.c.symm.trans hm; rw [hC] at this; cases this
  · have h1 := hc.c.symm.trans hm
    rw [hC] at h1
    have h1 := (Prod.mk.inj (Option.some.inj h1)).1
    have h2 := ce_open (by omega) hL e0 hb
    rw [h1, ho] at h2
    rw [Option.some.inj h2]; exact hL
/-- One who begins to write works. -/
theorem write_new {S S' : Fs} {wk wk' : Wk} {k : Int} (ha : wk.at_ = 2) (hs : stepW S wk = (k, wk', S')) (hk : k = 0 ∨ k = 1 ∨ k = 2) : k = 0 := by
  unfold stepW at hs
  rw [if_pos ha] at hs
  by_cases hq : (S.putF wk.temp wk.l.bytes).1.2 = 0
  · rw [if_pos hq] at hs
    exact (Prod.mk.inj hs).1.symm
  · rw [if_neg hq] at hs
    have h1 := (Prod.mk.inj hs).1
    unfold failQ at h1
    by_cases h2 : (S.putF wk.temp wk.l.bytes).1.2 = 2
    · rw [if_pos h2] at h1; omega
    · rw [if_neg h2] at h1; omega
theorem one_held {S : Fs} {e : Int} {h : Nat → Hd} (I : OneI S e h) {j : Nat} (hj : j < 3) (hh : (h j).held = true) : (h j).l.who = j ∧ (h j).l.inc = ((1 : Nat) : Int) ∧ Till (h j).l.till := by
  obtain ⟨C, _, _, ho⟩ := I.ex
  obtain ⟨_, _, a, b, _, _, c⟩ := (ho j hj).hd hh
  exact ⟨a, b, c⟩
end Go.Proofs.YtahdeighocmijaaGreatDoor
