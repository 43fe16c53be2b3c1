/- Locks: three hands: what each step keeps (plain). -/
import Derived.Test.YtahdeighocmijaaGreatDoorLOneP
namespace Go.Proofs.YtahdeighocmijaaGreatDoor
set_option linter.unusedSimpArgs false
set_option linter.unusedVariables false
open Go.RowKit
open Crc (Bytes)
open Cod (six held)
/-- One who takes, frees, renews. -/
structure Hd where
  t : Option (Nat × Tk)
  w : Option (Nat × Wk)
  free : Bool
  gn : ByteArray
  gs : Int
  l : Lk
  held : Bool
def hd0 : Hd := ⟨none, none, false, ⟨#[]⟩, 0, lk0, false⟩
def Hd.tempO (h : Hd) : Option (ByteArray × List Int) := match h.t with
  | some x => if x.2.at_ = 3 ∨ x.2.at_ = 4 then some (x.2.temp, x.2.l.bytes) else none
  | none => match h.w with
    | some x => if x.2.at_ = 3 ∨ x.2.at_ = 4 then some (x.2.temp, x.2.l.bytes) else none
    | none => none
/-- A guard: if it holds, the epoch is the law's. -/
def Gd (C : Option (List Int × Int)) (last e gs ep : Int) : Prop := 1 ≤ gs ∧ gs ≤ last ∧ (∀ b, C = some (b, gs) → ep = e)
def Till (x : Int) : Prop := 0 ≤ x ∧ x ≤ 100000
structure TkOk (C : Option (List Int × Int)) (last e : Int) (j : Nat) (tk : Tk) : Prop where
  file : tk.file = nmC
  temp : tk.temp = tmpOf j 1 3
  who : tk.who = j
  inc : tk.inc = 1
  lease : tk.lease = 40
  gn : tk.gn.size ≤ 1000
  ph : tk.at_ = 0 ∨ tk.at_ = 1 ∨ (tk.at_ = 2 ∧ tk.gn = nmC ∧ Gd C last e tk.gs tk.l.epoch ∧ 0 ≤ tk.l.epoch ∧ tk.l.epoch ≤ e) ∨
    (tk.at_ = 3 ∧ tk.gn = nmC ∧ Gd C last e tk.gs (tk.l.epoch - 1) ∧ tk.l.who = j ∧ tk.l.inc = 1 ∧ 1 ≤ tk.l.epoch ∧ tk.l.epoch ≤ e + 1 ∧ Till tk.l.till) ∨ tk.at_ = 4
structure WkOk (j : Nat) (h : Hd) (wk : Wk) : Prop where
  gn : wk.gn = nmC
  gs : wk.gs = h.gs
  epoch : wk.l.epoch = h.l.epoch
  who : wk.l.who = j
  inc : wk.l.inc = 1
  till : Till wk.l.till
  temp : ∃ c, c < 6 ∧ wk.temp = tmpOf j 1 c
  free : wk.free = h.free
  ph : wk.at_ = 2 ∨ wk.at_ = 3 ∨ wk.at_ = 4
structure HdOk (C : Option (List Int × Int)) (last e : Int) (j : Nat) (h : Hd) : Prop where
  tk : ∀ x, h.t = some x → TkOk C last e j x.2 ∧ h.w = none ∧ h.held = false
  wk : ∀ x, h.w = some x → WkOk j h x.2 ∧ h.t = none ∧ h.held = true
  hd : h.held = true → h.gn = nmC ∧ Gd C last e h.gs h.l.epoch ∧ h.l.who = j ∧ h.l.inc = 1 ∧ 0 ≤ h.l.epoch ∧ h.l.epoch ≤ e ∧ Till h.l.till
def hset (h : Nat → Hd) (j : Nat) (x : Hd) : Nat → Hd := fun k => if k = j then x else h k
theorem hset_same (h : Nat → Hd) (j : Nat) (x : Hd) : hset h j x j = x := by unfold hset; rw [if_pos rfl]
theorem hset_other {h : Nat → Hd} {j k : Nat} {x : Hd} (hk : k ≠ j) : hset h j x k = h k := by unfold hset; rw [if_neg hk]
theorem hset_temp (h : Nat → Hd) (j : Nat) (x : Hd) : (fun k => (hset h j x k).tempO) = updT (fun k => (h k).tempO) j x.tempO := by
  funext k
  by_cases hk : k = j
  · subst hk; rw [hset_same, updT_same]
  · rw [hset_other hk, updT_other hk]
/-- The claim's bytes. -/
def CE (C : Option (List Int × Int)) (e : Int) : Prop := (C = none ∧ e = 0) ∨ ∃ L st, C = some (Lk.bytes L, st) ∧ L.epoch = e ∧ 0 ≤ L.who ∧ L.who ≤ 10 ∧ 0 ≤ L.inc ∧ L.inc ≤ 10 ∧ Till L.till
structure OneI (S : Fs) (e : Int) (h : Nat → Hd) : Prop where
  ex : ∃ C, Core S C (fun k => (h k).tempO) ∧ CE C e ∧ ∀ j, j < 3 → HdOk C S.last e j (h j)
  e0 : 0 ≤ e
section
variable {C : Option (List Int × Int)} {last last' e e' : Int} {j : Nat}
theorem Gd.keep {gs ep : Int} (h : Gd C last e gs ep) (hl : last ≤ last') : Gd C last' e gs ep := ⟨h.1, by have := h.2.1; omega, h.2.2⟩
theorem Gd.turn {gs ep st : Int} {b : List Int} (h : Gd C last e gs ep) (h1 : last < st) (h2 : st ≤ last') : Gd (some (b, st)) last' e' gs ep :=
  ⟨h.1, by have := h.2.1; omega, fun b' hb => by injection hb with hb; injection hb with _ hb; have := h.2.1; omega⟩
theorem TkOk.keep {tk : Tk} (h : TkOk C last e j tk) (hl : last ≤ last') : TkOk C last' e j tk := by
  refine ⟨h.file, h.temp, h.who, h.inc, h.lease, h.gn, ?_⟩
  rcases h.ph with a | a | ⟨a, b, c, d⟩ | ⟨a, b, c, d⟩ | a
  · exact .inl a
  · exact .inr (.inl a)
  · exact .inr (.inr (.inl ⟨a, b, c.keep hl, d⟩))
  · exact .inr (.inr (.inr (.inl ⟨a, b, c.keep hl, d⟩)))
  · exact .inr (.inr (.inr (.inr a)))
theorem TkOk.turn {tk : Tk} {st : Int} {b : List Int} (h : TkOk C last e j tk) (h1 : last < st) (h2 : st ≤ last') (h3 : e ≤ e') : TkOk (some (b, st)) last' e' j tk := by
  refine ⟨h.file, h.temp, h.who, h.inc, h.lease, h.gn, ?_⟩
  rcases h.ph with a | a | ⟨a, b, c, d, d2⟩ | ⟨a, b, c, d1, d2, d3, d4, d5⟩ | a
  · exact .inl a
  · exact .inr (.inl a)
  · exact .inr (.inr (.inl ⟨a, b, c.turn h1 h2, d, by omega⟩))
  · exact .inr (.inr (.inr (.inl ⟨a, b, c.turn h1 h2, d1, d2, d3, by omega, d5⟩)))
  · exact .inr (.inr (.inr (.inr a)))
theorem HdOk.keep {h : Hd} (k : HdOk C last e j h) (hl : last ≤ last') : HdOk C last' e j h :=
  ⟨fun x hx => ⟨(k.tk x hx).1.keep hl, (k.tk x hx).2⟩, k.wk, fun hh => by obtain ⟨a, b, c⟩ := k.hd hh; exact ⟨a, b.keep hl, c⟩⟩
theorem HdOk.turn {h : Hd} {st : Int} {b : List Int} (k : HdOk C last e j h) (h1 : last < st) (h2 : st ≤ last') (h3 : e ≤ e') : HdOk (some (b, st)) last' e' j h :=
  ⟨fun x hx => ⟨(k.tk x hx).1.turn h1 h2 h3, (k.tk x hx).2⟩, k.wk, fun hh => by obtain ⟨a, b, c, d, d1, d2, d3⟩ := k.hd hh; exact ⟨a, b.turn h1 h2, c, d, d1, by omega, d3⟩⟩
end
theorem OneI.start : OneI (fs0 1048576) 0 (fun _ => hd0) :=
  ⟨⟨none, ⟨rfl, (fun j n b _ h => by cases h), (fun key _ h => absurd rfl h), (fun j n b _ h => by cases h), rfl, rfl, Int.le_refl _, rfl, (fun x h => by cases h)⟩, .inl ⟨rfl, rfl⟩, fun j _ => ⟨(fun x h => by cases h), (fun x h => by cases h), (fun h => by cases h)⟩⟩, Int.le_refl _⟩
theorem Till.of {x : Int} (h0 : 0 ≤ x) (h1 : x ≤ 100000) : Till x := ⟨h0, h1⟩
theorem ce_open {L : Lk} {e : Int} (he : e ≤ 300) (h1 : L.epoch = e) (h0 : 0 ≤ e) (a : 0 ≤ L.who ∧ L.who ≤ 10 ∧ 0 ≤ L.inc ∧ L.inc ≤ 10 ∧ Till L.till) : openLk L.bytes = some L :=
  openLk_bytes (lk_small ⟨a.1, by omega⟩ ⟨a.2.2.1, by omega⟩ ⟨by omega, by omega⟩ ⟨a.2.2.2.2.1, by have := a.2.2.2.2.2; omega⟩)
/-- A hand that begins to take. -/
theorem OneI.newT {S : Fs} {e : Int} {h : Nat → Hd} (I : OneI S e h) {j : Nat} (hj : j < 3) (tb : Nat) (ht : (h j).t = none) (hw : (h j).w = none) (hh : (h j).held = false) :
    OneI S e (hset h j { h j with t := some (tb, tk0 nmC (tmpOf j 1 3) j 1 40) }) := by
  obtain ⟨C, hc, ce, ho⟩ := I.ex
  refine ⟨⟨C, ?_, ce, fun k hk => ?_⟩, I.e0⟩
  · rw [hset_temp]
    have : updT (fun k => (h k).tempO) j (Hd.tempO { h j with t := some (tb, tk0 nmC (tmpOf j 1 3) j 1 40) }) = fun k => (h k).tempO := by
      funext k
      by_cases hkj : k = j
      · subst hkj; rw [updT_same]; unfold Hd.tempO; rw [ht, hw]; rfl
      · rw [updT_other hkj]
    rw [this]; exact hc
  · by_cases hkj : k = j
    · subst hkj; rw [hset_same]
      refine ⟨fun x hx => ?_, fun x hx => ?_, fun hx => ?_⟩
      · cases hx; exact ⟨⟨rfl, rfl, rfl, rfl, rfl, by show (⟨#[]⟩ : ByteArray).size ≤ 1000; decide, .inl rfl⟩, hw, hh⟩
      · have : (h k).w = some x := hx
        rw [hw] at this; cases this
      · have : (h k).held = true := hx
        rw [hh] at this; cases this
    · rw [hset_other hkj]; exact ho k hk
/-- A hand that begins to write. -/
theorem OneI.newW {S : Fs} {e : Int} {h : Nat → Hd} (I : OneI S e h) {j c : Nat} (hj : j < 3) (hc6 : c < 6) (wb : Nat) (free : Bool) (till : Int) (h1 : Till till) (ht : (h j).t = none) (hw : (h j).w = none) (hh : (h j).held = true) :
    OneI S e (hset h j { h j with w := some (wb, wk0 (h j).gn (h j).gs { (h j).l with till := till } (tmpOf j 1 c) free), free := free }) := by
  obtain ⟨C, hc, ce, ho⟩ := I.ex
  obtain ⟨g1, g2, g3, g4, g5, g6, g7⟩ := (ho j hj).hd hh
  refine ⟨⟨C, ?_, ce, fun k hk => ?_⟩, I.e0⟩
  · rw [hset_temp]
    have : updT (fun k => (h k).tempO) j (Hd.tempO { h j with w := some (wb, wk0 (h j).gn (h j).gs { (h j).l with till := till } (tmpOf j 1 c) free), free := free }) = fun k => (h k).tempO := by
      funext k
      by_cases hkj : k = j
      · subst hkj; rw [updT_same]; unfold Hd.tempO; rw [ht, hw]; rfl
      · rw [updT_other hkj]
    rw [this]; exact hc
  · by_cases hkj : k = j
    · subst hkj; rw [hset_same]
      refine ⟨fun x hx => ?_, fun x hx => ?_, fun _ => ⟨g1, g2, g3, g4, g5, g6, g7⟩⟩
      · have : (h k).t = some x := hx
        rw [ht] at this; cases this
      · cases hx; exact ⟨⟨g1, rfl, rfl, g3, g4, h1, ⟨c, hc6, rfl⟩, rfl, .inl rfl⟩, ht, hh⟩
    · rw [hset_other hkj]; exact ho k hk
end Go.Proofs.YtahdeighocmijaaGreatDoor
