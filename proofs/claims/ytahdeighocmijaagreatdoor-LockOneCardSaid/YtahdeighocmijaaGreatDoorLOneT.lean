/- Locks: three hands: a step of one who takes (plain). -/
import Derived.Test.YtahdeighocmijaaGreatDoorLOneI
namespace Go.Proofs.YtahdeighocmijaaGreatDoor
set_option linter.unusedSimpArgs false
set_option linter.unusedVariables false
open Go.RowKit
open Crc (Bytes)
open Cod (six held)
theorem updT_id {tp : Nat → Option (ByteArray × List Int)} {j : Nat} {v : Option (ByteArray × List Int)} (h : tp j = v) : updT tp j v = tp := by
  funext k
  by_cases hk : k = j
  · subst hk; rw [updT_same, h]
  · rw [updT_other hk]
theorem OneI.set {S' : Fs} {e' : Int} {h : Nat → Hd} {C' : Option (List Int × Int)} {j : Nat} {x : Hd} (hc : Core S' C' (updT (fun k => (h k).tempO) j x.tempO)) (ce : CE C' e') (hx : HdOk C' S'.last e' j x) (ho : ∀ k, k < 3 → k ≠ j → HdOk C' S'.last e' k (h k)) (e0 : 0 ≤ e') : OneI S' e' (hset h j x) := by
  refine ⟨⟨C', by rw [hset_temp]; exact hc, ce, fun k hk => ?_⟩, e0⟩
  by_cases hkj : k = j
  · subst hkj; rw [hset_same]; exact hx
  · rw [hset_other hkj]; exact ho k hk hkj
/-- What a step of one who takes comes to. -/
structure TakeD (S : Fs) (e : Int) (h : Nat → Hd) (j tb : Nat) (k : Int) (tk' : Tk) (S' : Fs) : Prop where
  or_ : (k = 0 ∧ OneI S' e (hset h j { h j with t := some (tb, tk') })) ∨ (k = 2 ∧ OneI S' e (hset h j { h j with t := none })) ∨
    (k = 1 ∧ tk'.at_ = 5 ∧ tk'.told = 1 ∧ tk'.gn = nmC ∧ tk'.l.who = j ∧ e ≤ tk'.l.epoch ∧ tk'.l.epoch ≤ e + 1 ∧ (tk'.l.epoch = e → S.st nmC = tk'.gs) ∧ S'.m nmC.data.toList = some (tk'.l.bytes, tk'.gs) ∧ openLk tk'.l.bytes = some tk'.l ∧
      OneI S' tk'.l.epoch (hset h j { h j with t := none, gn := tk'.gn, gs := tk'.gs, l := tk'.l, held := true }))
theorem gone_hd {C : Option (List Int × Int)} {last e : Int} {j : Nat} {h : Hd} (hw : h.w = none) (hh : h.held = false) : HdOk C last e j { h with t := none } :=
  ⟨fun x hx => (by cases hx), fun x hx => (by have : h.w = some x := hx; rw [hw] at this; cases this), fun hx => (by have : h.held = true := hx; rw [hh] at this; cases this)⟩
theorem take_hd {C : Option (List Int × Int)} {last e : Int} {j tb : Nat} {h : Hd} {tk : Tk} (hk : TkOk C last e j tk) (hw : h.w = none) (hh : h.held = false) : HdOk C last e j { h with t := some (tb, tk) } :=
  ⟨fun x hx => (by cases hx; exact ⟨hk, hw, hh⟩), fun x hx => (by have : h.w = some x := hx; rw [hw] at this; cases this), fun hx => (by have : h.held = true := hx; rw [hh] at this; cases this)⟩
theorem have_hd {C : Option (List Int × Int)} {last e : Int} {j : Nat} {h : Hd} {gs : Int} {l : Lk} (hw : h.w = none) (hg : Gd C last e gs l.epoch) (h1 : l.who = j) (h2 : l.inc = 1) (h3 : 0 ≤ l.epoch) (h4 : l.epoch ≤ e) (h5 : Till l.till) : HdOk C last e j { h with t := none, gn := nmC, gs := gs, l := l, held := true } :=
  ⟨fun x hx => (by cases hx), fun x hx => (by have : h.w = some x := hx; rw [hw] at this; cases this), fun _ => ⟨rfl, hg, h1, h2, h3, h4, h5⟩⟩
theorem tempT (h : Hd) (tb : Nat) (tk : Tk) : ({ h with t := some (tb, tk) } : Hd).tempO = if tk.at_ = 3 ∨ tk.at_ = 4 then some (tk.temp, tk.l.bytes) else none := rfl
theorem temp_none {h : Hd} (hw : h.w = none) (gn : ByteArray) (gs : Int) (l : Lk) (held : Bool) : ({ h with t := none, gn := gn, gs := gs, l := l, held := held } : Hd).tempO = none := by
  unfold Hd.tempO; simp only [hw]
theorem clamp_bd {now : Int} (h0 : 0 ≤ now) (h1 : now ≤ 30000) : Till (clampN now + 40) := by
  rw [clamp_le h0 (by omega)]; exact ⟨by omega, by omega⟩
theorem one_take {S : Fs} {e : Int} {h : Nat → Hd} (I : OneI S e h) {j tb : Nat} (hj : j < 3) {tk : Tk} (ht : (h j).t = some (tb, tk)) (now : Int) (n0 : 0 ≤ now) (n1 : now ≤ 30000) (he : e ≤ 299) :
    tk.wf ∧ (S.readF tk.file).2.1.length ≤ 100000 ∧ ∃ k tk' S', stepT now S tk = (k, tk', S') ∧ TakeD S e h j tb k tk' S' := by
  obtain ⟨C, hc, ce, ho⟩ := I.ex
  obtain ⟨hk, hw, hh⟩ := (ho j hj).tk _ ht
  simp only at hk
  have e0 := I.e0
  have hlen : (S.readF nmC).2.1.length ≤ 100000 := by
    cases hC : C with
    | none => rw [readF_none nmC_ok (hc.c.trans hC)]; decide
    | some x => rw [readF_of (l := x.1) (st := x.2) nmC_ok (hc.c.trans hC)]; have := (hc.ts x hC).2.2; show x.1.length ≤ 100000; omega
  have hwf : tk.wf := by
    refine ⟨by rw [hk.file]; decide, by rw [hk.temp]; exact tmp_size _ _ _, hk.gn, fun h2 => ?_, by rw [hk.lease]; decide, by rw [hk.lease]; decide, ?_⟩
    · rcases hk.ph with a | a | ⟨a, b, c, d, d2⟩ | ⟨a, _⟩ | a
      · omega
      · omega
      · omega
      · omega
      · omega
    · rcases hk.ph with a | a | ⟨a, _⟩ | ⟨a, _⟩ | a
      · exact .inl a
      · exact .inr (.inl a)
      · exact .inr (.inr (.inl a))
      · exact .inr (.inr (.inr (.inl a)))
      · exact .inr (.inr (.inr (.inr (.inl a))))
  refine ⟨hwf, by rw [hk.file]; exact hlen, ?_⟩
  have hto : (h j).tempO = if tk.at_ = 3 ∨ tk.at_ = 4 then some (tk.temp, tk.l.bytes) else none := by unfold Hd.tempO; rw [ht]
  have hother : ∀ {C' : Option (List Int × Int)} {l' : Int}, C' = C → S.last ≤ l' → ∀ k, k < 3 → k ≠ j → HdOk C' l' e k (h k) := fun hC hl k hk3 _ => hC ▸ (ho k hk3).keep hl
  rcases hk.ph with a | a | ⟨a, b, c, d, d2⟩ | ⟨a, b, c, d1, d2, d3, d4, d5⟩ | a
  · -- reads
    have htn : (h j).tempO = none := by rw [hto, if_neg (by omega)]
    rcases ce with ⟨hC, he0⟩ | ⟨L, st, hC, hL, hb⟩
    · refine ⟨0, { tk with at_ := 1 }, S, stepT_none a (by rw [hk.file]; exact readF_none nmC_ok (hc.c.trans hC)), ⟨.inl ⟨rfl, ?_⟩⟩⟩
      exact OneI.set (by rw [tempT, if_neg (by simp), updT_id htn]; exact hc) (.inl ⟨hC, he0⟩) (take_hd ⟨hk.file, hk.temp, hk.who, hk.inc, hk.lease, hk.gn, .inr (.inl rfl)⟩ hw hh) (hother rfl (Int.le_refl _)) e0
    · have hr : S.readF tk.file = (0, L.bytes, st) := by rw [hk.file]; exact readF_of nmC_ok (hc.c.trans hC)
      have hopen := ce_open (by omega) hL e0 hb
      have hst := hc.ts _ hC
      simp only at hst
      have hgd : Gd C S.last e st L.epoch := ⟨hst.1, hst.2.1, fun _ _ => hL⟩
      have hne : ¬ L.epoch = lkTop := by unfold lkTop; omega
      rw [stepT_0 a]
      by_cases hm : L.who = tk.who ∧ L.inc = tk.inc ∧ clampN now < L.till
      · rw [readT_look hr (l := L) (k := 2) (by rw [hopen]; unfold lookL; simp only; rw [if_neg hne, if_pos hm]), if_pos rfl]
        refine ⟨1, _, S, rfl, ⟨.inr (.inr ⟨rfl, rfl, rfl, hk.file, hm.1.trans hk.who, by show e ≤ L.epoch; omega, by show L.epoch ≤ e + 1; omega, fun _ => (by_of (hc.c.trans hC)).2.1, hc.c.trans hC, hopen, ?_⟩)⟩⟩
        show OneI S L.epoch (hset h j { h j with t := none, gn := tk.file, gs := st, l := L, held := true })
        rw [hk.file, hL]
        exact OneI.set (by rw [temp_none hw, updT_id htn]; exact hc) (.inr ⟨L, st, hC, hL, hb⟩) (have_hd hw hgd (hm.1.trans hk.who) (hm.2.1.trans hk.inc) (by omega) (by omega) hb.2.2.2.2) (hother rfl (Int.le_refl _)) e0
      · by_cases ho2 : L.till ≤ clampN now ∨ (L.who = tk.who ∧ L.inc < tk.inc)
        · rw [readT_look hr (l := L) (k := 3) (by rw [hopen]; unfold lookL; simp only; rw [if_neg hne, if_neg hm, if_pos ho2]), if_neg (by decide), if_pos rfl]
          refine ⟨0, _, S, rfl, ⟨.inl ⟨rfl, ?_⟩⟩⟩
          exact OneI.set (by rw [tempT, if_neg (by simp), updT_id htn]; exact hc) (.inr ⟨L, st, hC, hL, hb⟩) (take_hd ⟨hk.file, hk.temp, hk.who, hk.inc, hk.lease, hwf.f, .inr (.inr (.inl ⟨rfl, hk.file, hgd, by show 0 ≤ L.epoch; omega, by show L.epoch ≤ e; omega⟩))⟩ hw hh) (hother rfl (Int.le_refl _)) e0
        · rw [readT_look hr (l := L) (k := 4) (by rw [hopen]; unfold lookL; simp only; rw [if_neg hne, if_neg hm, if_neg ho2]), if_neg (by decide), if_neg (by decide), if_pos rfl]
          refine ⟨2, _, S, rfl, ⟨.inr (.inl ⟨rfl, ?_⟩)⟩⟩
          exact OneI.set (by rw [show ({ h j with t := none } : Hd).tempO = none from temp_none hw _ _ _ _, updT_id htn]; exact hc) (.inr ⟨L, st, hC, hL, hb⟩) (gone_hd hw hh) (hother rfl (Int.le_refl _)) e0
  · -- makes
    have htn : (h j).tempO = none := by rw [hto, if_neg (by omega)]
    rw [stepT_1 a]
    rcases ce with ⟨hC, he0⟩ | ⟨L, st, hC, hL, hb⟩
    · subst hC
      obtain ⟨nl, hnl⟩ : ∃ nl, tk.new now 1 = nl := ⟨_, rfl⟩
      have hnl' : nl = ⟨j, 1, 1, clampN now + 40⟩ := by rw [← hnl]; unfold Tk.new; rw [hk.who, hk.inc, hk.lease]
      have hmk : S.makeF tk.file (tk.new now 1).bytes = ((S.last + 1, 0), S.write nmC nl.bytes) := by rw [hk.file, hnl]; exact hc.make (Lk.bytes_len _)
      rw [madeT_ok hmk, hnl]
      have hw2 := hc.write (b := nl.bytes) (Lk.bytes_len _)
      have hep : nl.epoch = 1 := by rw [hnl']
      have hbd : 0 ≤ nl.who ∧ nl.who ≤ 10 ∧ 0 ≤ nl.inc ∧ nl.inc ≤ 10 ∧ Till nl.till := by rw [hnl']; exact ⟨by simp, by simp; omega, by simp, by simp, clamp_bd n0 n1⟩
      have hl0 := hc.l0
      refine ⟨1, _, _, rfl, ⟨.inr (.inr ⟨rfl, rfl, rfl, hk.file, by show nl.who = j; rw [hnl'], by show e ≤ nl.epoch; omega, by show nl.epoch ≤ e + 1; omega, (fun h => by have : nl.epoch = e := h; omega), wr_same _ _ _, ce_open (e := 1) (by omega) hep (by omega) hbd, ?_⟩)⟩⟩
      show OneI (S.write nmC nl.bytes) nl.epoch (hset h j { h j with t := none, gn := tk.file, gs := S.last + 1, l := nl, held := true })
      rw [hk.file]
      refine OneI.set (by rw [temp_none hw, updT_id htn]; exact hw2) (.inr ⟨nl, _, rfl, rfl, hbd⟩) (have_hd hw ⟨by omega, Int.le_refl _, fun _ _ => rfl⟩ (by rw [hnl']) (by rw [hnl']) (by omega) (Int.le_refl _) hbd.2.2.2.2) (fun k hk3 _ => (ho k hk3).turn (st := S.last + 1) (by omega) (Int.le_refl _) (by omega)) (by omega)
    · have hmk : S.makeF tk.file (tk.new now 1).bytes = ((0, 3), S) := by rw [hk.file]; exact makeF_there nmC_ok (by_of (hc.c.trans hC)).2.2
      refine ⟨2, Tk.end_ { tk with l := tk.new now 1 } 2, S, by unfold madeT; rw [hmk, if_neg (by simp), if_pos rfl], ⟨.inr (.inl ⟨rfl, ?_⟩)⟩⟩
      exact OneI.set (by rw [show ({ h j with t := none } : Hd).tempO = none from temp_none hw _ _ _ _, updT_id htn]; exact hc) (.inr ⟨L, st, hC, hL, hb⟩) (gone_hd hw hh) (hother rfl (Int.le_refl _)) e0
  · -- puts
    have htn : (h j).tempO = none := by rw [hto, if_neg (by omega)]
    rw [stepT_2 a]
    obtain ⟨nl, hnl⟩ : ∃ nl, tk.new now (tk.l.epoch + 1) = nl := ⟨_, rfl⟩
    have hnl' : nl = ⟨j, 1, tk.l.epoch + 1, clampN now + 40⟩ := by rw [← hnl]; unfold Tk.new; rw [hk.who, hk.inc, hk.lease]
    obtain ⟨p1, p2⟩ := hc.put hj (c := 3) (by decide) htn (b := nl.bytes) (Lk.bytes_len _)
    have hpt : S.putF tk.temp (tk.new now (tk.l.epoch + 1)).bytes = ((S.last + 1, 0), S.write (tmpOf j 1 3) nl.bytes) := by rw [hk.temp, hnl]; exact p1
    rw [putT_ok hpt, hnl]
    refine ⟨0, _, _, rfl, ⟨.inl ⟨rfl, ?_⟩⟩⟩
    have hepe : nl.epoch - 1 = tk.l.epoch := by rw [hnl']; show tk.l.epoch + 1 - 1 = _; omega
    refine OneI.set (by rw [tempT, if_pos (.inl rfl)]; show Core _ _ (updT _ j (some (tk.temp, nl.bytes))); rw [hk.temp]; exact p2) ce (take_hd ⟨hk.file, hk.temp, hk.who, hk.inc, hk.lease, hk.gn, .inr (.inr (.inr (.inl ⟨rfl, b, ?_, by rw [hnl'], by rw [hnl'], by rw [hnl']; show 1 ≤ tk.l.epoch + 1; omega, by rw [hnl']; show tk.l.epoch + 1 ≤ e + 1; omega, by rw [hnl']; exact clamp_bd n0 n1⟩)))⟩ hw hh) (hother rfl (by show S.last ≤ S.last + 1; omega)) e0
    show Gd C (S.last + 1) e tk.gs (nl.epoch - 1)
    rw [hepe]
    exact c.keep (by omega)
  · -- moves
    have htn : (h j).tempO = some (tk.temp, tk.l.bytes) := by rw [hto, if_pos (.inl a)]
    by_cases hq : ∃ cb, C = some (cb, tk.gs)
    · obtain ⟨cb, rfl⟩ := hq
      obtain ⟨m1, m2⟩ := hc.move hj htn
      have hep : tk.l.epoch = e + 1 := by have := c.2.2 cb rfl; omega
      have hbd : 0 ≤ tk.l.who ∧ tk.l.who ≤ 10 ∧ 0 ≤ tk.l.inc ∧ tk.l.inc ≤ 10 ∧ Till tk.l.till := ⟨by omega, by omega, by omega, by omega, d5⟩
      have hl0 := hc.l0
      rw [stepT_3ok a (st := S.last + 1) (S' := (S.gone tk.temp).write nmC tk.l.bytes) (by rw [hk.file, b]; exact m1)]
      refine ⟨1, _, _, rfl, ⟨.inr (.inr ⟨rfl, rfl, rfl, hk.file, d1, by show e ≤ tk.l.epoch; omega, by show tk.l.epoch ≤ e + 1; omega, (fun h => by have : tk.l.epoch = e := h; omega), wr_same _ _ _, ce_open (e := e + 1) (by omega) hep (by omega) hbd, ?_⟩)⟩⟩
      show OneI ((S.gone tk.temp).write nmC tk.l.bytes) tk.l.epoch (hset h j { h j with t := none, gn := tk.file, gs := S.last + 1, l := tk.l, held := true })
      rw [hk.file]
      exact OneI.set (by rw [temp_none hw]; exact m2) (.inr ⟨tk.l, _, rfl, rfl, hbd⟩) (have_hd hw ⟨by omega, Int.le_refl _, fun _ _ => rfl⟩ d1 d2 (by omega) (Int.le_refl _) d5) (fun k hk3 _ => (ho k hk3).turn (st := S.last + 1) (by omega) (Int.le_refl _) (by omega)) (by omega)
    · have m1 := hc.lost hj htn (q := tk.gs) (fun cb hC => hq ⟨cb, hC⟩)
      refine ⟨0, { tk with at_ := 4 }, S, by rw [stepT_3 a, hk.file, b, m1, if_pos (by simp)], ⟨.inl ⟨rfl, ?_⟩⟩⟩
      exact OneI.set (by rw [tempT, if_pos (.inr rfl), updT_id htn]; exact hc) ce (take_hd ⟨hk.file, hk.temp, hk.who, hk.inc, hk.lease, hk.gn, .inr (.inr (.inr (.inr rfl)))⟩ hw hh) (hother rfl (Int.le_refl _)) e0
  · -- drops
    have htn : (h j).tempO = some (tk.temp, tk.l.bytes) := by rw [hto, if_pos (.inr a)]
    obtain ⟨g1, g2⟩ := hc.gone hj htn
    refine ⟨2, tk.end_ 2, S.gone tk.temp, by rw [stepT_4 a, g1], ⟨.inr (.inl ⟨rfl, ?_⟩)⟩⟩
    exact OneI.set (by rw [show ({ h j with t := none } : Hd).tempO = none from temp_none hw _ _ _ _]; exact g2) ce (gone_hd hw hh) (hother rfl (Int.le_refl _)) e0
end Go.Proofs.YtahdeighocmijaaGreatDoor
