/- The files: plain laws of calls that go well, and of blocks beside them. -/
import Derived.Test.YtahdeighocmijaaGreatFsH
import Derived.Test.YtahdeighocmijaaGreatFrM
namespace Go.Proofs.YtahdeighocmijaaGreat
set_option linter.unusedSimpArgs false
set_option linter.unusedVariables false
open Go.RowKit
open Crc (Bytes)

section
variable {S : Fs} {s : ByteArray} {l : List Int} {st : Int} {gs : List (ByteArray × Int)}
theorem by_of (h : S.m s.data.toList = some (l, st)) : S.by s = l ∧ S.st s = st ∧ S.has s = true := by
  unfold Fs.by Fs.st Fs.has; rw [h]; exact ⟨rfl, rfl, rfl⟩
theorem by_none (h : S.m s.data.toList = none) : S.by s = [] ∧ S.st s = 0 ∧ S.has s = false := by
  unfold Fs.by Fs.st Fs.has; rw [h]; exact ⟨rfl, rfl, rfl⟩
theorem off_of (h : S.m s.data.toList = some (l, st)) : S.off s st = false := by
  unfold Fs.off; rw [(by_of h).2.2, (by_of h).2.1]; simp
theorem off_ne {q : Int} (h : S.m s.data.toList = some (l, st)) (hq : st ≠ q) : S.off s q = true := by
  unfold Fs.off; rw [(by_of h).2.2, (by_of h).2.1]; simp [hq]
theorem off_none {q : Int} (h : S.m s.data.toList = none) : S.off s q = true := by
  unfold Fs.off; rw [(by_none h).2.2]; rfl
theorem putF_ok (hf : fileB s = true) (h : S.used + ((l.length : Int) - ((S.by s).length : Int)) ≤ S.room) : S.putF s l = ((S.last + 1, 0), S.write s l) := by
  unfold Fs.putF Fs.fits
  rw [hf, if_neg (by simp), if_neg (by rw [decide_eq_true h]; simp)]
theorem appF_ok (hf : fileB s = true) (hb : S.bad gs = false) (hc : S.cuts = false) (h : S.used + (l.length : Int) ≤ S.room) : S.appF s l gs = ((S.last + 1, 0), S.write s (S.by s ++ l)) := by
  have hm : S.mid l.length = (((l.length : Int), 0), S) := by
    unfold Fs.mid
    rw [hc, if_neg (by simp), if_neg (by omega)]
  unfold Fs.appF
  rw [hm, hf, hb, if_neg (by simp), if_neg (by simp), if_neg (by simp)]
  simp only [Int.toNat_natCast, List.take_length, if_pos]
theorem appF_bad (hf : fileB s = true) (hb : S.bad gs = true) : S.appF s l gs = ((0, 5), S) := by
  unfold Fs.appF
  rw [hf, hb, if_neg (by simp), if_pos rfl]
theorem appF_cut0 (hf : fileB s = true) (hb : S.bad gs = false) (hc : S.cuts = true) (h0 : S.cut = 0) : S.appF s l gs = ((0, 7), { S with cuts := false }) := by
  have hm : S.mid l.length = ((0, 7), { S with cuts := false }) := by
    unfold Fs.mid
    rw [if_pos hc, h0, show min (0 : Int) (l.length : Int) = 0 by omega]
  unfold Fs.appF
  rw [hm, hf, hb, if_neg (by simp), if_neg (by simp), if_pos (by simp)]
theorem appF_cut {k : Nat} (hf : fileB s = true) (hb : S.bad gs = false) (hc : S.cuts = true) (h0 : S.cut = (k : Int)) (hk : k < l.length) (hk0 : 0 < k) : S.appF s l gs = ((0, 7), ({ S with cuts := false } : Fs).write s (S.by s ++ l.take k)) := by
  have hm : S.mid l.length = (((k : Int), 7), { S with cuts := false }) := by
    unfold Fs.mid
    rw [if_pos hc, h0, show min (k : Int) (l.length : Int) = (k : Int) by omega]
  unfold Fs.appF
  rw [hm, hf, hb, if_neg (by simp), if_neg (by simp), if_neg (by simp; omega)]
  simp
theorem moveF_ok {a b : ByteArray} (ha : fileB a = true) (hb : fileB b = true) (hne : a ≠ b) (hg : S.bad gs = false) (h : S.has a = true) : S.moveF a b gs = ((S.last + 1, 0), (S.gone a).write b (S.by a)) := by
  unfold Fs.moveF
  rw [ha, hb, hg, h, if_neg (by simp [hne]), if_neg (by simp), if_neg (by simp)]
theorem bad_two {S : Fs} {a b : ByteArray} {x y : Int} : S.bad [(a, x), (b, y)] = (S.off a x || S.off b y) := by unfold Fs.bad; simp
theorem bad_one {S : Fs} {a : ByteArray} {x : Int} : S.bad [(a, x)] = S.off a x := by unfold Fs.bad; simp
theorem readF_of (hf : fileB s = true) (h : S.m s.data.toList = some (l, st)) : S.readF s = (0, l, st) := by
  unfold Fs.readF
  rw [hf, (by_of h).2.2, if_neg (by simp), if_neg (by simp), (by_of h).1, (by_of h).2.1]
theorem readF_none (hf : fileB s = true) (h : S.m s.data.toList = none) : S.readF s = (4, [], 0) := by
  unfold Fs.readF
  rw [hf, (by_none h).2.2, if_neg (by simp), if_pos rfl]
end
def tl (T : Option (List Int × Int)) : Int := match T with | none => 0 | some x => x.1.length
theorem wr_same (S : Fs) (s : ByteArray) (l : List Int) : (S.write s l).m s.data.toList = some (l, S.last + 1) := by
  show (if s.data.toList = s.data.toList then some (l, S.last + 1) else _) = _
  rw [if_pos rfl]
theorem wr_other (S : Fs) {s t : ByteArray} (l : List Int) (h : t.data.toList ≠ s.data.toList) : (S.write s l).m t.data.toList = S.m t.data.toList := by
  show (if t.data.toList = s.data.toList then some (l, S.last + 1) else _) = _
  rw [if_neg h]
theorem gone_same (S : Fs) (s : ByteArray) : (S.gone s).m s.data.toList = none := by
  show (if s.data.toList = s.data.toList then none else _) = _
  rw [if_pos rfl]
theorem gone_other (S : Fs) {s t : ByteArray} (h : t.data.toList ≠ s.data.toList) : (S.gone s).m t.data.toList = S.m t.data.toList := by
  show (if t.data.toList = s.data.toList then none else _) = _
  rw [if_neg h]
/-- Another block that is neither the files' nor a row of bytes may turn. -/
theorem FsH.turn {w0 w w' : World} {fb mb k g : Nat} {S : Fs} {t : TypeId} {cs : List Value} (h : FsH w0 w fb mb S k) (ho : Only [g] w w') (hg : Blk w g t cs) (h1 : t ≠ 5) (h2 : t ≠ 56) (hw : w0.heap.size ≤ g) : FsH w0 w' fb mb S k := by
  obtain ⟨n, D, hn, hF⟩ := h.at_
  have e1 : fb ≠ g := fun e => by
    have := hF.blk.at_; rw [e, hg.at_] at this; injection this with this; injection this with _ h3; exact h2 h3
  have e2 : mb ≠ g := fun e => by
    obtain ⟨es, c, h4, _⟩ := hF.own
    rw [e, hg.at_] at h4; cases h4
  refine ⟨⟨n, D, hn, hF.onlyFree ho e1 e2 ?_⟩, h.fin, h.hk, h.hf, h.hm, below_only h.bel ho (by intro x hx; simp at hx; omega) h.bel.size⟩
  intro key l st hk A k' c hA ad hAd h0
  obtain ⟨_, A', k2, c2, hz, _, _, hu⟩ := hF.yes key l st hk
  have e3 := (hz (.held (fileV A k' c st))).symm.trans (hA (.held (fileV A k' c st)))
  obtain ⟨rfl, rfl, -, -⟩ := fileV_inj (DataW.held.inj e3)
  exact hu.ne hg h1 ad hAd h0

theorem FsH.more {w0 w : World} {fb mb k k' : Nat} {S : Fs} (h : FsH w0 w fb mb S k) (hk : k ≤ k') (h5 : k' ≤ 5000) : FsH w0 w fb mb S k' := by
  obtain ⟨n, D, hn, hF⟩ := h.at_
  exact ⟨⟨n, D, by omega, hF⟩, h.fin.more (by omega) (by omega) (by omega), h5, h.hf, h.hm, h.bel⟩

theorem FsH.ne {w0 w : World} {fb mb k g : Nat} {S : Fs} {t : TypeId} {cs : Array Value} {fr : Nat × Nat} (h : FsH w0 w fb mb S k) (hg : w.heap[g]? = some (.cells cs t fr)) (h2 : t ≠ 56) : g ∉ [fb, mb] := by
  obtain ⟨n, D, hn, hF⟩ := h.at_
  intro hin
  simp only [List.mem_cons, List.not_mem_nil, or_false] at hin
  rcases hin with e | e
  · have := hF.blk.at_; rw [← e, hg] at this; injection this with this; injection this with _ h3; exact h2 h3
  · obtain ⟨es, c, h4, _⟩ := hF.own
    rw [← e, hg] at h4; cases h4

theorem FsH.bytes {w0 w : World} {fb mb k : Nat} {S : Fs} (h : FsH w0 w fb mb S k) (s : ByteArray) : Bytes (S.readF s).2.1 := by
  obtain ⟨n, D, hn, hF⟩ := h.at_
  unfold Fs.readF
  split
  · intro x hx; cases hx
  split
  · intro x hx; cases hx
  · show Bytes (S.by s)
    unfold Fs.by
    cases hm : S.m s.data.toList with
    | none => intro x hx; cases hx
    | some q =>
      obtain ⟨_, A, k', c, _, hb, _⟩ := hF.yes _ q.1 q.2 hm
      exact hb.by_

/-- Cells of another kind that grew. -/
theorem FsH.grown {w0 w w' : World} {fb mb k : Nat} {S : Fs} (h : FsH w0 w fb mb S k) {row : Option Nat} (hg : w.grownBy w' row) (hr : ∀ g, row = some g → w0.heap.size ≤ g ∧ ∃ t cs fr, w.heap[g]? = some (Obj.cells cs t fr) ∧ t ≠ 5 ∧ t ≠ 56) : FsH w0 w' fb mb S k := by
  cases row with
  | none => exact h.below ((Below.refl _ _).grown hg (Nat.le_refl _) (fun k hk => by cases hk))
  | some g =>
    obtain ⟨h0, t, cs, fr, h1, h2, h3⟩ := hr g rfl
    have ho : Only [g] w w' := (Only.refl _ _).grown hg (fun k hk => .inl (by injection hk with hk; simp [hk]))
    have hn := h.ne h1 h3
    simp only [List.mem_cons, List.not_mem_nil, or_false, not_or] at hn
    obtain ⟨n, D, hn2, hF⟩ := h.at_
    refine ⟨⟨n, D, hn2, hF.onlyFree ho (Ne.symm hn.1) (Ne.symm hn.2) ?_⟩, h.fin, h.hk, h.hf, h.hm, below_only h.bel ho (by intro x hx; simp at hx; omega) h.bel.size⟩
    intro key l st hk A k' c hA ad hAd h4 he
    obtain ⟨_, A', k2, c2, hz, _, _, hu⟩ := hF.yes key l st hk
    have e3 := (hz (.held (fileV A k' c st))).symm.trans (hA (.held (fileV A k' c st)))
    obtain ⟨rfl, rfl, -, -⟩ := fileV_inj (DataW.held.inj e3)
    obtain ⟨cs', fr', e4⟩ := hu ad hAd h4
    rw [he, h1] at e4
    injection e4 with e4
    injection e4 with _ e5
    exact h2 e5
end Go.Proofs.YtahdeighocmijaaGreat
