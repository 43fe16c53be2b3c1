/- The document's files (fettleref9): the plain law of its rows. -/
import Derived.Test.YtkbgedaogfcdnaaFsL
namespace Go.Proofs.Ytkbgedaogfcdnaa
set_option linter.unusedSimpArgs false
set_option linter.unusedVariables false
open Go.RowKit
open Crc (Bytes)

/-- A file of the document's. -/
structure Qe where
  nm : ByteArray
  A : Option Addr
  n : Nat
  c : Nat
  b : List Int
  st : Int
def Qe.key (x : Qe) : List UInt8 := x.nm.data.toList
theorem key_ne {a b : ByteArray} : a ≠ b ↔ a.data.toList ≠ b.data.toList := ⟨fun h e => h (ByteArray.ext (Array.toList_inj.1 e)), fun h e => h (by rw [e])⟩
theorem key_eq {a b : ByteArray} (h : a.data.toList = b.data.toList) : a = b := ByteArray.ext (Array.toList_inj.1 h)
def qsum (xs : List Qe) : Int := (xs.map fun x => (x.b.length : Int)).sum
theorem qsum_cons (x : Qe) (xs : List Qe) : qsum (x :: xs) = (x.b.length : Int) + qsum xs := by simp [qsum]
theorem qsum_app (xs ys : List Qe) : qsum (xs ++ ys) = qsum xs + qsum ys := by
  induction xs with
  | nil => simp [qsum]
  | cons x xs ih => rw [List.cons_append, qsum_cons, qsum_cons, ih]; omega
theorem qsum_nonneg (xs : List Qe) : 0 ≤ qsum xs := by
  induction xs with
  | nil => simp [qsum]
  | cons x xs ih => rw [qsum_cons]; omega
/-- The row says what the files are. -/
structure QS (S : Fs) (xs : List Qe) : Prop where
  mem : ∀ x ∈ xs, S.m x.key = some (x.b, x.st)
  all : ∀ key, (S.m key).isSome = true → ∃ x ∈ xs, x.key = key
  up : xs.Pairwise (fun x y => x.key < y.key)
  used : S.used = qsum xs
/-- Where a name stands. -/
def QIdx (xs : List Qe) (s : ByteArray) (r : Int) : Prop := (r = -1 ∧ ∀ x ∈ xs, x.nm ≠ s) ∨ ∃ (i : Nat) (x : Qe), r = i ∧ xs[i]? = some x ∧ x.nm = s
theorem QS.nob {S : Fs} {xs : List Qe} {s : ByteArray} (h : QS S xs) (hn : ∀ x ∈ xs, x.nm ≠ s) : S.m s.data.toList = none := by
  cases e : S.m s.data.toList with
  | none => rfl
  | some v =>
    obtain ⟨x, hx, hk⟩ := h.all s.data.toList (by rw [e]; rfl)
    exact absurd (key_eq hk) (hn x hx)
theorem QS.no {S : Fs} {xs : List Qe} {s : ByteArray} (h : QS S xs) (hn : ∀ x ∈ xs, x.nm ≠ s) : S.has s = false ∧ S.by s = [] ∧ S.st s = 0 := by
  have e := h.nob hn
  unfold Fs.has Fs.by Fs.st
  rw [e]; exact ⟨rfl, rfl, rfl⟩
theorem QS.is {S : Fs} {xs : List Qe} {s : ByteArray} {x : Qe} (h : QS S xs) (hx : x ∈ xs) (he : x.nm = s) : S.has s = true ∧ S.by s = x.b ∧ S.st s = x.st := by
  have e := h.mem x hx
  unfold Qe.key at e
  rw [he] at e
  unfold Fs.has Fs.by Fs.st
  rw [e]; exact ⟨rfl, rfl, rfl⟩
theorem mem_of_get {α : Type} {xs : List α} {i : Nat} {x : α} (h : xs[i]? = some x) : x ∈ xs := List.mem_of_getElem? h
theorem up_sub {xs ys : List Qe} (h : xs.Pairwise (fun x y => x.key < y.key)) (hs : List.Sublist ys xs) : ys.Pairwise (fun x y => x.key < y.key) := List.Pairwise.sublist hs h
theorem lt_ne {a b : List UInt8} (h : a < b) : a ≠ b := fun e => by subst e; exact List.lt_irrefl _ h
theorem qsum_filter {xs : List Qe} (hu : xs.Pairwise (fun x y => x.key < y.key)) (s : ByteArray) (l : List Int) (hx : ∀ x ∈ xs, x.nm = s → x.b = l) (h0 : (∀ x ∈ xs, x.nm ≠ s) → l = []) :
    qsum (xs.filter fun x => decide (x.nm ≠ s)) = qsum xs - (l.length : Int) := by
  induction xs with
  | nil => rw [h0 (by simp)]; simp [qsum]
  | cons x xs ih =>
    rw [List.pairwise_cons] at hu
    rw [List.filter_cons, qsum_cons]
    by_cases hn : x.nm = s
    · rw [if_neg (by simp [hn])]
      have hr : ∀ y ∈ xs, y.nm ≠ s := fun y hy e => lt_ne (hu.1 y hy) (by unfold Qe.key; rw [hn, e])
      rw [List.filter_eq_self.2 (fun y hy => by simp [hr y hy]), hx x (by simp) hn]
      omega
    · rw [if_pos (by simp [hn]), qsum_cons, ih hu.2 (fun y hy => hx y (by simp [hy])) (fun h => h0 (fun y hy => by
        rcases List.mem_cons.1 hy with e | e
        · rw [e]; exact hn
        · exact h y e))]
      omega
theorem QS.bys {S : Fs} {xs : List Qe} (h : QS S xs) (s : ByteArray) : (∀ x ∈ xs, x.nm = s → x.b = S.by s) ∧ ((∀ x ∈ xs, x.nm ≠ s) → S.by s = []) :=
  ⟨fun x hx e => (h.is hx e).2.1.symm, fun hn => (h.no hn).2.1⟩
theorem QS.gone {S : Fs} {xs : List Qe} (h : QS S xs) (s : ByteArray) : QS (S.gone s) (xs.filter fun x => decide (x.nm ≠ s)) := by
  refine ⟨fun x hx => ?_, fun key hk => ?_, up_sub h.up List.filter_sublist, ?_⟩
  · rw [List.mem_filter] at hx
    have hne : x.key ≠ s.data.toList := key_ne.1 (by simpa using hx.2)
    show (if x.key = s.data.toList then none else S.m x.key) = _
    rw [if_neg hne]; exact h.mem x hx.1
  · have hk' : (if key = s.data.toList then none else S.m key).isSome = true := hk
    by_cases he : key = s.data.toList
    · rw [if_pos he] at hk'; cases hk'
    · rw [if_neg he] at hk'
      obtain ⟨x, hx, hxk⟩ := h.all key hk'
      refine ⟨x, List.mem_filter.2 ⟨hx, ?_⟩, hxk⟩
      have : x.nm ≠ s := fun e => he (by rw [← hxk]; unfold Qe.key; rw [e])
      simp [this]
  · have hb := h.bys s
    rw [qsum_filter h.up s (S.by s) hb.1 hb.2]
    show S.used - _ = _
    rw [h.used]
/-- A row with one more file in its place. -/
theorem QS.put {S : Fs} {xs : List Qe} (h : QS S xs) (s : ByteArray) (l : List Int) (x : Qe) (i : Nat) (hx : x.nm = s) (hb : x.b = l) (hst : x.st = S.last + 1)
    (h1 : ∀ y ∈ (xs.filter fun x => decide (x.nm ≠ s)).take i, y.key < s.data.toList) (h2 : ∀ y ∈ (xs.filter fun x => decide (x.nm ≠ s)).drop i, s.data.toList < y.key) :
    QS (S.write s l) ((xs.filter fun x => decide (x.nm ≠ s)).take i ++ [x] ++ (xs.filter fun x => decide (x.nm ≠ s)).drop i) := by
  have hg := h.gone s
  obtain ⟨ys, hys⟩ : ∃ ys, (xs.filter fun x => decide (x.nm ≠ s)) = ys := ⟨_, rfl⟩
  have hne : ∀ y ∈ ys, y.nm ≠ s := fun y hy => by rw [← hys, List.mem_filter] at hy; simpa using hy.2
  have hxs : ∀ y ∈ ys, y ∈ xs := fun y hy => by rw [← hys, List.mem_filter] at hy; exact hy.1
  rw [hys] at h1 h2 hg ⊢
  have hsp : ∀ y, y ∈ ys.take i ++ [x] ++ ys.drop i ↔ y = x ∨ y ∈ ys := fun y => by
    rw [List.mem_append, List.mem_append, List.mem_singleton]
    constructor
    · rintro ((h | h) | h)
      · exact .inr (List.mem_of_mem_take h)
      · exact .inl h
      · exact .inr (List.mem_of_mem_drop h)
    · rintro (h | h)
      · exact .inl (.inr h)
      · rw [← List.take_append_drop i ys, List.mem_append] at h
        rcases h with h | h
        · exact .inl (.inl h)
        · exact .inr h
  have hxk : x.key = s.data.toList := by unfold Qe.key; rw [hx]
  refine ⟨fun y hy => ?_, fun key hk => ?_, ?_, ?_⟩
  · show (if y.key = s.data.toList then some (l, S.last + 1) else S.m y.key) = _
    rcases (hsp y).1 hy with e | e
    · rw [e, if_pos hxk, hb, hst]
    · rw [if_neg (show y.key ≠ s.data.toList from key_ne.1 (hne y e))]; exact h.mem y (hxs y e)
  · have hk' : (if key = s.data.toList then some (l, S.last + 1) else S.m key).isSome = true := hk
    by_cases he : key = s.data.toList
    · exact ⟨x, (hsp x).2 (.inl rfl), by rw [he, hxk]⟩
    · rw [if_neg he] at hk'
      obtain ⟨y, hy, hyk⟩ := h.all key hk'
      refine ⟨y, (hsp y).2 (.inr ?_), hyk⟩
      rw [← hys, List.mem_filter]
      have : y.nm ≠ s := fun e => he (by rw [← hyk]; unfold Qe.key; rw [e])
      exact ⟨hy, by simp [this]⟩
  · have hu := hg.up
    rw [List.pairwise_append]
    refine ⟨?_, up_sub hu (List.drop_sublist i ys), ?_⟩
    · rw [List.pairwise_append]
      refine ⟨up_sub hu (List.take_sublist i ys), by simp, fun a ha b hb' => ?_⟩
      rw [List.mem_singleton] at hb'
      rw [hb', hxk]; exact h1 a ha
    · intro a ha b hb'
      rw [List.mem_append, List.mem_singleton] at ha
      rcases ha with ha | ha
      · exact List.lt_trans (h1 a ha) (h2 b hb')
      · rw [ha, hxk]; exact h2 b hb'
  · have e1 : qsum (ys.take i ++ [x] ++ ys.drop i) = qsum ys + (l.length : Int) := by
      rw [qsum_app, qsum_app, qsum_cons, hb]
      have : qsum ys = qsum (ys.take i) + qsum (ys.drop i) := by rw [← qsum_app, List.take_append_drop]
      simp [qsum] at this ⊢
      omega
    rw [e1, ← hg.used]
    show S.used + ((l.length : Int) - ((S.by s).length : Int)) = S.used - ((S.by s).length : Int) + _
    omega
/-- Where a new name goes in. -/
theorem place {ys : List Qe} (hu : ys.Pairwise (fun x y => x.key < y.key)) {s : ByteArray} (hne : ∀ y ∈ ys, y.nm ≠ s) {i : Nat} (h1 : ∀ (j : Nat) (y : Qe), j < i → ys[j]? = some y → y.key < s.data.toList) (h2 : ∀ y, ys[i]? = some y → ¬ y.key < s.data.toList) :
    (∀ y ∈ ys.take i, y.key < s.data.toList) ∧ (∀ y ∈ ys.drop i, s.data.toList < y.key) := by
  constructor
  · intro y hy
    obtain ⟨j, hj⟩ := List.mem_iff_getElem?.1 hy
    rw [List.getElem?_take] at hj
    split at hj
    · exact h1 j y ‹_› hj
    · cases hj
  · intro y hy
    obtain ⟨j, hj⟩ := List.mem_iff_getElem?.1 hy
    rw [List.getElem?_drop] at hj
    have hlt : i + j < ys.length := (List.getElem?_eq_some_iff.1 hj).1
    have hi : i < ys.length := by omega
    have hz := h2 ys[i] (List.getElem?_eq_getElem hi)
    have hne0 := key_ne.1 (hne ys[i] (List.getElem_mem hi))
    have hz2 : s.data.toList < ys[i].key := by
      rcases List.le_iff_lt_or_eq.1 (List.not_lt.1 hz) with e | e
      · exact e
      · exact absurd e.symm hne0
    by_cases h0 : j = 0
    · subst h0
      rw [Nat.add_zero, List.getElem?_eq_getElem hi] at hj
      injection hj with hj
      rw [← hj]; exact hz2
    · have := List.pairwise_iff_getElem.1 hu i (i + j) hi hlt (by omega)
      rw [List.getElem?_eq_getElem hlt] at hj
      injection hj with hj
      rw [← hj]; exact List.lt_trans hz2 this
/-- Two rows of the same names. -/
theorem q_ks_eq {S : Fs} {xs : List Qe} (h : QS S xs) {ks : List (List UInt8)} (hk : Ks S ks) : ks = xs.map Qe.key := by
  have hu : (xs.map Qe.key).Pairwise (fun a b => a < b) := List.pairwise_map.2 h.up
  have hm : ∀ key, key ∈ ks ↔ key ∈ xs.map Qe.key := fun key => by
    rw [hk.mem, List.mem_map]
    constructor
    · intro e; obtain ⟨x, hx, he⟩ := h.all key e; exact ⟨x, hx, he⟩
    · rintro ⟨x, hx, rfl⟩; rw [h.mem x hx]; rfl
  have hn1 : ks.Nodup := hk.up.imp fun h => lt_ne h
  have hn2 : (xs.map Qe.key).Nodup := hu.imp fun h => lt_ne h
  have hp : ks.Perm (xs.map Qe.key) := (List.perm_ext_iff_of_nodup hn1 hn2).2 hm
  exact hp.eq_of_pairwise (fun a b _ _ h1 h2 => absurd (List.lt_trans h1 h2) (List.lt_irrefl _)) hk.up hu
end Go.Proofs.Ytkbgedaogfcdnaa
