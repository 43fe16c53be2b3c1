/- SimfStamps: the plain law. -/
import Derived.Test.YtgegflgmdcdkbaaMapL
import Derived.Test.YtgegflgmdcdkbaaSRoom
namespace Go.Proofs.Ytgegflgmdcdkbaa
set_option linter.unusedSimpArgs false
set_option linter.unusedVariables false
open Go.RowKit
open Crc (Bytes)

theorem Fs.write_st (S : Fs) (s t : ByteArray) (l : List Int) : (S.write s l).st t = if t.data.toList = s.data.toList then S.last + 1 else S.st t := by
  unfold Fs.st Fs.write Fs.put
  simp only
  by_cases h : t.data.toList = s.data.toList
  · rw [if_pos h, if_pos h]
  · rw [if_neg h, if_neg h]
theorem Fs.gone_st (S : Fs) (s t : ByteArray) : (S.gone s).st t = if t.data.toList = s.data.toList then 0 else S.st t := by
  unfold Fs.st Fs.gone Fs.rm
  simp only
  by_cases h : t.data.toList = s.data.toList
  · rw [if_pos h, if_pos h]
  · rw [if_neg h, if_neg h]
/-- A name's stamp is the last that was given. -/
structure NmOk (S : Fs) (last : List UInt8 → Int) (x : ByteArray) : Prop where
  st : last x.data.toList = S.st x
  has : S.has x = true ↔ 0 < S.st x
  ge : 0 ≤ S.st x
  le : S.st x ≤ S.last
structure Inv (S : Fs) (seen : Int → Bool) (last : List UInt8 → Int) : Prop where
  s : ∀ x, seen x = true → x ≤ S.last
  n : ∀ j < 4, NmOk S last (nmOf j)
  c : S.cuts = false
  l0 : 0 ≤ S.last
/-- The same but for one name, which has just been given the last stamp. -/
structure InvBut (S : Fs) (seen : Int → Bool) (last : List UInt8 → Int) (t : ByteArray) : Prop where
  s : ∀ x, seen x = true → x ≤ S.last - 1
  n : ∀ j < 4, (nmOf j).data.toList ≠ t.data.toList → NmOk S last (nmOf j)
  st : S.st t = S.last
  has : S.has t = true
  c : S.cuts = false
  l0 : 1 ≤ S.last
theorem inv_new : Inv (fs0 1048576) (fun _ => false) (fun _ => 0) :=
  ⟨fun _ h => by simp at h, fun j hj => ⟨rfl, by simp [Fs.has, Fs.st, fs0], by simp [Fs.st, fs0], by simp [Fs.st, fs0]⟩, rfl, by simp [fs0]⟩
/-- Any file of the name at stamp 0 is none. -/
theorem inv_write {S : Fs} {seen : Int → Bool} {last : List UInt8 → Int} (t : ByteArray) (l : List Int) (hs : ∀ x, seen x = true → x ≤ S.last) (hn : ∀ j < 4, (nmOf j).data.toList ≠ t.data.toList → NmOk S last (nmOf j)) (hc : S.cuts = false) (h0 : 0 ≤ S.last) :
    InvBut (S.write t l) seen last t := by
  refine ⟨fun x hx => ?_, fun j hj hne => ?_, ?_, ?_, hc, ?_⟩
  · show x ≤ S.last + 1 - 1; have := hs x hx; omega
  · obtain ⟨a, b, c, d⟩ := hn j hj hne
    refine ⟨?_, ?_, ?_, ?_⟩ <;> rw [Fs.write_st, if_neg hne]
    · exact a
    · rw [Fs.write_has, if_neg hne]; exact b
    · exact c
    · show S.st (nmOf j) ≤ S.last + 1; omega
  · rw [Fs.write_st, if_pos rfl]; rfl
  · rw [Fs.write_has, if_pos rfl]
  · show 1 ≤ S.last + 1; omega
theorem inv_gone {S : Fs} {seen : Int → Bool} {last : List UInt8 → Int} (h : Inv S seen last) (a : ByteArray) : Inv (S.gone a) seen (fun y => if y = a.data.toList then 0 else last y) := by
  refine ⟨h.s, fun j hj => ?_, h.c, h.l0⟩
  obtain ⟨x, y, z, u⟩ := h.n j hj
  by_cases he : (nmOf j).data.toList = a.data.toList
  · refine ⟨?_, ?_, ?_, ?_⟩ <;> rw [Fs.gone_st, if_pos he]
    · simp [he]
    · rw [Fs.gone_has, if_pos he]; simp
    · omega
    · exact h.l0
  · refine ⟨?_, ?_, ?_, ?_⟩ <;> rw [Fs.gone_st, if_neg he]
    · simp [he]; exact x
    · rw [Fs.gone_has, if_neg he]; exact y
    · exact z
    · exact u
theorem inv_told {S : Fs} {seen : Int → Bool} {last : List UInt8 → Int} {t : ByteArray} (h : InvBut S seen last t) (s : Int) (hs : s = S.last) :
    Inv S (fun y => if y = s then true else seen y) (fun y => if y = t.data.toList then s else last y) := by
  subst hs
  refine ⟨fun x hx => ?_, fun j hj => ?_, h.c, by have := h.l0; omega⟩
  · by_cases e : x = S.last
    · omega
    · rw [if_neg e] at hx; have := h.s x hx; omega
  · by_cases he : (nmOf j).data.toList = t.data.toList
    · have hst : S.st (nmOf j) = S.last := by rw [← h.st]; unfold Fs.st; rw [he]
      have hh : S.has (nmOf j) = true := by rw [← h.has]; unfold Fs.has; rw [he]
      refine ⟨by simp [he, hst], by rw [hh, hst]; have := h.l0; simp; omega, by rw [hst]; have := h.l0; omega, by rw [hst]; exact Int.le_refl _⟩
    · obtain ⟨x, y, z, u⟩ := h.n j hj he
      exact ⟨by simp [he]; exact x, y, z, u⟩
theorem inv_fresh {S : Fs} {seen : Int → Bool} {last : List UInt8 → Int} {t : ByteArray} (h : InvBut S seen last t) (s : Int) (hs : s = S.last) : seen s = false := by
  subst hs
  cases hh : seen S.last
  · rfl
  · have := h.s _ hh; omega
theorem nm_file (j : Nat) (hj : j < 4) : fileB (nmOf j) = true := by
  rcases (show j = 0 ∨ j = 1 ∨ j = 2 ∨ j = 3 by omega) with rfl | rfl | rfl | rfl <;> kernel_rfl
def nzz : ByteArray := ⟨#[122, 122]⟩
theorem nm_zz (j : Nat) (hj : j < 4) : (nmOf j).data.toList ≠ nzz.data.toList := by
  rcases (show j = 0 ∨ j = 1 ∨ j = 2 ∨ j = 3 by omega) with rfl | rfl | rfl | rfl <;> decide

/-- What a call with one byte does: nothing, and an error, or it gives the next stamp. -/
def Did (S : Fs) (seen : Int → Bool) (last : List UInt8 → Int) (t : ByteArray) (r : (Int × Int) × Fs) : Prop :=
  (r.1.2 ≠ 0 ∧ r.2 = S) ∨ (r.1.2 = 0 ∧ r.1.1 = r.2.last ∧ InvBut r.2 seen last t)
theorem did_put {S : Fs} {seen : Int → Bool} {last : List UInt8 → Int} (h : Inv S seen last) (t : ByteArray) (l : List Int) : Did S seen last t (S.putF t l) := by
  unfold Fs.putF
  split
  · exact .inl ⟨by simp, rfl⟩
  split
  · exact .inl ⟨by simp, rfl⟩
  · exact .inr ⟨rfl, rfl, inv_write t l h.s (fun j hj _ => h.n j hj) h.c h.l0⟩
theorem did_make {S : Fs} {seen : Int → Bool} {last : List UInt8 → Int} (h : Inv S seen last) (t : ByteArray) (l : List Int) : Did S seen last t (S.makeF t l) := by
  unfold Fs.makeF
  split
  · exact .inl ⟨by simp, rfl⟩
  split
  · exact .inl ⟨by simp, rfl⟩
  split
  · exact .inl ⟨by simp, rfl⟩
  · exact .inr ⟨rfl, rfl, inv_write t l h.s (fun j hj _ => h.n j hj) h.c h.l0⟩
theorem did_app {S : Fs} {seen : Int → Bool} {last : List UInt8 → Int} (h : Inv S seen last) (t : ByteArray) : Did S seen last t (S.appF t [1] []) := by
  unfold Fs.appF
  split
  · exact .inl ⟨by simp, rfl⟩
  split
  · exact .inl ⟨by simp, rfl⟩
  have hm : S.mid ([1] : List Int).length = (if S.room < S.used + 1 then ((0, 2), S) else ((1, 0), S)) := by
    unfold Fs.mid
    rw [h.c, if_neg (by simp)]
    by_cases hr : S.room < S.used + 1
    · rw [if_pos ⟨by simpa using hr, by simp⟩, if_pos hr]
      have : max (S.room - S.used) 0 = 0 := by omega
      rw [this]
    · rw [if_neg (fun hh => hr (by simpa using hh.1)), if_neg hr]; rfl
  rw [hm]
  by_cases hr : S.room < S.used + 1
  · rw [if_pos hr, if_pos (by simp)]
    exact .inl ⟨by simp, rfl⟩
  · rw [if_neg hr, if_neg (by simp)]
    exact .inr ⟨rfl, rfl, inv_write t _ h.s (fun j hj _ => h.n j hj) h.c h.l0⟩
/-- Move: nothing, or the elder name is none, and the new one has the next stamp. -/
theorem did_move {S : Fs} {seen : Int → Bool} {last : List UInt8 → Int} (h : Inv S seen last) (a b : ByteArray) :
    ((S.moveF a b []).1.2 ≠ 0 ∧ (S.moveF a b []).2 = S) ∨ ((S.moveF a b []).1.2 = 0 ∧ (S.moveF a b []).1.1 = (S.moveF a b []).2.last ∧ InvBut (S.moveF a b []).2 seen (fun y => if y = a.data.toList then 0 else last y) b) := by
  unfold Fs.moveF
  split
  · exact .inl ⟨by simp, rfl⟩
  split
  · exact .inl ⟨by simp, rfl⟩
  split
  · exact .inl ⟨by simp, rfl⟩
  · have hg := inv_gone h a
    exact .inr ⟨rfl, rfl, inv_write b _ hg.s (fun j hj _ => hg.n j hj) hg.c hg.l0⟩
theorem did_drop {S : Fs} {seen : Int → Bool} {last : List UInt8 → Int} (h : Inv S seen last) (a : ByteArray) :
    ((S.dropF a []).1 ≠ 0 ∧ (S.dropF a []).2 = S) ∨ ((S.dropF a []).1 = 0 ∧ Inv (S.dropF a []).2 seen (fun y => if y = a.data.toList then 0 else last y)) := by
  unfold Fs.dropF
  split
  · exact .inl ⟨by simp, rfl⟩
  split
  · exact .inl ⟨by simp, rfl⟩
  split
  · exact .inl ⟨by simp, rfl⟩
  · exact .inr ⟨rfl, inv_gone h a⟩
/-- Telling "zz" nothing under a guard. -/
theorem zz_off {S : Fs} {seen : Int → Bool} {last : List UInt8 → Int} (h : Inv S seen last) (j : Nat) (hj : j < 4) (d : Int) (hd : d ≠ 0 ∨ last (nmOf j).data.toList = 0) (hd0 : 0 ≤ d) : S.appF nzz [] [(nmOf j, last (nmOf j).data.toList + d)] = ((0, 5), S) := by
  obtain ⟨a, b, c, _⟩ := h.n j hj
  have hf : fileB nzz = true := by kernel_rfl
  have hb : S.bad [(nmOf j, last (nmOf j).data.toList + d)] = true := by
    simp only [Fs.bad, List.any_cons, List.any_nil, Bool.or_false, Fs.off, Bool.or_eq_true, Bool.not_eq_true', bne_iff_ne, ne_eq]
    rw [a] at hd ⊢
    by_cases hh : S.has (nmOf j) = true
    · have := b.1 hh
      right; omega
    · left; simpa using hh
  unfold Fs.appF
  rw [hf, hb, if_neg (by simp), if_pos rfl]
theorem zz_on {S : Fs} {seen : Int → Bool} {last : List UInt8 → Int} (h : Inv S seen last) (j : Nat) (hj : j < 4) (hd : 0 < last (nmOf j).data.toList) :
    ∃ S', S.appF nzz [] [(nmOf j, last (nmOf j).data.toList)] = ((S.last + 1, 0), S') ∧ S'.st nzz = S.last + 1 ∧ S'.last = S.last + 1 ∧ seen (S.last + 1) = false ∧ S'.st (nmOf j) = last (nmOf j).data.toList ∧ Inv S' (fun y => if y = S.last + 1 then true else seen y) last := by
  obtain ⟨a, b, c, _⟩ := h.n j hj
  have hf : fileB nzz = true := by kernel_rfl
  have hb : S.bad [(nmOf j, last (nmOf j).data.toList)] = false := by
    simp only [Fs.bad, List.any_cons, List.any_nil, Bool.or_false, Fs.off]
    rw [a] at hd ⊢
    rw [b.2 hd]; simp
  have hm : S.mid ([] : List Int).length = ((0, 0), S) := by
    unfold Fs.mid
    rw [h.c, if_neg (by simp), if_neg (by simp)]; rfl
  refine ⟨S.write nzz (S.by nzz ++ ([] : List Int).take 0), ?_, ?_, rfl, ?_, ?_, ?_⟩
  · unfold Fs.appF
    rw [hf, hb, hm, if_neg (by simp), if_neg (by simp), if_neg (by simp)]
    rfl
  · rw [Fs.write_st, if_pos rfl]
  · cases hs : seen (S.last + 1)
    · rfl
    · have := h.s _ hs; omega
  · rw [Fs.write_st, if_neg (nm_zz j hj), a]
  · have hB := inv_write nzz (S.by nzz ++ ([] : List Int).take 0) h.s (fun j hj _ => h.n j hj) h.c h.l0
    refine ⟨fun x hx => ?_, fun i hi => hB.n i hi (nm_zz i hi), hB.c, by have := hB.l0; omega⟩
    by_cases e : x = S.last + 1
    · rw [e]; exact Int.le_refl _
    · rw [if_neg e] at hx; have := h.s x hx; show x ≤ S.last + 1; omega
end Go.Proofs.Ytgegflgmdcdkbaa
