/- Locks: three hands at one lock, step by step (plain). -/
import Derived.Test.YtahdeighocmijaaGreatDoorLLost
namespace Go.Proofs.YtahdeighocmijaaGreatDoor
set_option linter.unusedSimpArgs false
set_option linter.unusedVariables false
open Go.RowKit
open Crc (Bytes)
open Cod (six held)
theorem tmpJ_ne0 : ∀ j ∈ [0, 1, 2], ∀ k ∈ [0, 1, 2], j ≠ k → ∀ c ∈ [0, 1, 2, 3, 4, 5], ∀ d ∈ [0, 1, 2, 3, 4, 5], (tmpOf j 1 c).data.toList ≠ (tmpOf k 1 d).data.toList := by decide +kernel
theorem in3 {j : Nat} (h : j < 3) : j ∈ [0, 1, 2] := by simp; omega
theorem in6 {j : Nat} (h : j < 6) : j ∈ [0, 1, 2, 3, 4, 5] := by simp; omega
theorem tmpJ_ne (j : Nat) (hj : j < 3) (k : Nat) (hk : k < 3) (h : j ≠ k) (c : Nat) (hc : c < 6) (d : Nat) (hd : d < 6) : (tmpOf j 1 c).data.toList ≠ (tmpOf k 1 d).data.toList :=
  tmpJ_ne0 j (in3 hj) k (in3 hk) h c (in6 hc) d (in6 hd)
def updT (tp : Nat → Option (ByteArray × List Int)) (j : Nat) (v : Option (ByteArray × List Int)) : Nat → Option (ByteArray × List Int) := fun k => if k = j then v else tp k
theorem updT_same (tp : Nat → Option (ByteArray × List Int)) (j : Nat) (v : Option (ByteArray × List Int)) : updT tp j v j = v := by unfold updT; rw [if_pos rfl]
theorem updT_other {tp : Nat → Option (ByteArray × List Int)} {j k : Nat} {v : Option (ByteArray × List Int)} (h : k ≠ j) : updT tp j v k = tp k := by unfold updT; rw [if_neg h]
def cn (o : Option (ByteArray × List Int)) : Int := match o with | none => 0 | some _ => 34
def cnt3 (tp : Nat → Option (ByteArray × List Int)) : Int := cn (tp 0) + cn (tp 1) + cn (tp 2)
theorem cn_bd (o : Option (ByteArray × List Int)) : 0 ≤ cn o ∧ cn o ≤ 34 := by cases o <;> simp [cn]
theorem cnt3_bd (tp : Nat → Option (ByteArray × List Int)) : 0 ≤ cnt3 tp ∧ cnt3 tp ≤ 102 := by
  have := cn_bd (tp 0); have := cn_bd (tp 1); have := cn_bd (tp 2); unfold cnt3; omega
theorem cnt3_upd {tp : Nat → Option (ByteArray × List Int)} {j : Nat} (hj : j < 3) (v : Option (ByteArray × List Int)) : cnt3 (updT tp j v) = cnt3 tp - cn (tp j) + cn v := by
  have : j = 0 ∨ j = 1 ∨ j = 2 := by omega
  rcases this with rfl | rfl | rfl
  · unfold cnt3; rw [updT_same, updT_other (by decide), updT_other (by decide)]; omega
  · unfold cnt3; rw [updT_same, updT_other (by decide), updT_other (by decide)]; omega
  · unfold cnt3; rw [updT_same, updT_other (by decide), updT_other (by decide)]; omega
/-- The files: the lock, and the temp that a hand may have. -/
structure Core (S : Fs) (C : Option (List Int × Int)) (tp : Nat → Option (ByteArray × List Int)) : Prop where
  c : S.m nmC.data.toList = C
  t1 : ∀ j n b, j < 3 → tp j = some (n, b) → ∃ st, S.m n.data.toList = some (b, st)
  t2 : ∀ key, key ≠ nmC.data.toList → S.m key ≠ none → ∃ j n b, j < 3 ∧ tp j = some (n, b) ∧ key = n.data.toList
  nm : ∀ j n b, j < 3 → tp j = some (n, b) → b.length = 34 ∧ ∃ c, c < 6 ∧ n = tmpOf j 1 c
  cuts : S.cuts = false
  room : S.room = 1048576
  l0 : 0 ≤ S.last
  used : S.used = tl C + cnt3 tp
  ts : ∀ x, C = some x → 1 ≤ x.2 ∧ x.2 ≤ S.last ∧ x.1.length = 34
section
variable {S : Fs} {C : Option (List Int × Int)} {tp : Nat → Option (ByteArray × List Int)} {j c : Nat} {b : List Int} {n : ByteArray}
theorem Core.tl_bd (h : Core S C tp) : 0 ≤ tl C ∧ tl C ≤ 34 := by
  cases hC : C with
  | none => exact ⟨by decide, by decide⟩
  | some x => have := (h.ts x hC).2.2; show 0 ≤ (x.1.length : Int) ∧ (x.1.length : Int) ≤ 34; omega
theorem Core.free (h : Core S C tp) (hj : j < 3) (hc : c < 6) (ht : tp j = none) : S.m (tmpOf j 1 c).data.toList = none := by
  cases hm : S.m (tmpOf j 1 c).data.toList with
  | none => rfl
  | some x =>
    obtain ⟨k, n, b, hk, h1, h2⟩ := h.t2 _ (tmp_ne _ _ _) (by rw [hm]; simp)
    obtain ⟨_, d, hd, rfl⟩ := h.nm k n b hk h1
    by_cases hjk : j = k
    · subst hjk; rw [ht] at h1; cases h1
    · exact absurd h2 (tmpJ_ne j hj k hk hjk c hc d hd)
theorem Core.put (h : Core S C tp) (hj : j < 3) (hc : c < 6) (ht : tp j = none) (hb : b.length = 34) : S.putF (tmpOf j 1 c) b = ((S.last + 1, 0), S.write (tmpOf j 1 c) b) ∧ Core (S.write (tmpOf j 1 c) b) C (updT tp j (some (tmpOf j 1 c, b))) := by
  have hf := h.free hj hc ht
  have h1 := (by_none hf).1
  have h2 := h.tl_bd
  have h3 := cnt3_bd tp
  have h4 := h.l0
  refine ⟨putF_ok (tmp_ok _ _ _ (by omega) (by decide) (by omega)) (by rw [h1, h.used, h.room, hb, List.length_nil]; omega), ?_⟩
  refine ⟨(wr_other S b (Ne.symm (tmp_ne _ _ _))).trans h.c, fun k n' b' hk hkt => ?_, fun key k1 k2 => ?_, fun k n' b' hk hkt => ?_, h.cuts, h.room, ?_, ?_, fun x hx => ?_⟩
  · by_cases hkj : k = j
    · subst hkj; rw [updT_same] at hkt; cases hkt; exact ⟨_, wr_same _ _ _⟩
    · rw [updT_other hkj] at hkt
      obtain ⟨_, d, hd, rfl⟩ := h.nm k n' b' hk hkt
      obtain ⟨st, hst⟩ := h.t1 k _ b' hk hkt
      exact ⟨st, (wr_other S b (tmpJ_ne k hk j hj hkj d hd c hc)).trans hst⟩
  · by_cases hkey : key = (tmpOf j 1 c).data.toList
    · exact ⟨j, _, b, hj, updT_same _ _ _, hkey⟩
    · have : S.m key ≠ none := by
        intro e; apply k2
        show (if key = (tmpOf j 1 c).data.toList then _ else _) = _
        rw [if_neg hkey]; exact e
      obtain ⟨k, n', b', hk, h5, h6⟩ := h.t2 key k1 this
      have hkj : k ≠ j := by rintro rfl; rw [ht] at h5; cases h5
      exact ⟨k, n', b', hk, by rw [updT_other hkj]; exact h5, h6⟩
  · by_cases hkj : k = j
    · subst hkj; rw [updT_same] at hkt; cases hkt; exact ⟨hb, c, hc, rfl⟩
    · rw [updT_other hkj] at hkt; exact h.nm k n' b' hk hkt
  · show 0 ≤ S.last + 1; omega
  · show S.used + ((b.length : Int) - ((S.by (tmpOf j 1 c)).length : Int)) = _
    rw [h1, h.used, hb, cnt3_upd hj, ht, List.length_nil]; simp only [cn]; omega
  · have := h.ts x hx; exact ⟨this.1, by show x.2 ≤ S.last + 1; omega, this.2.2⟩
theorem Core.gone (h : Core S C tp) (hj : j < 3) (ht : tp j = some (n, b)) : S.dropF n [] = (0, S.gone n) ∧ Core (S.gone n) C (updT tp j none) := by
  obtain ⟨hb, c, hc, rfl⟩ := h.nm j n b hj ht
  obtain ⟨st0, hst0⟩ := h.t1 j _ b hj ht
  have h1 := by_of hst0
  refine ⟨dropF_ok (tmp_ok _ _ _ (by omega) (by decide) (by omega)) h1.2.2, ?_⟩
  refine ⟨(gone_other S (Ne.symm (tmp_ne _ _ _))).trans h.c, fun k n' b' hk hkt => ?_, fun key k1 k2 => ?_, fun k n' b' hk hkt => ?_, h.cuts, h.room, h.l0, ?_, h.ts⟩
  · by_cases hkj : k = j
    · subst hkj; rw [updT_same] at hkt; cases hkt
    · rw [updT_other hkj] at hkt
      obtain ⟨_, d, hd, rfl⟩ := h.nm k n' b' hk hkt
      obtain ⟨st, hst⟩ := h.t1 k _ b' hk hkt
      exact ⟨st, (gone_other S (tmpJ_ne k hk j hj hkj d hd c hc)).trans hst⟩
  · have hkey : key ≠ (tmpOf j 1 c).data.toList := by rintro rfl; exact k2 (gone_same _ _)
    have : S.m key ≠ none := by
      intro e; apply k2
      show (if key = (tmpOf j 1 c).data.toList then _ else _) = _
      rw [if_neg hkey]; exact e
    obtain ⟨k, n', b', hk, h5, h6⟩ := h.t2 key k1 this
    have hkj : k ≠ j := by rintro rfl; rw [ht] at h5; cases h5; exact hkey h6
    exact ⟨k, n', b', hk, by rw [updT_other hkj]; exact h5, h6⟩
  · by_cases hkj : k = j
    · subst hkj; rw [updT_same] at hkt; cases hkt
    · rw [updT_other hkj] at hkt; exact h.nm k n' b' hk hkt
  · show S.used - ((S.by (tmpOf j 1 c)).length : Int) = _
    rw [h1.1, h.used, hb, cnt3_upd hj, ht]; simp only [cn]; omega
theorem Core.write (h : Core S C tp) (hb : b.length = 34) : Core (S.write nmC b) (some (b, S.last + 1)) tp := by
  have h4 := h.l0
  have hby : ((S.by nmC).length : Int) = tl C := by have := h.c; unfold Fs.by tl; rw [this]; cases C <;> rfl
  refine ⟨wr_same _ _ _, fun k n' b' hk hkt => ?_, fun key k1 k2 => ?_, h.nm, h.cuts, h.room, ?_, ?_, fun x hx => ?_⟩
  · obtain ⟨_, d, hd, rfl⟩ := h.nm k n' b' hk hkt
    obtain ⟨st, hst⟩ := h.t1 k _ b' hk hkt
    exact ⟨st, (wr_other S b (tmp_ne _ _ _)).trans hst⟩
  · refine h.t2 key k1 fun e => k2 ?_
    show (if key = nmC.data.toList then _ else _) = _
    rw [if_neg k1]; exact e
  · show 0 ≤ S.last + 1; omega
  · show S.used + ((b.length : Int) - ((S.by nmC).length : Int)) = (b.length : Int) + cnt3 tp
    rw [hby, h.used]; omega
  · cases hx; show 1 ≤ S.last + 1 ∧ S.last + 1 ≤ S.last + 1 ∧ b.length = 34; omega
theorem Core.move {c : List Int} {st : Int} (h : Core S (some (c, st)) tp) (hj : j < 3) (ht : tp j = some (n, b)) : S.moveF n nmC [(nmC, st)] = ((S.last + 1, 0), (S.gone n).write nmC b) ∧ Core ((S.gone n).write nmC b) (some (b, S.last + 1)) (updT tp j none) := by
  have hg := (h.gone hj ht).2
  obtain ⟨hb, d, hd, rfl⟩ := h.nm j n b hj ht
  obtain ⟨st0, hst0⟩ := h.t1 j _ b hj ht
  have h1 := by_of hst0
  have hbd : S.bad [(nmC, st)] = false := by rw [bad_one]; exact off_of h.c
  have := moveF_ok (S := S) (gs := [(nmC, st)]) (tmp_ok j 1 d (by omega) (by decide) (by omega)) nmC_ok (ba_ne (tmp_ne _ _ _)) hbd h1.2.2
  rw [h1.1] at this
  exact ⟨this, hg.write hb⟩
theorem Core.lost (h : Core S C tp) (hj : j < 3) (ht : tp j = some (n, b)) {q : Int} (hq : ∀ c, C ≠ some (c, q)) : S.moveF n nmC [(nmC, q)] = ((0, 5), S) := by
  obtain ⟨hb, d, hd, rfl⟩ := h.nm j n b hj ht
  refine moveF_bad (tmp_ok _ _ _ (by omega) (by decide) (by omega)) nmC_ok (ba_ne (tmp_ne _ _ _)) ?_
  rw [bad_one]
  cases hC : C with
  | none => exact off_none (h.c.trans hC)
  | some x =>
    obtain ⟨c, st⟩ := x
    exact off_ne (h.c.trans hC) (by rintro rfl; exact hq c hC)
theorem Core.make (h : Core S none tp) (hb : b.length = 34) : S.makeF nmC b = ((S.last + 1, 0), S.write nmC b) := by
  have h3 := cnt3_bd tp
  exact makeF_ok nmC_ok h.c (by rw [(by_none h.c).1, h.used, h.room, hb, List.length_nil]; show (0 : Int) + cnt3 tp + _ ≤ _; omega)
end
theorem makeF_there {S : Fs} {s : ByteArray} {l : List Int} (hf : fileB s = true) (h : S.has s = true) : S.makeF s l = ((0, 3), S) := by
  unfold Fs.makeF
  rw [hf, h, if_neg (by simp), if_pos rfl]
theorem nodup3 {α : Type} {a b c : α} {l : List α} (hn : l.Nodup) (h : ∀ x ∈ l, x = a ∨ x = b ∨ x = c) : l.length ≤ 3 := by
  match l, hn, h with
  | [], _, _ => simp
  | [_], _, _ => simp
  | [_, _], _, _ => simp
  | [_, _, _], _, _ => simp
  | x :: y :: z :: u :: r, hn, h =>
    exfalso
    simp only [List.nodup_cons, List.mem_cons, not_or] at hn
    have h1 := h x (by simp); have h2 := h y (by simp); have h3 := h z (by simp); have h4 := h u (by simp)
    obtain ⟨⟨a1, a2, a3, _⟩, ⟨b1, b2, _⟩, ⟨c1, _⟩, _⟩ := hn
    rcases h1 with rfl | rfl | rfl <;> rcases h2 with rfl | rfl | rfl <;> rcases h3 with rfl | rfl | rfl <;> rcases h4 with rfl | rfl | rfl <;> simp_all
/-- At most three are left lying. -/
theorem Core.tmp {S : Fs} {C : Option (List Int × Int)} {tp : Nat → Option (ByteArray × List Int)} (h : Core S C tp) {ks : List (List UInt8)} (hk : Ks S ks) : (ks.filter (inB ⟨#[116, 109, 112]⟩)).length ≤ 3 := by
  refine nodup3 (a := match tp 0 with | none => [] | some x => x.1.data.toList) (b := match tp 1 with | none => [] | some x => x.1.data.toList) (c := match tp 2 with | none => [] | some x => x.1.data.toList) ?_ ?_
  · refine (List.Pairwise.filter _ hk.up).imp ?_
    intro a b hab e
    subst e
    exact absurd hab (List.lt_irrefl a)
  · intro key hm
    rw [List.mem_filter] at hm
    have hne : key ≠ nmC.data.toList := by rintro rfl; exact absurd hm.2 (by decide)
    obtain ⟨j, n, b, hj, h1, rfl⟩ := h.t2 key hne (fun e => by have := (hk.mem key).1 hm.1; rw [e] at this; cases this)
    have : j = 0 ∨ j = 1 ∨ j = 2 := by omega
    rcases this with rfl | rfl | rfl
    · left; rw [h1]
    · right; left; rw [h1]
    · right; right; rw [h1]
end Go.Proofs.YtahdeighocmijaaGreatDoor
