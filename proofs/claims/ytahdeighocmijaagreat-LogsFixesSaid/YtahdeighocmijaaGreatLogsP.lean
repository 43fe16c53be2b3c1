/- logs: the plain law of the fix and of what is told. -/
import Derived.Test.YtahdeighocmijaaGreatTrM
import Derived.Test.YtahdeighocmijaaGreatFsM
namespace Go.Proofs.YtahdeighocmijaaGreat
set_option linter.unusedSimpArgs false
set_option linter.unusedVariables false
open Go.RowKit
open Crc (Bytes)
open Cod (six)

def nmT : ByteArray := ⟨#[116, 114, 97, 99, 101]⟩
def nmL : ByteArray := ⟨#[108, 111, 99, 107, 47, 108, 111, 103]⟩
def nmP : ByteArray := ⟨#[116, 109, 112, 47, 49, 46, 49, 46, 50]⟩
theorem nmT_ok : fileB nmT = true := by kernel_rfl
theorem nmL_ok : fileB nmL = true := by kernel_rfl
theorem nmP_ok : fileB nmP = true := by kernel_rfl
theorem nmTP : nmT.data.toList ≠ nmP.data.toList := by decide
theorem nmTL : nmT.data.toList ≠ nmL.data.toList := by decide
theorem nmLP : nmL.data.toList ≠ nmP.data.toList := by decide
theorem nmPT : nmP ≠ nmT := fun h => absurd (congrArg (fun b => b.data.toList) h) (by decide)
/-- The files of the laws of the trace: the trace, the lock, no temp. -/
structure LS (R : Int) (S : Fs) (T : Option (List Int × Int)) (L : List Int × Int) : Prop where
  t : S.m nmT.data.toList = T
  l : S.m nmL.data.toList = some L
  p : S.m nmP.data.toList = none
  cuts : S.cuts = false
  room : S.room = R
  used : S.used = tl T + L.1.length
  ts : ∀ x, T = some x → 1 ≤ x.2 ∧ x.2 ≤ S.last
  ls : L.2 ≤ S.last
  l0 : 0 ≤ S.last
theorem by_tl {S : Fs} {T : Option (List Int × Int)} (h : S.m nmT.data.toList = T) : ((S.by nmT).length : Int) = tl T := by
  unfold Fs.by tl; rw [h]; cases T <;> rfl
/-- The trace written anew. -/
theorem LS.write {R : Int} {S : Fs} {T : Option (List Int × Int)} {L : List Int × Int} (h : LS R S T L) (l : List Int) : LS R (S.write nmT l) (some (l, S.last + 1)) L := by
  have h1 := by_tl h.t
  have h2 := h.l0
  have h3 := h.ls
  refine ⟨wr_same _ _ _, (wr_other S l nmTL.symm).trans h.l, (wr_other S l nmTP.symm).trans h.p, h.cuts, h.room, ?_, ?_, ?_, ?_⟩
  · show S.used + ((l.length : Int) - ((S.by nmT).length : Int)) = (l.length : Int) + L.1.length
    rw [h.used, h1]; omega
  · intro x hx; cases hx; show 1 ≤ S.last + 1 ∧ S.last + 1 ≤ S.last + 1; omega
  · show L.2 ≤ S.last + 1; omega
  · show 0 ≤ S.last + 1; omega
/-- The lock written anew. -/
theorem LS.lock {R : Int} {S : Fs} {T : Option (List Int × Int)} {L : List Int × Int} (h : LS R S T L) (l : List Int) : LS R (S.write nmL l) T (l, S.last + 1) := by
  have h1 := (by_of h.l).1
  have h2 := h.l0
  have h3 := h.ls
  refine ⟨(wr_other S l nmTL).trans h.t, wr_same _ _ _, (wr_other S l nmLP.symm).trans h.p, h.cuts, h.room, ?_, ?_, ?_, ?_⟩
  · show S.used + ((l.length : Int) - ((S.by nmL).length : Int)) = tl T + (l.length : Int)
    rw [h.used, h1]; omega
  · intro x hx; have := h.ts x hx; show 1 ≤ x.2 ∧ x.2 ≤ S.last + 1; omega
  · show S.last + 1 ≤ S.last + 1; omega
  · show 0 ≤ S.last + 1; omega
/-- A fix. -/
structure Fix where
  gs : List (ByteArray × Int)
  temp : ByteArray
  at_ : Int
  told : Int
  b : List Int
  tn : ByteArray
  ts : Int
/-- What reading the trace does. -/
def readX (S : Fs) (s : Fix) (ds : List Dn) (r : List Int) : Int × Fix :=
  if (S.readF nmT).1 ≠ 0 then (0, { s with at_ := 1 })
  else if r = [] then (1, { s with at_ := 4, told := 1, tn := nmT, ts := (S.readF nmT).2.2 })
  else (0, { s with at_ := 1, b := tr ds, gs := s.gs ++ [(nmT, (S.readF nmT).2.2)], tn := nmT, ts := (S.readF nmT).2.2 })
/-- What a step does. -/
def stepX (ds : List Dn) (r : List Int) (S : Fs) (s : Fix) : Int × Fix × Fs :=
  if s.at_ = 0 then ((readX S s ds r).1, (readX S s ds r).2, S)
  else if s.at_ = 1 then
    if (S.putF s.temp s.b).1.2 = 0 then (0, { s with at_ := 2 }, (S.putF s.temp s.b).2)
    else if (S.putF s.temp s.b).1.2 = 2 then (4, { s with at_ := 4, told := 4 }, (S.putF s.temp s.b).2)
    else (3, { s with at_ := 4, told := 3 }, (S.putF s.temp s.b).2)
  else if s.at_ = 2 then
    if (S.moveF s.temp nmT s.gs).1.2 ≠ 0 then (0, { s with at_ := 3 }, (S.moveF s.temp nmT s.gs).2)
    else (1, { s with at_ := 4, told := 1, tn := nmT, ts := (S.moveF s.temp nmT s.gs).1.1 }, (S.moveF s.temp nmT s.gs).2)
  else if s.at_ = 3 then (2, { s with at_ := 4, told := 2 }, (S.dropF s.temp []).2)
  else (s.told, s, S)
/-- A new fix. -/
def fix0 (st : Int) : Fix := ⟨[(nmL, st)], nmP, 0, 0, [], ⟨#[]⟩, 0⟩
/-- Some steps of a fix, of which the last one holds. -/
structure Run (ds : List Dn) (r : List Int) (S0 : Fs) (st : Int) (m : Nat) (X : Nat → Int × Fix × Fs) (S' : Fs) (ts : Int) : Prop where
  m0 : 1 ≤ m
  m1 : m ≤ 3
  zero : X 0 = (0, fix0 st, S0)
  step : ∀ q, q < m → stepX ds r (X q).2.2 (X q).2.1 = X (q + 1)
  work : ∀ q, q < m → (X q).1 = 0
  first : ∀ q, q < m → (X q).2.1.at_ = q
  hold : (X m).1 = 1
  fs : (X m).2.2 = S'
  at_ : (X m).2.1.at_ = 4
  told : (X m).2.1.told = 1
  tn : (X m).2.1.tn = nmT
  tts : (X m).2.1.ts = ts
def X4 (a b c d : Int × Fix × Fs) (n : Nat) : Int × Fix × Fs := match n with | 0 => a | 1 => b | 2 => c | _ => d
theorem run_whole {ds : List Dn} {R : Int} {S : Fs} {ts : Int} {L : List Int × Int} (h : LS R S (some (tr ds, ts)) L) : ∃ X, Run ds [] S L.2 1 X S ts := by
  have hr := readF_of nmT_ok h.t
  refine ⟨X4 (0, fix0 L.2, S) (1, { fix0 L.2 with at_ := 4, told := 1, tn := nmT, ts := ts }, S) (0, fix0 L.2, S) (0, fix0 L.2, S), by omega, by omega, rfl, ?_, ?_, ?_, rfl, rfl, rfl, rfl, rfl, rfl⟩
  · intro q hq
    obtain rfl : q = 0 := by omega
    show stepX ds [] S (fix0 L.2) = _
    unfold stepX readX
    rw [hr, if_pos (show (fix0 L.2).at_ = 0 from rfl), if_neg (by simp), if_pos rfl]
    rfl
  · intro q hq; obtain rfl : q = 0 := (by omega); rfl
  · intro q hq; obtain rfl : q = 0 := (by omega); rfl
/-- No files but the trace, the lock and the temp. -/
def Few (S : Fs) : Prop := ∀ key, key ≠ nmT.data.toList → key ≠ nmL.data.toList → key ≠ nmP.data.toList → S.m key = none
theorem Few.write {S : Fs} (h : Few S) {s : ByteArray} (hs : s = nmT ∨ s = nmL ∨ s = nmP) (l : List Int) : Few (S.write s l) := fun key h1 h2 h3 => by
  show (if key = s.data.toList then some (l, S.last + 1) else S.m key) = none
  rw [if_neg (by rintro rfl; rcases hs with rfl | rfl | rfl; exact h1 rfl; exact h2 rfl; exact h3 rfl)]
  exact h key h1 h2 h3
theorem Few.gone {S : Fs} (h : Few S) (s : ByteArray) : Few (S.gone s) := fun key h1 h2 h3 => by
  show (if key = s.data.toList then none else S.m key) = none
  by_cases hk : key = s.data.toList
  · rw [if_pos hk]
  · rw [if_neg hk]; exact h key h1 h2 h3
/-- The last two steps. -/
theorem run_two {ds : List Dn} {r : List Int} {R : Int} {S : Fs} {T : Option (List Int × Int)} {L : List Int × Int} (h : LS R S T L) (s : Fix) (b : List Int) (h1 : s.at_ = 1) (h2 : s.temp = nmP) (h3 : s.b = b) (h4 : (S.write nmP b).bad s.gs = false) (hu : tl T + L.1.length + b.length ≤ R) :
    ∃ S', stepX ds r S s = (0, { s with at_ := 2 }, S.write nmP b) ∧ stepX ds r (S.write nmP b) { s with at_ := 2 } = (1, { s with at_ := 4, told := 1, tn := nmT, ts := S'.last }, S') ∧ LS R S' (some (b, S'.last)) L ∧ S.last < S'.last ∧ (Few S → Few S') := by
  have hby := (by_none h.p).1
  have hl0 := h.l0
  have hls := h.ls
  have hput : S.putF nmP b = ((S.last + 1, 0), S.write nmP b) := putF_ok nmP_ok (by rw [hby, h.used, h.room]; simp; omega)
  have hb2 := by_of (wr_same S nmP b)
  have hmv : (S.write nmP b).moveF nmP nmT s.gs = ((S.last + 1 + 1, 0), ((S.write nmP b).gone nmP).write nmT b) := by
    have := moveF_ok (S := S.write nmP b) (gs := s.gs) nmP_ok nmT_ok nmPT h4 hb2.2.2
    rw [hb2.1] at this
    exact this
  refine ⟨((S.write nmP b).gone nmP).write nmT b, ?_, ?_, ?_, ?_, fun hf => ((hf.write (.inr (.inr rfl)) b).gone nmP).write (.inl rfl) b⟩
  · unfold stepX
    rw [h1, if_neg (by decide), if_pos rfl, h2, h3, hput, if_pos rfl]
  · unfold stepX
    rw [if_neg (show ¬ ({ s with at_ := 2 } : Fix).at_ = 0 by simp), if_neg (show ¬ ({ s with at_ := 2 } : Fix).at_ = 1 by simp), if_pos rfl]
    show (if ((S.write nmP b).moveF s.temp nmT s.gs).1.2 ≠ 0 then _ else _) = _
    rw [h2, hmv, if_neg (by simp)]
    rfl
  · have hg : LS R ((S.write nmP b).gone nmP) T L := by
      refine ⟨((gone_other _ nmTP).trans (wr_other S b nmTP)).trans h.t, ((gone_other _ nmLP).trans (wr_other S b nmLP)).trans h.l, gone_same _ _, h.cuts, h.room, ?_, ?_, ?_, ?_⟩
      · show S.used + ((b.length : Int) - ((S.by nmP).length : Int)) - (((S.write nmP b).by nmP).length : Int) = _
        rw [hb2.1, hby, h.used]; simp
      · intro x hx; have := h.ts x hx; show 1 ≤ x.2 ∧ x.2 ≤ S.last + 1; omega
      · show L.2 ≤ S.last + 1; omega
      · show 0 ≤ S.last + 1; omega
    exact hg.write b
  · show S.last < S.last + 1 + 1; omega
theorem run_none {R : Int} {S : Fs} {L : List Int × Int} (h : LS R S none L) (hu : (L.1.length : Int) ≤ R) (ds : List Dn) (r : List Int) : ∃ X S', Run ds r S L.2 3 X S' S'.last ∧ LS R S' (some ([], S'.last)) L ∧ S.last < S'.last ∧ (Few S → Few S') := by
  have hr := readF_none nmT_ok h.t
  have hbad : (S.write nmP []).bad [(nmL, L.2)] = false := by
    rw [bad_one]; exact off_of ((wr_other S [] nmLP).trans h.l)
  obtain ⟨S', e1, e2, hls, hlt⟩ := run_two (ds := ds) (r := r) h { fix0 L.2 with at_ := 1 } [] rfl rfl rfl hbad (by show (0 : Int) + L.1.length + 0 ≤ R; omega)
  refine ⟨X4 (0, fix0 L.2, S) (0, { fix0 L.2 with at_ := 1 }, S) (0, { fix0 L.2 with at_ := 2 }, S.write nmP []) (1, { fix0 L.2 with at_ := 4, told := 1, tn := nmT, ts := S'.last }, S'), S', ⟨by omega, by omega, rfl, ?_, ?_, ?_, rfl, rfl, rfl, rfl, rfl, rfl⟩, hls, hlt⟩
  · intro q hq
    have : q = 0 ∨ q = 1 ∨ q = 2 := by omega
    rcases this with rfl | rfl | rfl
    · show stepX ds r S (fix0 L.2) = _
      unfold stepX readX
      rw [hr, if_pos (show (fix0 L.2).at_ = 0 from rfl), if_pos (by simp)]
      rfl
    · exact e1
    · exact e2
  · intro q hq
    have : q = 0 ∨ q = 1 ∨ q = 2 := by omega
    rcases this with rfl | rfl | rfl <;> rfl
  · intro q hq
    have : q = 0 ∨ q = 1 ∨ q = 2 := by omega
    rcases this with rfl | rfl | rfl <;> rfl
theorem run_cut {ds : List Dn} {r : List Int} {R : Int} {S : Fs} {ts : Int} {L : List Int × Int} (h : LS R S (some (tr ds ++ r, ts)) L) (hr0 : r ≠ []) (hu : ((tr ds ++ r).length : Int) + L.1.length + (tr ds).length ≤ R) : ∃ X S', Run ds r S L.2 3 X S' S'.last ∧ LS R S' (some (tr ds, S'.last)) L ∧ S.last < S'.last ∧ (Few S → Few S') := by
  have hr := readF_of nmT_ok h.t
  have hbad : (S.write nmP (tr ds)).bad [(nmL, L.2), (nmT, ts)] = false := by
    rw [bad_two, off_of ((wr_other S (tr ds) nmLP).trans h.l), off_of ((wr_other S (tr ds) nmTP).trans h.t)]; rfl
  obtain ⟨S', e1, e2, hls, hlt⟩ := run_two (ds := ds) (r := r) h { fix0 L.2 with at_ := 1, b := tr ds, gs := [(nmL, L.2), (nmT, ts)], tn := nmT, ts := ts } (tr ds) rfl rfl rfl hbad hu
  refine ⟨X4 (0, fix0 L.2, S) (0, { fix0 L.2 with at_ := 1, b := tr ds, gs := [(nmL, L.2), (nmT, ts)], tn := nmT, ts := ts }, S) (0, { fix0 L.2 with at_ := 2, b := tr ds, gs := [(nmL, L.2), (nmT, ts)], tn := nmT, ts := ts }, S.write nmP (tr ds)) (1, { fix0 L.2 with b := tr ds, gs := [(nmL, L.2), (nmT, ts)], at_ := 4, told := 1, tn := nmT, ts := S'.last }, S'), S', ⟨by omega, by omega, rfl, ?_, ?_, ?_, rfl, rfl, rfl, rfl, rfl, rfl⟩, hls, hlt⟩
  · intro q hq
    have : q = 0 ∨ q = 1 ∨ q = 2 := by omega
    rcases this with rfl | rfl | rfl
    · show stepX ds r S (fix0 L.2) = _
      unfold stepX readX
      rw [hr, if_pos (show (fix0 L.2).at_ = 0 from rfl), if_neg (by simp), if_neg hr0]
      rfl
    · exact e1
    · exact e2
  · intro q hq
    have : q = 0 ∨ q = 1 ∨ q = 2 := by omega
    rcases this with rfl | rfl | rfl <;> rfl
  · intro q hq
    have : q = 0 ∨ q = 1 ∨ q = 2 := by omega
    rcases this with rfl | rfl | rfl <;> rfl
/-- What is told. -/
theorem tell_ok {R : Int} {S : Fs} {b : List Int} {ts : Int} {L : List Int × Int} (h : LS R S (some (b, ts)) L) (x : List Int) (hu : (b.length : Int) + x.length + L.1.length ≤ R) :
    S.appF nmT x [(nmL, L.2), (nmT, ts)] = ((S.last + 1, 0), S.write nmT (b ++ x)) ∧ LS R (S.write nmT (b ++ x)) (some (b ++ x, S.last + 1)) L := by
  have hbad : S.bad [(nmL, L.2), (nmT, ts)] = false := by rw [bad_two, off_of h.l, off_of h.t]; rfl
  refine ⟨?_, h.write _⟩
  have := appF_ok (S := S) (s := nmT) (l := x) (gs := [(nmL, L.2), (nmT, ts)]) nmT_ok hbad h.cuts (by rw [h.used, h.room]; show (b.length : Int) + L.1.length + x.length ≤ R; omega)
  rw [(by_of h.t).1] at this
  exact this
theorem tell_old {R : Int} {S : Fs} {b : List Int} {ts q : Int} {L : List Int × Int} (h : LS R S (some (b, ts)) L) (x : List Int) (hq : ts ≠ q) : S.appF nmT x [(nmL, L.2), (nmT, q)] = ((0, 5), S) := by
  refine appF_bad nmT_ok ?_
  rw [bad_two, off_ne h.t hq]; simp
theorem tell_lost {R : Int} {S : Fs} {T : Option (List Int × Int)} {ts q : Int} {L : List Int × Int} (h : LS R S T L) (x : List Int) (hq : L.2 ≠ q) : S.appF nmT x [(nmL, q), (nmT, ts)] = ((0, 5), S) := by
  refine appF_bad nmT_ok ?_
  rw [bad_two, off_ne h.l hq]; simp
theorem tell_cut {R : Int} {S : Fs} {b : List Int} {ts : Int} {L : List Int × Int} (h : LS R S (some (b, ts)) L) (x : List Int) (k : Nat) (hk : k < x.length) :
    ∃ S' ts', ({ S with cuts := true, cut := max (k : Int) 0 } : Fs).appF nmT x [(nmL, L.2), (nmT, ts)] = ((0, 7), S') ∧ LS R S' (some (b ++ x.take k, ts')) L := by
  have hbad : ({ S with cuts := true, cut := max (k : Int) 0 } : Fs).bad [(nmL, L.2), (nmT, ts)] = false := by
    rw [bad_two, off_of (S := { S with cuts := true, cut := max (k : Int) 0 }) h.l, off_of (S := { S with cuts := true, cut := max (k : Int) 0 }) h.t]; rfl
  have hS : LS R { S with cuts := false, cut := max (k : Int) 0 } (some (b, ts)) L := ⟨h.t, h.l, h.p, rfl, h.room, h.used, h.ts, h.ls, h.l0⟩
  rcases Nat.eq_zero_or_pos k with h0 | h0
  · subst h0
    refine ⟨_, ts, appF_cut0 nmT_ok hbad rfl rfl, ?_⟩
    rw [List.take_zero, List.append_nil]
    exact hS
  · refine ⟨_, S.last + 1, appF_cut (k := k) nmT_ok hbad rfl (by show max (k : Int) 0 = k; omega) hk h0, ?_⟩
    have := (by_of (S := { S with cuts := true, cut := max (k : Int) 0 }) h.t).1
    rw [this]
    exact hS.write _
theorem put_lock {R : Int} {S : Fs} {T : Option (List Int × Int)} {L : List Int × Int} (h : LS R S T L) (l : List Int) (hu : tl T + l.length ≤ R) : S.putF nmL l = ((S.last + 1, 0), S.write nmL l) ∧ LS R (S.write nmL l) T (l, S.last + 1) :=
  ⟨putF_ok nmL_ok (by rw [h.used, h.room, (by_of h.l).1]; omega), h.lock l⟩
theorem put_trace {R : Int} {S : Fs} {T : Option (List Int × Int)} {L : List Int × Int} (h : LS R S T L) (l : List Int) (hu : (L.1.length : Int) + l.length ≤ R) : S.putF nmT l = ((S.last + 1, 0), S.write nmT l) ∧ LS R (S.write nmT l) (some (l, S.last + 1)) L :=
  ⟨putF_ok nmT_ok (by rw [h.used, h.room, by_tl h.t]; omega), h.write l⟩
/-- The first lock, ahead of any trace or behind one. -/
theorem ls_new (R : Int) (l : List Int) (h0 : 0 ≤ R) (hR : R ≤ 1073741824) (hl : (l.length : Int) ≤ R) : (fs0 R).putF nmL l = ((1, 0), (fs0 R).write nmL l) ∧ LS R ((fs0 R).write nmL l) none (l, 1) := by
  have hroom : (fs0 R).room = R := by show roomOf R = R; unfold roomOf; omega
  refine ⟨putF_ok nmL_ok ?_, rfl, wr_same _ _ _, rfl, rfl, hroom, ?_, (fun x h => by cases h), Int.le_refl _, (show (0 : Int) ≤ 1 by decide)⟩
  · rw [hroom]; show (0 : Int) + ((l.length : Int) - 0) ≤ R; omega
  · show (0 : Int) + ((l.length : Int) - 0) = 0 + (l.length : Int); omega
theorem ls_new2 (R : Int) (b l : List Int) (h0 : 0 ≤ R) (hR : R ≤ 1073741824) (hl : (b.length : Int) + l.length ≤ R) : (fs0 R).putF nmT b = ((1, 0), (fs0 R).write nmT b) ∧ ((fs0 R).write nmT b).putF nmL l = ((2, 0), ((fs0 R).write nmT b).write nmL l) ∧ LS R (((fs0 R).write nmT b).write nmL l) (some (b, 1)) (l, 2) := by
  have hroom : (fs0 R).room = R := by show roomOf R = R; unfold roomOf; omega
  refine ⟨putF_ok nmT_ok ?_, putF_ok nmL_ok ?_, ?_⟩
  · rw [hroom]; show (0 : Int) + ((b.length : Int) - 0) ≤ R; omega
  · show (0 : Int) + ((b.length : Int) - 0) + ((l.length : Int) - 0) ≤ roomOf R
    unfold roomOf; omega
  · refine ⟨(wr_other _ _ nmTL).trans (wr_same _ _ _), wr_same _ _ _, rfl, rfl, hroom, ?_, ?_, Int.le_refl _, (show (0 : Int) ≤ 2 by decide)⟩
    · show (0 : Int) + ((b.length : Int) - 0) + ((l.length : Int) - 0) = (b.length : Int) + (l.length : Int); omega
    · intro x hx; cases hx; exact (show (1 : Int) ≤ 1 ∧ (1 : Int) ≤ 2 by decide)
end Go.Proofs.YtahdeighocmijaaGreat
