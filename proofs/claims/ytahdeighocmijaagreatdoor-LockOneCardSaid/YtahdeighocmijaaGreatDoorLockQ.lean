/- Locks: the plain law of their bytes, of taking one, of writing one. Locks: runs of taking and of writing, where nothing else goes on. -/
import Derived.Test.YtahdeighocmijaaGreatDoorFrM
import Derived.Test.YtahdeighocmijaaGreatDoorFsM
namespace Go.Proofs.YtahdeighocmijaaGreatDoor
set_option linter.unusedSimpArgs false
set_option linter.unusedVariables false
open Go.RowKit
open Crc (Bytes)
open Cod (six held)

/-- Who has a lock. -/
structure Lk where
  who : Int
  inc : Int
  epoch : Int
  till : Int
theorem lk_ext {a b : Lk} (h1 : a.who = b.who) (h2 : a.inc = b.inc) (h3 : a.epoch = b.epoch) (h4 : a.till = b.till) : a = b := by
  cases a; cases b; simp only at h1 h2 h3 h4; subst h1 h2 h3 h4; rfl
def lk0 : Lk := ⟨0, 0, 0, 0⟩
def Lk.raw (l : Lk) : List Int := six l.who ++ (six l.inc ++ (six l.epoch ++ (six l.till ++ [])))
def Lk.bytes (l : Lk) : List Int := framed l.raw
def Lk.ok (l : Lk) : Bool := numB l.who && numB l.inc && numB l.epoch && numB l.till
theorem Lk.raw_len (l : Lk) : l.raw.length = 24 := rfl
theorem Lk.bytes_len (l : Lk) : l.bytes.length = 34 := by unfold Lk.bytes; rw [framed_len, l.raw_len]
theorem Lk.raw_by (l : Lk) : Bytes l.raw := bytes_app (Cod.six_bytes _) (bytes_app (Cod.six_bytes _) (bytes_app (Cod.six_bytes _) (bytes_app (Cod.six_bytes _) (fun x hx => by cases hx))))
theorem Lk.bytes_by (l : Lk) : Bytes l.bytes := framed_bytes l.raw_by
/-- What the one frame that bytes are holds. -/
def aloneF (b : List Int) : Option (List Int) := match oneF b with
  | none => none
  | some x => if x.2 = b.length then some x.1 else none
def lkTop : Int := 1099511627776
/-- The four numbers that bytes are. -/
def fourL (x : List Int) : Option Lk :=
  if (rnum (rnum (rnum (rnum (x, false) lkTop).2 lkTop).2 lkTop).2 lkTop).2 = ([], false) then
    some ⟨(rnum (x, false) lkTop).1, (rnum (rnum (x, false) lkTop).2 lkTop).1, (rnum (rnum (rnum (x, false) lkTop).2 lkTop).2 lkTop).1, (rnum (rnum (rnum (rnum (x, false) lkTop).2 lkTop).2 lkTop).2 lkTop).1⟩
  else none
def openLk (b : List Int) : Option Lk := match aloneF b with
  | none => none
  | some x => fourL x
theorem fourL_eq {x : List Int} {n1 n2 n3 n4 : Int} {s1 s2 s3 s4 : List Int × Bool} (h1 : rnum (x, false) lkTop = (n1, s1)) (h2 : rnum s1 lkTop = (n2, s2)) (h3 : rnum s2 lkTop = (n3, s3)) (h4 : rnum s3 lkTop = (n4, s4)) :
    fourL x = if s4 = ([], false) then some ⟨n1, n2, n3, n4⟩ else none := by
  unfold fourL; simp only [h1, h2, h3, h4]
theorem fourL_raw {l : Lk} (h : l.ok = true) : fourL l.raw = some l := by
  unfold Lk.ok at h
  simp only [Bool.and_eq_true] at h
  obtain ⟨⟨⟨a1, a2⟩, a3⟩, a4⟩ := h
  have b1 := numB_held a1; have b2 := numB_held a2; have b3 := numB_held a3; have b4 := numB_held a4
  have e1 := rnum_app l.who (six l.inc ++ (six l.epoch ++ (six l.till ++ []))) lkTop (by unfold lkTop; omega)
  have e2 := rnum_app l.inc (six l.epoch ++ (six l.till ++ [])) lkTop (by unfold lkTop; omega)
  have e3 := rnum_app l.epoch (six l.till ++ []) lkTop (by unfold lkTop; omega)
  have e4 := rnum_app l.till [] lkTop (by unfold lkTop; omega)
  rw [fourL_eq (x := l.raw) e1 e2 e3 e4, if_pos rfl, b1.1, b2.1, b3.1, b4.1]
theorem aloneF_framed (x : List Int) (hx : x.length ≤ 10000) : aloneF (framed x) = some x := by
  have h := oneF_framed x [] hx
  rw [List.append_nil] at h
  unfold aloneF
  rw [h, framed_len]
  simp; omega
theorem openLk_bytes {l : Lk} (h : l.ok = true) : openLk l.bytes = some l := by
  unfold openLk Lk.bytes
  rw [aloneF_framed _ (by rw [l.raw_len]; omega)]
  exact fourL_raw h
/-- What a lock is for somebody. -/
def lookL (o : Option Lk) (who inc now : Int) : Lk × Int := match o with
  | none => (lk0, 1)
  | some l => if l.epoch = lkTop then (l, 1) else if l.who = who ∧ l.inc = inc ∧ now < l.till then (l, 2) else if l.till ≤ now ∨ (l.who = who ∧ l.inc < inc) then (l, 3) else (l, 4)
/-- Taking a lock. -/
structure Tk where
  file : ByteArray
  temp : ByteArray
  who : Int
  inc : Int
  lease : Int
  at_ : Int
  told : Int
  gn : ByteArray
  gs : Int
  l : Lk
def Tk.end_ (t : Tk) (q : Int) : Tk := { t with at_ := 5, told := q }
def Tk.held (t : Tk) (st : Int) : Tk := { t with gn := t.file, gs := st, at_ := 5, told := 1 }
def failQ (e : Int) : Int := if e = 2 then 4 else 3
def clampN (now : Int) : Int := min (max now 0) 549755813888
def Tk.new (t : Tk) (now epoch : Int) : Lk := ⟨t.who, t.inc, epoch, clampN now + t.lease⟩
def readT (now : Int) (S : Fs) (t : Tk) : Int × Tk :=
  if (S.readF t.file).1 = 4 then (0, { t with at_ := 1 })
  else if (S.readF t.file).1 ≠ 0 then (failQ (S.readF t.file).1, t.end_ (failQ (S.readF t.file).1))
  else if (lookL (openLk (S.readF t.file).2.1) t.who t.inc (clampN now)).2 = 2 then (1, Tk.held { t with l := (lookL (openLk (S.readF t.file).2.1) t.who t.inc (clampN now)).1 } (S.readF t.file).2.2)
  else if (lookL (openLk (S.readF t.file).2.1) t.who t.inc (clampN now)).2 = 3 then (0, { t with l := (lookL (openLk (S.readF t.file).2.1) t.who t.inc (clampN now)).1, gn := t.file, gs := (S.readF t.file).2.2, at_ := 2 })
  else if (lookL (openLk (S.readF t.file).2.1) t.who t.inc (clampN now)).2 = 4 then (2, t.end_ 2)
  else (3, t.end_ 3)
def madeT (now : Int) (S : Fs) (t : Tk) : Int × Tk × Fs :=
  if (S.makeF t.file (t.new now 1).bytes).1.2 = 0 then (1, Tk.held { t with l := t.new now 1 } (S.makeF t.file (t.new now 1).bytes).1.1, (S.makeF t.file (t.new now 1).bytes).2)
  else if (S.makeF t.file (t.new now 1).bytes).1.2 = 3 then (2, Tk.end_ { t with l := t.new now 1 } 2, (S.makeF t.file (t.new now 1).bytes).2)
  else (failQ (S.makeF t.file (t.new now 1).bytes).1.2, Tk.end_ { t with l := t.new now 1 } (failQ (S.makeF t.file (t.new now 1).bytes).1.2), (S.makeF t.file (t.new now 1).bytes).2)
def putT (now : Int) (S : Fs) (t : Tk) : Int × Tk × Fs :=
  if (S.putF t.temp (t.new now (t.l.epoch + 1)).bytes).1.2 ≠ 0 then (failQ (S.putF t.temp (t.new now (t.l.epoch + 1)).bytes).1.2, Tk.end_ { t with l := t.new now (t.l.epoch + 1) } (failQ (S.putF t.temp (t.new now (t.l.epoch + 1)).bytes).1.2), (S.putF t.temp (t.new now (t.l.epoch + 1)).bytes).2)
  else (0, { t with l := t.new now (t.l.epoch + 1), at_ := 3 }, (S.putF t.temp (t.new now (t.l.epoch + 1)).bytes).2)
def stepT (now : Int) (S : Fs) (t : Tk) : Int × Tk × Fs :=
  if t.at_ = 0 then ((readT now S t).1, (readT now S t).2, S)
  else if t.at_ = 1 then madeT now S t
  else if t.at_ = 2 then putT now S t
  else if t.at_ = 3 then
    if (S.moveF t.temp t.file [(t.gn, t.gs)]).1.2 ≠ 0 then (0, { t with at_ := 4 }, (S.moveF t.temp t.file [(t.gn, t.gs)]).2)
    else (1, t.held (S.moveF t.temp t.file [(t.gn, t.gs)]).1.1, (S.moveF t.temp t.file [(t.gn, t.gs)]).2)
  else if t.at_ = 4 then (2, t.end_ 2, (S.dropF t.temp []).2)
  else (t.told, t, S)
/-- Writing a lock that is held. -/
structure Wk where
  gn : ByteArray
  gs : Int
  l : Lk
  temp : ByteArray
  free : Bool
  at_ : Int
  told : Int
def Wk.end_ (t : Wk) (q : Int) : Wk := { t with at_ := 5, told := q }
def stepW (S : Fs) (t : Wk) : Int × Wk × Fs :=
  if t.at_ = 2 then
    if (S.putF t.temp t.l.bytes).1.2 = 0 then (0, { t with at_ := 3 }, (S.putF t.temp t.l.bytes).2)
    else (failQ (S.putF t.temp t.l.bytes).1.2, t.end_ (failQ (S.putF t.temp t.l.bytes).1.2), (S.putF t.temp t.l.bytes).2)
  else if t.at_ = 3 then
    if (S.moveF t.temp t.gn [(t.gn, t.gs)]).1.2 ≠ 0 then (0, { t with at_ := 4 }, (S.moveF t.temp t.gn [(t.gn, t.gs)]).2)
    else (1, Wk.end_ { t with gs := (S.moveF t.temp t.gn [(t.gn, t.gs)]).1.1 } 1, (S.moveF t.temp t.gn [(t.gn, t.gs)]).2)
  else if t.at_ = 4 then (2, t.end_ 2, (S.dropF t.temp []).2)
  else (t.told, t, S)
end Go.Proofs.YtahdeighocmijaaGreatDoor
namespace Go.Proofs.YtahdeighocmijaaGreatDoor
set_option linter.unusedSimpArgs false
set_option linter.unusedVariables false
open Go.RowKit
open Crc (Bytes)
open Cod (six held)

def nmC : ByteArray := ⟨#[99, 108, 97, 105, 109, 47, 97]⟩
def nmLk : ByteArray := ⟨#[108, 111, 99, 107, 47, 108, 111, 103]⟩
theorem nmLk_ok : fileB nmLk = true := by kernel_rfl
theorem nmC_ok : fileB nmC = true := by kernel_rfl
theorem makeF_ok {S : Fs} {s : ByteArray} {l : List Int} (hf : fileB s = true) (hn : S.m s.data.toList = none) (h : S.used + ((l.length : Int) - ((S.by s).length : Int)) ≤ S.room) : S.makeF s l = ((S.last + 1, 0), S.write s l) := by
  unfold Fs.makeF Fs.fits
  rw [hf, (by_none hn).2.2, if_neg (by simp), if_neg (by simp), if_neg (by rw [decide_eq_true h]; simp)]
theorem makeF_full {S : Fs} {s : ByteArray} {l : List Int} (hf : fileB s = true) (hn : S.m s.data.toList = none) (h1 : 0 < l.length) (h : S.room < S.used + l.length) : S.makeF s l = ((0, 2), S) := by
  unfold Fs.makeF Fs.fits
  rw [hf, (by_none hn).2.2, (by_none hn).1, if_neg (by simp), if_neg (by simp), if_pos]
  rw [Bool.or_eq_false_iff]
  exact ⟨decide_eq_false (by rw [List.length_nil]; omega), decide_eq_false (by rw [List.length_nil]; omega)⟩
theorem putF_full {S : Fs} {s : ByteArray} {l : List Int} (hf : fileB s = true) (hn : S.m s.data.toList = none) (h1 : 0 < l.length) (h : S.room < S.used + l.length) : S.putF s l = ((0, 2), S) := by
  unfold Fs.putF Fs.fits
  rw [hf, (by_none hn).1, if_neg (by simp), if_pos]
  rw [Bool.or_eq_false_iff]
  exact ⟨decide_eq_false (by rw [List.length_nil]; omega), decide_eq_false (by rw [List.length_nil]; omega)⟩
theorem moveF_bad {S : Fs} {a b : ByteArray} {gs : List (ByteArray × Int)} (ha : fileB a = true) (hb : fileB b = true) (hne : a ≠ b) (hg : S.bad gs = true) : S.moveF a b gs = ((0, 5), S) := by
  unfold Fs.moveF
  rw [ha, hb, hg, if_neg (by simp [hne]), if_pos rfl]
theorem dropF_ok {S : Fs} {s : ByteArray} (hf : fileB s = true) (h : S.has s = true) : S.dropF s [] = (0, S.gone s) := by
  unfold Fs.dropF Fs.bad
  rw [hf, h, if_neg (by simp), if_neg (by simp), if_neg (by simp)]
theorem ba_ne {a b : ByteArray} (h : a.data.toList ≠ b.data.toList) : a ≠ b := fun e => h (by rw [e])
/-- The files of the laws of locks: the lock's alone. -/
structure LC (F : ByteArray) (R : Int) (S : Fs) (C : Option (List Int × Int)) : Prop where
  c : S.m F.data.toList = C
  no : ∀ key, key ≠ F.data.toList → S.m key = none
  cuts : S.cuts = false
  room : S.room = R
  used : S.used = tl C
  ts : ∀ x, C = some x → 1 ≤ x.2 ∧ x.2 ≤ S.last
  l0 : 0 ≤ S.last
theorem lc_new (F : ByteArray) (R : Int) (h0 : 0 ≤ R) (hR : R ≤ 1073741824) : LC F R (fs0 R) none :=
  ⟨rfl, fun _ _ => rfl, rfl, by show roomOf R = R; unfold roomOf; omega, rfl, (fun x h => by cases h), Int.le_refl _⟩
theorem LC.by {F : ByteArray} {R : Int} {S : Fs} {C : Option (List Int × Int)} (h : LC F R S C) : ((S.by F).length : Int) = tl C := by
  have := h.c
  unfold Fs.by tl; rw [this]; cases C <;> rfl
/-- The lock written. -/
theorem LC.write {F : ByteArray} {R : Int} {S : Fs} {C : Option (List Int × Int)} (h : LC F R S C) (l : List Int) : LC F R (S.write F l) (some (l, S.last + 1)) := by
  have h1 := h.by
  have h2 := h.l0
  refine ⟨wr_same _ _ _, fun key hk => ?_, h.cuts, h.room, ?_, ?_, ?_⟩
  · show (if key = F.data.toList then _ else _) = _
    rw [if_neg hk]; exact h.no key hk
  · show S.used + ((l.length : Int) - ((S.by F).length : Int)) = (l.length : Int)
    rw [h.used, h1]; omega
  · intro x hx; cases hx; show 1 ≤ S.last + 1 ∧ S.last + 1 ≤ S.last + 1; omega
  · show 0 ≤ S.last + 1; omega
/-- A temp written. -/
structure LT (F : ByteArray) (R : Int) (S : Fs) (C : Option (List Int × Int)) (tp : ByteArray) (b : List Int) : Prop where
  c : S.m F.data.toList = C
  t : S.m tp.data.toList = some (b, S.last)
  no : ∀ key, key ≠ F.data.toList → key ≠ tp.data.toList → S.m key = none
  cuts : S.cuts = false
  room : S.room = R
  used : S.used = tl C + b.length
  ts : ∀ x, C = some x → 1 ≤ x.2 ∧ x.2 ≤ S.last
  l0 : 0 ≤ S.last
theorem LC.temp {F : ByteArray} {R : Int} {S : Fs} {C : Option (List Int × Int)} (h : LC F R S C) (tp : ByteArray) (hf : fileB tp = true) (hn : tp.data.toList ≠ F.data.toList) (b : List Int) (hu : tl C + b.length ≤ R) : S.putF tp b = ((S.last + 1, 0), S.write tp b) ∧ LT F R (S.write tp b) C tp b := by
  have h1 := (by_none (h.no _ hn)).1
  have h2 := h.l0
  refine ⟨putF_ok hf (by rw [h1, h.used, h.room]; simp; omega), (wr_other S b (Ne.symm hn)).trans h.c, wr_same _ _ _, fun key k1 k2 => ?_, h.cuts, h.room, ?_, ?_, ?_⟩
  · show (if key = tp.data.toList then _ else _) = _
    rw [if_neg k2]; exact h.no key k1
  · show S.used + ((b.length : Int) - ((S.by tp).length : Int)) = _
    rw [h.used, h1]; simp
  · intro x hx; have := h.ts x hx; show 1 ≤ x.2 ∧ x.2 ≤ S.last + 1; omega
  · show 0 ≤ S.last + 1; omega
/-- The temp let go. -/
theorem LT.gone {F : ByteArray} {R : Int} {S : Fs} {C : Option (List Int × Int)} {tp : ByteArray} {b : List Int} (h : LT F R S C tp b) (hn : tp.data.toList ≠ F.data.toList) : LC F R (S.gone tp) C := by
  have h1 := (by_of h.t).1
  refine ⟨(gone_other S (Ne.symm hn)).trans h.c, fun key hk => ?_, h.cuts, h.room, ?_, h.ts, h.l0⟩
  · by_cases k2 : key = tp.data.toList
    · subst k2; exact gone_same _ _
    · show (if key = tp.data.toList then _ else _) = _
      rw [if_neg k2]; exact h.no key hk k2
  · show S.used - ((S.by tp).length : Int) = _
    rw [h.used, h1]; omega
theorem LT.move {F : ByteArray} {R : Int} {S : Fs} {tp : ByteArray} {b c : List Int} {st : Int} (h : LT F R S (some (c, st)) tp b) (hF : fileB F = true) (hf : fileB tp = true) (hn : tp.data.toList ≠ F.data.toList) : S.moveF tp F [(F, st)] = ((S.last + 1, 0), (S.gone tp).write F b) ∧ LC F R ((S.gone tp).write F b) (some (b, S.last + 1)) := by
  have hb : S.bad [(F, st)] = false := by rw [bad_one]; exact off_of h.c
  have := moveF_ok (S := S) (gs := [(F, st)]) hf hF (ba_ne hn) hb (by_of h.t).2.2
  rw [(by_of h.t).1] at this
  exact ⟨this, (h.gone hn).write b⟩
theorem LT.lost {F : ByteArray} {R : Int} {S : Fs} {tp : ByteArray} {b c : List Int} {st q : Int} (h : LT F R S (some (c, st)) tp b) (hF : fileB F = true) (hf : fileB tp = true) (hn : tp.data.toList ≠ F.data.toList) (hq : st ≠ q) : S.moveF tp F [(F, q)] = ((0, 5), S) ∧ S.dropF tp [] = (0, S.gone tp) :=
  ⟨moveF_bad hf hF (ba_ne hn) (by rw [bad_one]; exact off_ne h.c hq), dropF_ok hf (by_of h.t).2.2⟩
/-- What a step of taking wants. -/
structure Tk.wf (t : Tk) : Prop where
  f : t.file.size ≤ 1000
  p : t.temp.size ≤ 1000
  g : t.gn.size ≤ 1000
  e : t.at_ = 2 → 0 ≤ t.l.epoch ∧ t.l.epoch ≤ 1099511627776
  l0 : 0 ≤ t.lease
  l1 : t.lease ≤ 1000000
  a : t.at_ = 0 ∨ t.at_ = 1 ∨ t.at_ = 2 ∨ t.at_ = 3 ∨ t.at_ = 4 ∨ t.at_ = 5
structure TRun (now : Int) (S0 : Fs) (t0 : Tk) (m : Nat) (X : Nat → Int × Tk × Fs) (k : Int) (t : Tk) (S : Fs) : Prop where
  m0 : 1 ≤ m
  m1 : m ≤ 3
  zero : X 0 = (0, t0, S0)
  step : ∀ q, q < m → stepT now (X q).2.2 (X q).2.1 = X (q + 1)
  work : ∀ q, q < m → (X q).1 = 0
  ok : ∀ q, q ≤ m → (X q).2.1.wf
  fin : X m = (k, t, S)
  k0 : k ≠ 0
  at_ : t.at_ = 5
  told : t.told = k
def Y4 (a b c d : Int × Tk × Fs) (n : Nat) : Int × Tk × Fs := match n with | 0 => a | 1 => b | 2 => c | _ => d
def tk0 (F tp : ByteArray) (who inc lease : Int) : Tk := ⟨F, tp, who, inc, lease, 0, 0, ⟨#[]⟩, 0, lk0⟩
theorem tk0_wf {F tp : ByteArray} {who inc lease : Int} (hFs : F.size ≤ 1000) (h : tp.size ≤ 1000) (h0 : 0 ≤ lease) (h1 : lease ≤ 1000000) : (tk0 F tp who inc lease).wf :=
  ⟨hFs, h, (show (⟨#[]⟩ : ByteArray).size ≤ 1000 by decide), (fun e => by cases e), h0, h1, .inl rfl⟩
section
variable {now : Int} {S S' : Fs} {t : Tk} {st : Int}
theorem stepT_0 (h : t.at_ = 0) : stepT now S t = ((readT now S t).1, (readT now S t).2, S) := by unfold stepT; rw [if_pos h]
theorem stepT_1 (h : t.at_ = 1) : stepT now S t = madeT now S t := by unfold stepT; rw [if_neg (by rw [h]; decide), if_pos h]
theorem stepT_2 (h : t.at_ = 2) : stepT now S t = putT now S t := by unfold stepT; rw [if_neg (by rw [h]; decide), if_neg (by rw [h]; decide), if_pos h]
theorem stepT_3 (h : t.at_ = 3) : stepT now S t = if (S.moveF t.temp t.file [(t.gn, t.gs)]).1.2 ≠ 0 then (0, { t with at_ := 4 }, (S.moveF t.temp t.file [(t.gn, t.gs)]).2) else (1, t.held (S.moveF t.temp t.file [(t.gn, t.gs)]).1.1, (S.moveF t.temp t.file [(t.gn, t.gs)]).2) := by
  unfold stepT; rw [if_neg (by rw [h]; decide), if_neg (by rw [h]; decide), if_neg (by rw [h]; decide), if_pos h]
theorem stepT_3ok (h : t.at_ = 3) (hm : S.moveF t.temp t.file [(t.gn, t.gs)] = ((st, 0), S')) : stepT now S t = (1, t.held st, S') := by
  rw [stepT_3 h, hm, if_neg (by simp)]
theorem stepT_4 (h : t.at_ = 4) : stepT now S t = (2, t.end_ 2, (S.dropF t.temp []).2) := by
  unfold stepT; rw [if_neg (by rw [h]; decide), if_neg (by rw [h]; decide), if_neg (by rw [h]; decide), if_neg (by rw [h]; decide), if_pos h]
theorem stepT_5 (h : t.at_ = 5) : stepT now S t = (t.told, t, S) := by
  unfold stepT; rw [if_neg (by rw [h]; decide), if_neg (by rw [h]; decide), if_neg (by rw [h]; decide), if_neg (by rw [h]; decide), if_neg (by rw [h]; decide)]
theorem readT_none (h : S.readF t.file = (4, [], 0)) : readT now S t = (0, { t with at_ := 1 }) := by unfold readT; rw [h, if_pos rfl]
theorem stepT_none (h : t.at_ = 0) (hr : S.readF t.file = (4, [], 0)) : stepT now S t = (0, { t with at_ := 1 }, S) := by rw [stepT_0 h, readT_none hr]
theorem readT_look {c : List Int} {l : Lk} {k : Int} (h : S.readF t.file = (0, c, st)) (ho : lookL (openLk c) t.who t.inc (clampN now) = (l, k)) :
    readT now S t = if k = 2 then (1, Tk.held { t with l := l } st) else if k = 3 then (0, { t with l := l, gn := t.file, gs := st, at_ := 2 }) else if k = 4 then (2, t.end_ 2) else (3, t.end_ 3) := by
  unfold readT; rw [h, if_neg (by simp), if_neg (by simp)]; simp only [ho]
theorem madeT_ok (hm : S.makeF t.file (t.new now 1).bytes = ((st, 0), S')) : madeT now S t = (1, Tk.held { t with l := t.new now 1 } st, S') := by unfold madeT; rw [hm, if_pos rfl]
theorem putT_ok (hm : S.putF t.temp (t.new now (t.l.epoch + 1)).bytes = ((st, 0), S')) : putT now S t = (0, { t with l := t.new now (t.l.epoch + 1), at_ := 3 }, S') := by unfold putT; rw [hm, if_neg (by simp)]
end
/-- A lock that nobody has. -/
theorem take_none {F : ByteArray} {R : Int} {S : Fs} (h : LC F R S none) (hF : fileB F = true) (hFs : F.size ≤ 1000) (tp : ByteArray) (who inc lease now : Int) (hp : tp.size ≤ 1000) (h0 : 0 ≤ lease) (h1 : lease ≤ 1000000) (hR : 34 ≤ R) :
    ∃ X t, TRun now S (tk0 F tp who inc lease) 2 X 1 t (S.write F (Lk.bytes ⟨who, inc, 1, clampN now + lease⟩)) ∧ t.gn = F ∧ t.gs = S.last + 1 ∧ t.l = ⟨who, inc, 1, clampN now + lease⟩ := by
  have hr := readF_none hF h.c
  have hw := tk0_wf (F := F) (who := who) (inc := inc) hFs hp h0 h1
  have hm : S.makeF F (Lk.bytes ⟨who, inc, 1, clampN now + lease⟩) = ((S.last + 1, 0), S.write F (Lk.bytes ⟨who, inc, 1, clampN now + lease⟩)) :=
    makeF_ok hF h.c (by rw [(by_none h.c).1, h.used, h.room, Lk.bytes_len]; show (0 : Int) + ((34 : Nat) - ((([] : List Int).length : Nat) : Int)) ≤ R; simp; omega)
  refine ⟨Y4 (0, tk0 F tp who inc lease, S) (0, { tk0 F tp who inc lease with at_ := 1 }, S) (1, Tk.held { tk0 F tp who inc lease with at_ := 1, l := ⟨who, inc, 1, clampN now + lease⟩ } (S.last + 1), S.write F (Lk.bytes ⟨who, inc, 1, clampN now + lease⟩)) (0, tk0 F tp who inc lease, S), _, ⟨by omega, by omega, rfl, ?_, ?_, ?_, rfl, by decide, rfl, rfl⟩, rfl, rfl, rfl⟩
  · intro q hq
    have : q = 0 ∨ q = 1 := by omega
    rcases this with rfl | rfl
    · exact stepT_none (S := S) (t := tk0 F tp who inc lease) rfl hr
    · exact (stepT_1 (S := S) (t := { tk0 F tp who inc lease with at_ := 1 }) rfl).trans (madeT_ok (S := S) (t := { tk0 F tp who inc lease with at_ := 1 }) hm)
  · intro q hq
    have : q = 0 ∨ q = 1 := by omega
    rcases this with rfl | rfl <;> rfl
  · intro q hq
    have : q = 0 ∨ q = 1 ∨ q = 2 := by omega
    rcases this with rfl | rfl | rfl
    · exact hw
    · exact ⟨hw.f, hw.p, hw.g, (fun e => by cases e), h0, h1, .inr (.inl rfl)⟩
    · exact ⟨hw.f, hw.p, hw.f, (fun e => by cases e), h0, h1, by simp [Y4, Tk.held]⟩
/-- A lock that is there, and is read. -/
theorem take_read {F : ByteArray} {R : Int} {S : Fs} {c : List Int} {st : Int} (h : LC F R S (some (c, st))) (hF : fileB F = true) (tp : ByteArray) (who inc lease now : Int) (l : Lk) (k : Int) (ho : lookL (openLk c) who inc (clampN now) = (l, k)) :
    stepT now S (tk0 F tp who inc lease) = if k = 2 then (1, Tk.held { tk0 F tp who inc lease with l := l } st, S) else if k = 3 then (0, { tk0 F tp who inc lease with l := l, gn := F, gs := st, at_ := 2 }, S) else if k = 4 then (2, (tk0 F tp who inc lease).end_ 2, S) else (3, (tk0 F tp who inc lease).end_ 3, S) := by
  have hr := readF_of hF h.c
  rw [stepT_0 (t := tk0 F tp who inc lease) rfl, readT_look (t := tk0 F tp who inc lease) hr ho]
  by_cases h2 : k = 2
  · rw [if_pos h2, if_pos h2]
  · by_cases h3 : k = 3
    · rw [if_neg h2, if_neg h2, if_pos h3, if_pos h3]; rfl
    · by_cases h4 : k = 4
      · rw [if_neg h2, if_neg h2, if_neg h3, if_neg h3, if_pos h4, if_pos h4]
      · rw [if_neg h2, if_neg h2, if_neg h3, if_neg h3, if_neg h4, if_neg h4]
theorem take_one {F : ByteArray} {R : Int} {S : Fs} {c : List Int} {st : Int} (h : LC F R S (some (c, st))) (hF : fileB F = true) (hFs : F.size ≤ 1000) (tp : ByteArray) (who inc lease now : Int) (hp : tp.size ≤ 1000) (h0 : 0 ≤ lease) (h1 : lease ≤ 1000000) (l : Lk) (k : Int) (ho : lookL (openLk c) who inc (clampN now) = (l, k)) (hk : k = 1 ∨ k = 2 ∨ k = 4) :
    ∃ X t q, TRun now S (tk0 F tp who inc lease) 1 X q t S ∧ (k = 2 → q = 1 ∧ t.gn = F ∧ t.gs = st ∧ t.l = l) ∧ (k = 4 → q = 2) ∧ (k = 1 → q = 3) := by
  have hw := tk0_wf (F := F) (who := who) (inc := inc) hFs hp h0 h1
  have hs := take_read h hF tp who inc lease now l k ho
  rcases hk with rfl | rfl | rfl
  · rw [if_neg (by decide), if_neg (by decide), if_neg (by decide)] at hs
    refine ⟨Y4 (0, tk0 F tp who inc lease, S) (3, (tk0 F tp who inc lease).end_ 3, S) (0, tk0 F tp who inc lease, S) (0, tk0 F tp who inc lease, S), _, _, ⟨by omega, by omega, rfl, fun q hq => ?_, fun q hq => ?_, fun q hq => ?_, rfl, by decide, rfl, rfl⟩, (fun e => by cases e), (fun e => by cases e), fun _ => rfl⟩
    · obtain rfl : q = 0 := by omega
      exact hs
    · obtain rfl : q = 0 := by omega
      rfl
    · have : q = 0 ∨ q = 1 := by omega
      rcases this with rfl | rfl
      · exact hw
      · exact ⟨hw.f, hw.p, hw.g, (fun e => by cases e), h0, h1, by simp [Y4, Tk.end_]⟩
  · rw [if_pos rfl] at hs
    refine ⟨Y4 (0, tk0 F tp who inc lease, S) (1, Tk.held { tk0 F tp who inc lease with l := l } st, S) (0, tk0 F tp who inc lease, S) (0, tk0 F tp who inc lease, S), _, _, ⟨by omega, by omega, rfl, fun q hq => ?_, fun q hq => ?_, fun q hq => ?_, rfl, by decide, rfl, rfl⟩, fun _ => ⟨rfl, rfl, rfl, rfl⟩, (fun e => by cases e), (fun e => by cases e)⟩
    · obtain rfl : q = 0 := by omega
      exact hs
    · obtain rfl : q = 0 := by omega
      rfl
    · have : q = 0 ∨ q = 1 := by omega
      rcases this with rfl | rfl
      · exact hw
      · exact ⟨hw.f, hw.p, hw.f, (fun e => by cases e), h0, h1, by simp [Y4, Tk.held]⟩
  · rw [if_neg (by decide), if_neg (by decide), if_pos rfl] at hs
    refine ⟨Y4 (0, tk0 F tp who inc lease, S) (2, (tk0 F tp who inc lease).end_ 2, S) (0, tk0 F tp who inc lease, S) (0, tk0 F tp who inc lease, S), _, _, ⟨by omega, by omega, rfl, fun q hq => ?_, fun q hq => ?_, fun q hq => ?_, rfl, by decide, rfl, rfl⟩, (fun e => by cases e), fun _ => rfl, (fun e => by cases e)⟩
    · obtain rfl : q = 0 := by omega
      exact hs
    · obtain rfl : q = 0 := by omega
      rfl
    · have : q = 0 ∨ q = 1 := by omega
      rcases this with rfl | rfl
      · exact hw
      · exact ⟨hw.f, hw.p, hw.g, (fun e => by cases e), h0, h1, by simp [Y4, Tk.end_]⟩
/-- A lock that is open. -/
theorem take_open {F : ByteArray} {R : Int} {S : Fs} {c : List Int} {st : Int} (h : LC F R S (some (c, st))) (hF : fileB F = true) (hFs : F.size ≤ 1000) (tp : ByteArray) (who inc lease now : Int) (hp : tp.size ≤ 1000) (h0 : 0 ≤ lease) (h1 : lease ≤ 1000000) (l : Lk) (ho : lookL (openLk c) who inc (clampN now) = (l, 3)) (hl0 : 0 ≤ l.epoch) (hl1 : l.epoch ≤ 1099511627776)
    (hf : fileB tp = true) (hn : tp.data.toList ≠ F.data.toList) (hu : (c.length : Int) + 34 ≤ R) :
    ∃ X t S', TRun now S (tk0 F tp who inc lease) 3 X 1 t S' ∧ t.gn = F ∧ t.gs = S'.last ∧ t.l = ⟨who, inc, l.epoch + 1, clampN now + lease⟩ ∧ LC F R S' (some (Lk.bytes ⟨who, inc, l.epoch + 1, clampN now + lease⟩, S'.last)) ∧ st < S'.last := by
  have hw := tk0_wf (F := F) (who := who) (inc := inc) hFs hp h0 h1
  have hs := take_read h hF tp who inc lease now l 3 ho
  rw [if_neg (by decide), if_pos rfl] at hs
  obtain ⟨p1, p2⟩ := h.temp tp hf hn (Lk.bytes ⟨who, inc, l.epoch + 1, clampN now + lease⟩) (by rw [Lk.bytes_len]; show (c.length : Int) + 34 ≤ R; exact hu)
  obtain ⟨m1, m2⟩ := p2.move hF hf hn
  have hst := (h.ts _ rfl).2
  refine ⟨Y4 (0, tk0 F tp who inc lease, S) (0, { tk0 F tp who inc lease with l := l, gn := F, gs := st, at_ := 2 }, S) (0, { tk0 F tp who inc lease with l := ⟨who, inc, l.epoch + 1, clampN now + lease⟩, gn := F, gs := st, at_ := 3 }, S.write tp (Lk.bytes ⟨who, inc, l.epoch + 1, clampN now + lease⟩)) (1, Tk.held { tk0 F tp who inc lease with l := ⟨who, inc, l.epoch + 1, clampN now + lease⟩, gn := F, gs := st, at_ := 3 } (S.last + 1 + 1), ((S.write tp (Lk.bytes ⟨who, inc, l.epoch + 1, clampN now + lease⟩)).gone tp).write F (Lk.bytes ⟨who, inc, l.epoch + 1, clampN now + lease⟩)), _, _, ⟨by omega, by omega, rfl, fun q hq => ?_, fun q hq => ?_, fun q hq => ?_, rfl, by decide, rfl, rfl⟩, rfl, rfl, rfl, m2, ?_⟩
  · have : q = 0 ∨ q = 1 ∨ q = 2 := by omega
    rcases this with rfl | rfl | rfl
    · exact hs
    · exact (stepT_2 (S := S) (t := { tk0 F tp who inc lease with l := l, gn := F, gs := st, at_ := 2 }) rfl).trans (putT_ok (S := S) (t := { tk0 F tp who inc lease with l := l, gn := F, gs := st, at_ := 2 }) p1)
    · exact stepT_3ok (t := { tk0 F tp who inc lease with l := ⟨who, inc, l.epoch + 1, clampN now + lease⟩, gn := F, gs := st, at_ := 3 }) rfl m1
  · have : q = 0 ∨ q = 1 ∨ q = 2 := by omega
    rcases this with rfl | rfl | rfl <;> rfl
  · have : q = 0 ∨ q = 1 ∨ q = 2 ∨ q = 3 := by omega
    rcases this with rfl | rfl | rfl | rfl
    · exact hw
    · exact ⟨hw.f, hw.p, hw.f, fun _ => ⟨hl0, hl1⟩, h0, h1, .inr (.inr (.inl rfl))⟩
    · exact ⟨hw.f, hw.p, hw.f, (fun e => by cases e), h0, h1, .inr (.inr (.inr (.inl rfl)))⟩
    · exact ⟨hw.f, hw.p, hw.f, (fun e => by cases e), h0, h1, by simp [Y4, Tk.held]⟩
  · show st < S.last + 1 + 1; have h5 : st ≤ S.last := hst; omega
end Go.Proofs.YtahdeighocmijaaGreatDoor
