/- Locks: the plain law of their bytes, of taking one, of writing one. -/
import Derived.Test.YtahdeighocmijaaDoorFrM
import Derived.Test.YtahdeighocmijaaDoorFsM
namespace Go.Proofs.YtahdeighocmijaaDoor
set_option linter.unusedSimpArgs false
set_option linter.unusedVariables false
open Go.RowKit
open Crc (Bytes)
open Cod (six held)

/-- Who has a lock. -/
structure Lk where
  who : Int
  inc : Int
  epoch : Int
  till : Int
theorem lk_ext {a b : Lk} (h1 : a.who = b.who) (h2 : a.inc = b.inc) (h3 : a.epoch = b.epoch) (h4 : a.till = b.till) : a = b := by
  cases a; cases b; simp only at h1 h2 h3 h4; subst h1 h2 h3 h4; rfl
def lk0 : Lk := ⟨0, 0, 0, 0⟩
def Lk.raw (l : Lk) : List Int := six l.who ++ (six l.inc ++ (six l.epoch ++ (six l.till ++ [])))
def Lk.bytes (l : Lk) : List Int := framed l.raw
def Lk.ok (l : Lk) : Bool := numB l.who && numB l.inc && numB l.epoch && numB l.till
theorem Lk.raw_len (l : Lk) : l.raw.length = 24 := rfl
theorem Lk.bytes_len (l : Lk) : l.bytes.length = 34 := by unfold Lk.bytes; rw [framed_len, l.raw_len]
theorem Lk.raw_by (l : Lk) : Bytes l.raw := bytes_app (Cod.six_bytes _) (bytes_app (Cod.six_bytes _) (bytes_app (Cod.six_bytes _) (bytes_app (Cod.six_bytes _) (fun x hx => by cases hx))))
theorem Lk.bytes_by (l : Lk) : Bytes l.bytes := framed_bytes l.raw_by
/-- What the one frame that bytes are holds. -/
def aloneF (b : List Int) : Option (List Int) := match oneF b with
  | none => none
  | some x => if x.2 = b.length then some x.1 else none
def lkTop : Int := 1099511627776
/-- The four numbers that bytes are. -/
def fourL (x : List Int) : Option Lk :=
  if (rnum (rnum (rnum (rnum (x, false) lkTop).2 lkTop).2 lkTop).2 lkTop).2 = ([], false) then
    some ⟨(rnum (x, false) lkTop).1, (rnum (rnum (x, false) lkTop).2 lkTop).1, (rnum (rnum (rnum (x, false) lkTop).2 lkTop).2 lkTop).1, (rnum (rnum (rnum (rnum (x, false) lkTop).2 lkTop).2 lkTop).2 lkTop).1⟩
  else none
def openLk (b : List Int) : Option Lk := match aloneF b with
  | none => none
  | some x => fourL x
theorem fourL_eq {x : List Int} {n1 n2 n3 n4 : Int} {s1 s2 s3 s4 : List Int × Bool} (h1 : rnum (x, false) lkTop = (n1, s1)) (h2 : rnum s1 lkTop = (n2, s2)) (h3 : rnum s2 lkTop = (n3, s3)) (h4 : rnum s3 lkTop = (n4, s4)) :
    fourL x = if s4 = ([], false) then some ⟨n1, n2, n3, n4⟩ else none := by
  unfold fourL; simp only [h1, h2, h3, h4]
theorem fourL_raw {l : Lk} (h : l.ok = true) : fourL l.raw = some l := by
  unfold Lk.ok at h
  simp only [Bool.and_eq_true] at h
  obtain ⟨⟨⟨a1, a2⟩, a3⟩, a4⟩ := h
  have b1 := numB_held a1; have b2 := numB_held a2; have b3 := numB_held a3; have b4 := numB_held a4
  have e1 := rnum_app l.who (six l.inc ++ (six l.epoch ++ (six l.till ++ []))) lkTop (by unfold lkTop; omega)
  have e2 := rnum_app l.inc (six l.epoch ++ (six l.till ++ [])) lkTop (by unfold lkTop; omega)
  have e3 := rnum_app l.epoch (six l.till ++ []) lkTop (by unfold lkTop; omega)
  have e4 := rnum_app l.till [] lkTop (by unfold lkTop; omega)
  rw [fourL_eq (x := l.raw) e1 e2 e3 e4, if_pos rfl, b1.1, b2.1, b3.1, b4.1]
theorem aloneF_framed (x : List Int) (hx : x.length ≤ 10000) : aloneF (framed x) = some x := by
  have h := oneF_framed x [] hx
  rw [List.append_nil] at h
  unfold aloneF
  rw [h, framed_len]
  simp; omega
theorem openLk_bytes {l : Lk} (h : l.ok = true) : openLk l.bytes = some l := by
  unfold openLk Lk.bytes
  rw [aloneF_framed _ (by rw [l.raw_len]; omega)]
  exact fourL_raw h
/-- What a lock is for somebody. -/
def lookL (o : Option Lk) (who inc now : Int) : Lk × Int := match o with
  | none => (lk0, 1)
  | some l => if l.epoch = lkTop then (l, 1) else if l.who = who ∧ l.inc = inc ∧ now < l.till then (l, 2) else if l.till ≤ now ∨ (l.who = who ∧ l.inc < inc) then (l, 3) else (l, 4)
/-- Taking a lock. -/
structure Tk where
  file : ByteArray
  temp : ByteArray
  who : Int
  inc : Int
  lease : Int
  at_ : Int
  told : Int
  gn : ByteArray
  gs : Int
  l : Lk
def Tk.end_ (t : Tk) (q : Int) : Tk := { t with at_ := 5, told := q }
def Tk.held (t : Tk) (st : Int) : Tk := { t with gn := t.file, gs := st, at_ := 5, told := 1 }
def failQ (e : Int) : Int := if e = 2 then 4 else 3
def clampN (now : Int) : Int := min (max now 0) 549755813888
def Tk.new (t : Tk) (now epoch : Int) : Lk := ⟨t.who, t.inc, epoch, clampN now + t.lease⟩
def readT (now : Int) (S : Fs) (t : Tk) : Int × Tk :=
  if (S.readF t.file).1 = 4 then (0, { t with at_ := 1 })
  else if (S.readF t.file).1 ≠ 0 then (failQ (S.readF t.file).1, t.end_ (failQ (S.readF t.file).1))
  else if (lookL (openLk (S.readF t.file).2.1) t.who t.inc (clampN now)).2 = 2 then (1, Tk.held { t with l := (lookL (openLk (S.readF t.file).2.1) t.who t.inc (clampN now)).1 } (S.readF t.file).2.2)
  else if (lookL (openLk (S.readF t.file).2.1) t.who t.inc (clampN now)).2 = 3 then (0, { t with l := (lookL (openLk (S.readF t.file).2.1) t.who t.inc (clampN now)).1, gn := t.file, gs := (S.readF t.file).2.2, at_ := 2 })
  else if (lookL (openLk (S.readF t.file).2.1) t.who t.inc (clampN now)).2 = 4 then (2, t.end_ 2)
  else (3, t.end_ 3)
def madeT (now : Int) (S : Fs) (t : Tk) : Int × Tk × Fs :=
  if (S.makeF t.file (t.new now 1).bytes).1.2 = 0 then (1, Tk.held { t with l := t.new now 1 } (S.makeF t.file (t.new now 1).bytes).1.1, (S.makeF t.file (t.new now 1).bytes).2)
  else if (S.makeF t.file (t.new now 1).bytes).1.2 = 3 then (2, Tk.end_ { t with l := t.new now 1 } 2, (S.makeF t.file (t.new now 1).bytes).2)
  else (failQ (S.makeF t.file (t.new now 1).bytes).1.2, Tk.end_ { t with l := t.new now 1 } (failQ (S.makeF t.file (t.new now 1).bytes).1.2), (S.makeF t.file (t.new now 1).bytes).2)
def putT (now : Int) (S : Fs) (t : Tk) : Int × Tk × Fs :=
  if (S.putF t.temp (t.new now (t.l.epoch + 1)).bytes).1.2 ≠ 0 then (failQ (S.putF t.temp (t.new now (t.l.epoch + 1)).bytes).1.2, Tk.end_ { t with l := t.new now (t.l.epoch + 1) } (failQ (S.putF t.temp (t.new now (t.l.epoch + 1)).bytes).1.2), (S.putF t.temp (t.new now (t.l.epoch + 1)).bytes).2)
  else (0, { t with l := t.new now (t.l.epoch + 1), at_ := 3 }, (S.putF t.temp (t.new now (t.l.epoch + 1)).bytes).2)
def stepT (now : Int) (S : Fs) (t : Tk) : Int × Tk × Fs :=
  if t.at_ = 0 then ((readT now S t).1, (readT now S t).2, S)
  else if t.at_ = 1 then madeT now S t
  else if t.at_ = 2 then putT now S t
  else if t.at_ = 3 then
    if (S.moveF t.temp t.file [(t.gn, t.gs)]).1.2 ≠ 0 then (0, { t with at_ := 4 }, (S.moveF t.temp t.file [(t.gn, t.gs)]).2)
    else (1, t.held (S.moveF t.temp t.file [(t.gn, t.gs)]).1.1, (S.moveF t.temp t.file [(t.gn, t.gs)]).2)
  else if t.at_ = 4 then (2, t.end_ 2, (S.dropF t.temp []).2)
  else (t.told, t, S)
/-- Writing a lock that is held. -/
structure Wk where
  gn : ByteArray
  gs : Int
  l : Lk
  temp : ByteArray
  free : Bool
  at_ : Int
  told : Int
def Wk.end_ (t : Wk) (q : Int) : Wk := { t with at_ := 5, told := q }
def stepW (S : Fs) (t : Wk) : Int × Wk × Fs :=
  if t.at_ = 2 then
    if (S.putF t.temp t.l.bytes).1.2 = 0 then (0, { t with at_ := 3 }, (S.putF t.temp t.l.bytes).2)
    else (failQ (S.putF t.temp t.l.bytes).1.2, t.end_ (failQ (S.putF t.temp t.l.bytes).1.2), (S.putF t.temp t.l.bytes).2)
  else if t.at_ = 3 then
    if (S.moveF t.temp t.gn [(t.gn, t.gs)]).1.2 ≠ 0 then (0, { t with at_ := 4 }, (S.moveF t.temp t.gn [(t.gn, t.gs)]).2)
    else (1, Wk.end_ { t with gs := (S.moveF t.temp t.gn [(t.gn, t.gs)]).1.1 } 1, (S.moveF t.temp t.gn [(t.gn, t.gs)]).2)
  else if t.at_ = 4 then (2, t.end_ 2, (S.dropF t.temp []).2)
  else (t.told, t, S)
end Go.Proofs.YtahdeighocmijaaDoor
