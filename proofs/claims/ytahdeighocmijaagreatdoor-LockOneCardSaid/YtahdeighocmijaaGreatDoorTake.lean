/- Locks: Take's steps. -/
import Derived.Test.YtahdeighocmijaaGreatDoorLockO
import Derived.Test.YtahdeighocmijaaGreatDoorLast
namespace Go.Proofs.YtahdeighocmijaaGreatDoor
set_option linter.unusedSimpArgs false
set_option linter.unusedVariables false
open Go.RowKit
open Crc (Bytes)

def Tk.cells (t : Tk) : List Value := [.string t.file, .string t.temp, .int .i64 t.who, .int .i64 t.inc, .int .i64 t.lease, .int .i64 t.at_, .int .i64 t.told, .string t.gn, .int .i64 t.gs, .int .i64 t.l.who, .int .i64 t.l.inc, .int .i64 t.l.epoch, .int .i64 t.l.till]
def TkAt (w : World) (tb : Nat) (t : Tk) : Prop := Blk w tb 85 t.cells
structure TDid (w0 : World) (fb mb tb : Nat) (w w' : World) (e : Ending) (k : Int) (S : Fs) (n : Nat) (t : Tk) : Prop where
  ret : e = .returned (.int .i64 k)
  h : FsH w0 w' fb mb S n
  x : TkAt w' tb t
  o : Only [fb, mb, tb] w w'
theorem TDid.after {w0 w w1 w2 : World} {fb mb tb n : Nat} {S : Fs} {t : Tk} {e : Ending} {k : Int} (h : TDid w0 fb mb tb w1 w2 e k S n t) (ho : Only [fb, mb, tb] w w1) : TDid w0 fb mb tb w w2 e k S n t := ⟨h.ret, h.h, h.x, ho.trans h.o⟩
section
variable {w0 w : World} {fb mb tb n : Nat} {S : Fs} {t : Tk}
theorem tk_set (hH : FsH w0 w fb mb S n) (hX : TkAt w tb t) (hw : w0.heap.size ≤ tb) {w' : World} {t' : Tk} (ho : Only [tb] w w') (hX' : TkAt w' tb t') : FsH w0 w' fb mb S n ∧ TkAt w' tb t' ∧ Only [fb, mb, tb] w w' :=
  ⟨hH.turn ho hX (by decide) (by decide) hw, hX', ho.more fun b hb => .inl (by simp at hb; simp [hb])⟩
set_option maxRecDepth 100000 in
theorem tend_any (hH : FsH w0 w fb mb S n) (hX : TkAt w tb t) (hw : w0.heap.size ≤ tb) (q : Int) :
    Calls Tryz.prog 41 #[.pointer (some ⟨tb, 0, none⟩), .int .i64 q] w fun e w' => TDid w0 fb mb tb w w' e q S n (t.end_ q) := by
  have hb : Blk w tb 85 t.cells := hX
  have c5 : w.cell? ⟨tb, 5, none⟩ = some (.int .i64 t.at_) := hb.cell 5
  have c6 : w.cell? ⟨tb, 6, none⟩ = some (.int .i64 t.told) := hb.cell 6
  have z5 := hb.frozen 5
  have z6 := hb.frozen 6
  have HS := Lib.hid (fun w' ho hx => tk_set hH hX hw (w' := w') (t' := t.end_ q) ho hx)
  have HB := Lib.hid hb
  clear hH hX hb
  go_enter Tryz.func41, Tryz.ntmps41
  go_wp2_with fail
  go_ret
  obtain ⟨h1, h2, h3⟩ := HS.out _ (((Only.refl _ _).setCell (.inl (by simp)) _).setCell (.inl (by simp)) _) ((HB.out.set_ 5 _).set_ 6 _)
  exact ⟨rfl, h1, h2, h3⟩
set_option maxRecDepth 100000 in
theorem tto_any (hH : FsH w0 w fb mb S n) (hX : TkAt w tb t) (hw : w0.heap.size ≤ tb) (q : Int) :
    Calls Tryz.prog 38 #[.pointer (some ⟨tb, 0, none⟩), .int .i64 q] w fun e w' => TDid w0 fb mb tb w w' e 0 S n { t with at_ := q } := by
  have hb : Blk w tb 85 t.cells := hX
  have c5 : w.cell? ⟨tb, 5, none⟩ = some (.int .i64 t.at_) := hb.cell 5
  have z5 := hb.frozen 5
  have HS := Lib.hid (fun w' ho hx => tk_set hH hX hw (w' := w') (t' := { t with at_ := q }) ho hx)
  have HB := Lib.hid hb
  clear hH hX hb
  go_enter Tryz.func38, Tryz.ntmps38
  go_wp2_with fail
  go_ret
  obtain ⟨h1, h2, h3⟩ := HS.out _ ((Only.refl _ _).setCell (.inl (by simp)) _) (HB.out.set_ 5 _)
  exact ⟨rfl, h1, h2, h3⟩
set_option maxRecDepth 100000 in
theorem tfails_any (hH : FsH w0 w fb mb S n) (hX : TkAt w tb t) (hw : w0.heap.size ≤ tb) (e0 : Int) :
    Calls Tryz.prog 58 #[.pointer (some ⟨tb, 0, none⟩), .int .i64 e0] w fun e w' => TDid w0 fb mb tb w w' e (failQ e0) S n (t.end_ (failQ e0)) := by
  have HH := Lib.hid hH
  have HX := Lib.hid hX
  clear hH hX
  by_cases h : e0 = 2
  · have hq := Lib.hid (show failQ e0 = 4 by unfold failQ; rw [if_pos h])
    have hb : (e0 == 2) = true := by rw [beq_iff_eq]; exact h
    clear h
    go_enter Tryz.func58, Tryz.ntmps58
    go_wp2_with fail
    refine (tend_any HH.out HX.out hw 4).mono ?_
    rintro e w' hd
    obtain rfl := hd.ret
    have HD := Lib.hid hd
    clear hd
    go_wp2_with fail
    go_ret
    rw [hq.out]
    exact HD.out
  · have hq := Lib.hid (show failQ e0 = 3 by unfold failQ; rw [if_neg h])
    have hb : (e0 == 2) = false := by rw [beq_eq_false_iff_ne]; exact h
    clear h
    go_enter Tryz.func58, Tryz.ntmps58
    go_wp2_with fail
    refine (tend_any HH.out HX.out hw 3).mono ?_
    rintro e w' hd
    obtain rfl := hd.ret
    have HD := Lib.hid hd
    clear hd
    go_wp2_with fail
    go_ret
    rw [hq.out]
    exact HD.out
set_option maxRecDepth 100000 in
theorem theld_any (hH : FsH w0 w fb mb S n) (hX : TkAt w tb t) (hw : w0.heap.size ≤ tb) (st : Int) :
    Calls Tryz.prog 39 #[.pointer (some ⟨tb, 0, none⟩), .int .i64 st] w fun e w' => TDid w0 fb mb tb w w' e 1 S n (t.held st) := by
  have hb : Blk w tb 85 t.cells := hX
  have c0 : w.cell? ⟨tb, 0, none⟩ = some (.string t.file) := hb.cell 0
  have c7 : w.cell? ⟨tb, 7, none⟩ = some (.string t.gn) := hb.cell 7
  have c8 : w.cell? ⟨tb, 8, none⟩ = some (.int .i64 t.gs) := hb.cell 8
  have z7 := hb.frozen 7
  have z8 := hb.frozen 8
  have HS := Lib.hid (fun w' ho hx => tk_set hH hX hw (w' := w') (t' := { t with gn := t.file, gs := st }) ho hx)
  have HB := Lib.hid hb
  clear hH hX hb
  go_enter Tryz.func39, Tryz.ntmps39
  go_upto_region 2 with fail
  obtain ⟨h1, h2, h3⟩ := HS.out _ (((Only.refl _ _).setCell (.inl (by simp)) (.string t.file)).setCell (.inl (by simp)) (.int .i64 st)) ((HB.out.set_ 7 _).set_ 8 _)
  generalize hw1 : (w.setCell ⟨tb, 7, none⟩ (.string t.file)).setCell ⟨tb, 8, none⟩ (.int .i64 st) = w1 at *
  have H1 := Lib.hid h1
  have H2 := Lib.hid h2
  have H3 := Lib.hid h3
  clear hw1 c0 c7 c8 z7 z8 h1 h2 h3
  go_wp2_with fail
  refine (tend_any H1.out H2.out hw 1).mono ?_
  rintro e w' hd
  obtain rfl := hd.ret
  have HD := Lib.hid (hd.after H3.out)
  clear hd
  go_wp2_with fail
  go_ret
  exact HD.out
end
end Go.Proofs.YtahdeighocmijaaGreatDoor
