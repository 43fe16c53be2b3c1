/- The files: Cut, Drop. -/
import Derived.Test.YtahdeighocmijaaDoorFs5
namespace Go.Proofs.YtahdeighocmijaaDoor
set_option linter.unusedSimpArgs false
set_option linter.unusedVariables false
open Go.RowKit
open Crc (Bytes)

/-- Whether a guard of a row does not hold. -/
def Fs.bad (S : Fs) (gs : List (ByteArray × Int)) : Bool := gs.any fun x => S.off x.1 x.2
def Fs.dropF (S : Fs) (s : ByteArray) (gs : List (ByteArray × Int)) : Int × Fs :=
  if fileB s = false then (1, S) else if S.bad gs = true then (5, S) else if S.has s = false then (4, S) else (0, S.gone s)
set_option maxRecDepth 100000 in
set_option maxHeartbeats 2000000 in
theorem drop_any {w : World} {fb mb n : Nat} {S : Fs} {D : DataW Value} {U : Int} (s : ByteArray) (gs : List (ByteArray × Int)) (A : Option Addr) (k c : Nat) (hs0 : s.size ≤ 140737488355328) (ho : S.ok U) (h : FSAt w fb S mb n D) (hg : Grd w A k gs) :
    Calls Tryd.prog 39 #[.pointer (some ⟨fb, 0, none⟩), .string s, .slice A k c] w fun e w' => e = .returned (.int .i64 (S.dropF s gs).1) ∧ FsDone w fb mb n S D (S.dropF s gs).2 w' := by
  have H := Lib.hid h
  have HG := Lib.hid hg
  have HO := Lib.hid ho
  have Hs2 := Lib.hid hs0
  have hs : s.size ≤ maxLen := Nat.le_trans hs0 lt_max
  clear hs0 h hg ho
  obtain ⟨b1, hb1⟩ : ∃ y, fileB s = y := ⟨_, rfl⟩
  obtain ⟨b2, hb2⟩ : ∃ y, S.bad gs = y := ⟨_, rfl⟩
  obtain ⟨b3, hb3⟩ : ∃ y, S.has s = y := ⟨_, rfl⟩
  have Hp := Lib.hid (show S.dropF s gs = if b1 = false then (1, S) else if b2 = true then (5, S) else if b3 = false then (4, S) else (0, S.gone s) by unfold Fs.dropF; rw [hb1, hb2, hb3])
  have H1 := Lib.hid hb1
  have H2 := Lib.hid (show (gs.any fun x => S.off x.1 x.2) = b2 from hb2)
  have H3 := Lib.hid hb3
  clear hb1 hb2 hb3
  cases b1
  · go_enter Tryd.func39, Tryd.ntmps39
    go_wp2_with (go_at_call 28; refine (file_any s _ Hs2.out).mono ?_; rintro e w1 ⟨rfl, e1⟩; rw [H1.out])
    go_ret
    exact ⟨by rw [Hp.out]; rfl, by rw [Hp.out]; exact ⟨⟨_, _, Nat.le_succ _, H.out.below e1, fun _ _ h => h⟩, Only.of_below e1 _⟩⟩
  cases b2
  rotate_left
  · go_enter Tryd.func39, Tryd.ntmps39
    go_wp2_with (first
      | (go_at_call 28; refine (file_any s _ Hs2.out).mono ?_; rintro e w1 ⟨rfl, e1⟩; rw [H1.out])
      | (go_at_call 57; refine (guards_any gs A k c (H.out.below e1) (HG.out.below e1)).mono ?_; rintro e w2 ⟨rfl, e2⟩; rw [H2.out]))
    go_ret
    have e3 := e1.trans (e2.mono e1.size)
    exact ⟨by rw [Hp.out]; rfl, by rw [Hp.out]; exact ⟨⟨_, _, Nat.le_succ _, H.out.below e3, fun _ _ h => h⟩, Only.of_below e3 _⟩⟩
  cases b3
  · go_enter Tryd.func39, Tryd.ntmps39
    go_wp2_with (first
      | (go_at_call 28; refine (file_any s _ Hs2.out).mono ?_; rintro e w1 ⟨rfl, e1⟩; rw [H1.out])
      | (go_at_call 57; refine (guards_any gs A k c (H.out.below e1) (HG.out.below e1)).mono ?_; rintro e w2 ⟨rfl, e2⟩; rw [H2.out])
      | (go_at_call 58; refine (there_any s hs ((H.out.below e1).below e2)).mono ?_; rintro e w3 ⟨rfl, e3⟩; rw [H3.out]))
    go_ret
    have e4 := e1.trans (e2.mono e1.size)
    have e5 := e4.trans (e3.mono e4.size)
    exact ⟨by rw [Hp.out]; rfl, by rw [Hp.out]; exact ⟨⟨_, _, Nat.le_succ _, H.out.below e5, fun _ _ h => h⟩, Only.of_below e5 _⟩⟩
  · go_enter Tryd.func39, Tryd.ntmps39
    go_wp2_with (first
      | (go_at_call 28; refine (file_any s _ Hs2.out).mono ?_; rintro e w1 ⟨rfl, e1⟩; rw [H1.out])
      | (go_at_call 57; refine (guards_any gs A k c (H.out.below e1) (HG.out.below e1)).mono ?_; rintro e w2 ⟨rfl, e2⟩; rw [H2.out])
      | (go_at_call 58; refine (there_any s hs ((H.out.below e1).below e2)).mono ?_; rintro e w3 ⟨rfl, e3⟩; rw [H3.out])
      | (go_at_call 59; refine (gone_any s hs HO.out (((H.out.below e1).below e2).below e3)).mono ?_; rintro e w4 ⟨rfl, ⟨D', h4, f4⟩, o4⟩))
    go_ret
    have e4 := e1.trans (e2.mono e1.size)
    have e5 := e4.trans (e3.mono e4.size)
    exact ⟨by rw [Hp.out]; rfl, by rw [Hp.out]; exact ⟨⟨_, _, Nat.le_succ _, h4, fun g _ h => f4 g h⟩, (Only.of_below e5 _).trans o4⟩⟩
end Go.Proofs.YtahdeighocmijaaDoor
