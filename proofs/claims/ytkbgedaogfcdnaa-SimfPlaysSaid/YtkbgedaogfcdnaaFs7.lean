/- The files: Move. -/
import Derived.Test.YtkbgedaogfcdnaaFs6
import Derived.Deep.DeepCutAuto
import Derived.Deep.CutBlock
import Derived.Test.YtkbgedaogfcdnaaStr
namespace Go.Proofs.Ytkbgedaogfcdnaa
set_option linter.unusedSimpArgs false
set_option linter.unusedVariables false
open Go.RowKit
open Crc (Bytes)

def Fs.moveF (S : Fs) (a b : ByteArray) (gs : List (ByteArray × Int)) : (Int × Int) × Fs :=
  if fileB a = false ∨ fileB b = false ∨ a = b then ((0, 1), S) else if S.bad gs = true then ((0, 5), S) else if S.has a = false then ((0, 4), S) else ((S.last + 1, 0), (S.gone a).write b (S.by a))
theorem gone_ok {S : Fs} {U : Int} (h : S.ok U) (s : ByteArray) (h2 : U + U ≤ 70368744177664) : (S.gone s).ok (U + U) := by
  have h3 := h.by1 s
  have h4 := h.u0
  have h5 := h.u1
  have h6 := h.l1
  refine ⟨?_, ?_, h.r0, h.r1, h.l0, ?_, h2, fun t => ?_⟩
  · show -(U + U) ≤ S.used - ((S.by s).length : Int); omega
  · show S.used - ((S.by s).length : Int) ≤ U + U; omega
  · show S.last ≤ U + U; have := h.l0; omega
  · have h7 := h.by1 t
    unfold Fs.by Fs.gone Fs.rm at *
    simp only
    split
    · simp; omega
    · rename_i x hx
      split at hx
      · cases hx
      · rw [hx] at h7
        simp only at h7
        omega

theorem FSAt.apart {w : World} {fb mb n k : Nat} {S : Fs} {D : DataW Value} {A : Option Addr} (h : FSAt w fb S mb n D) (hu : U8 w A k) : ∀ ad, A = some ad → 0 < k → ad.block ∉ [fb, mb] := by
  intro ad hA h0 hin
  have h1 := hu.ne h.blk (by decide) ad hA h0
  obtain ⟨cs, fr, hh⟩ := hu ad hA h0
  obtain ⟨es, clock, h2, _⟩ := h.own
  simp only [List.mem_cons, List.not_mem_nil, or_false] at hin
  rcases hin with e | e
  · exact h1 e
  · rw [e, h2] at hh; cases hh
theorem str_ne {a b : ByteArray} (h : a ≠ b) : (a.toList == b.toList) = false := by
  rw [beq_eq_false_iff_ne]
  intro e
  rw [ByteArray.toList_eq, ByteArray.toList_eq] at e
  exact h (ByteArray.ext (Array.toList_inj.1 e))
set_option maxRecDepth 100000 in
set_option maxHeartbeats 4000000 in
theorem move_any {w : World} {fb mb n : Nat} {S : Fs} {D : DataW Value} {U : Int} (a b : ByteArray) (gs : List (ByteArray × Int)) (A : Option Addr) (k c : Nat) (ha0 : a.size ≤ 140737488355328) (hb0 : b.size ≤ 140737488355328) (ho : S.ok U) (hU : U + U ≤ 70368744177664) (hn : n < maxLen) (h : FSAt w fb S mb n D) (hg : Grd w A k gs) :
    Calls Try.prog 15 #[.pointer (some ⟨fb, 0, none⟩), .string a, .string b, .slice A k c] w fun e w' => e = .returned (.tuple #[.int .i64 (S.moveF a b gs).1.1, .int .i64 (S.moveF a b gs).1.2]) ∧ FsDone w fb mb n S D (S.moveF a b gs).2 w' := by
  have H := Lib.hid h
  have HG := Lib.hid hg
  have HO := Lib.hid ho
  have Ha2 := Lib.hid ha0
  have Hb2 := Lib.hid hb0
  have hs : a.size ≤ maxLen := Nat.le_trans ha0 lt_max
  have hsb : b.size ≤ maxLen := Nat.le_trans hb0 lt_max
  clear ha0 hb0 h hg ho
  by_cases h1 : fileB a = false
  · have Hp := Lib.hid (show S.moveF a b gs = ((0, 1), S) by simp [Fs.moveF, h1])
    have H1 := Lib.hid h1
    clear h1
    go_enter Try.func15, Try.ntmps15
    go_wp2_with (go_at_call 33; refine (file_any a _ Ha2.out).mono ?_; rintro e w1 ⟨rfl, e1⟩; rw [H1.out])
    go_ret2
    exact ⟨by rw [Hp.out]; rfl, by rw [Hp.out]; exact ⟨⟨_, _, Nat.le_succ _, H.out.below e1, fun _ _ h => h⟩, Only.of_below e1 _⟩⟩
  have H1 := Lib.hid (show fileB a = true by simpa using h1)
  by_cases h2 : fileB b = false
  · have Hp := Lib.hid (show S.moveF a b gs = ((0, 1), S) by simp [Fs.moveF, h2])
    have H2 := Lib.hid h2
    clear h1 h2
    go_enter Try.func15, Try.ntmps15
    go_wp2_with (first
      | (go_at_call 33; with_reducible refine (file_any a _ Ha2.out).mono ?_; rintro e w1 ⟨rfl, e1⟩; rw [H1.out])
      | (go_at_call 33; with_reducible refine (file_any b _ Hb2.out).mono ?_; rintro e w2 ⟨rfl, e2⟩; rw [H2.out]))
    go_ret2
    have e3 := e1.trans (e2.mono e1.size)
    exact ⟨by rw [Hp.out]; rfl, by rw [Hp.out]; exact ⟨⟨_, _, Nat.le_succ _, H.out.below e3, fun _ _ h => h⟩, Only.of_below e3 _⟩⟩
  have H2 := Lib.hid (show fileB b = true by simpa using h2)
  by_cases h3 : a = b
  · have Hp := Lib.hid (show S.moveF a b gs = ((0, 1), S) by simp [Fs.moveF, h3])
    subst h3
    clear h1 h2
    go_enter Try.func15, Try.ntmps15
    go_wp2_with (go_at_call 33; refine (file_any a _ Ha2.out).mono ?_; rintro e w1 ⟨rfl, e1⟩; rw [H1.out])
    go_ret2
    rename_i e0
    have e3 := e0.trans (e1.mono e0.size)
    exact ⟨by rw [Hp.out]; rfl, by rw [Hp.out]; exact ⟨⟨_, _, Nat.le_succ _, H.out.below e3, fun _ _ h => h⟩, Only.of_below e3 _⟩⟩
  have h3' := str_ne h3
  cases h4 : S.bad gs
  rotate_left
  · have Hp := Lib.hid (show S.moveF a b gs = ((0, 5), S) by simp [Fs.moveF, h1, h2, h3, h4])
    have H4 := Lib.hid (show (gs.any fun x => S.off x.1 x.2) = true from h4)
    clear h1 h2 h3 h4
    go_enter Try.func15, Try.ntmps15
    go_wp2_with (first | (go_at_call 33; with_reducible refine (file_any a _ Ha2.out).mono ?_; rintro e w1 ⟨rfl, e1⟩; rw [H1.out]) | (go_at_call 33; with_reducible refine (file_any b _ Hb2.out).mono ?_; rintro e w2 ⟨rfl, e2⟩; rw [H2.out]) | (go_at_call 41; refine (guards_any gs A k c ((H.out.below e1).below e2) ((HG.out.below e1).below e2)).mono ?_; rintro e w3 ⟨rfl, e3⟩; rw [H4.out]))
    go_ret2
    have e4 := e1.trans (e2.mono e1.size)
    have e5 := e4.trans (e3.mono e4.size)
    exact ⟨by rw [Hp.out]; rfl, by rw [Hp.out]; exact ⟨⟨_, _, Nat.le_succ _, H.out.below e5, fun _ _ h => h⟩, Only.of_below e5 _⟩⟩
  have H4 := Lib.hid (show (gs.any fun x => S.off x.1 x.2) = false from h4)
  cases h5 : S.has a
  · have Hp := Lib.hid (show S.moveF a b gs = ((0, 4), S) by simp [Fs.moveF, h1, h2, h3, h4, h5])
    have H5 := Lib.hid h5
    clear h1 h2 h3 h4 h5
    go_enter Try.func15, Try.ntmps15
    go_wp2_with (first | (go_at_call 33; with_reducible refine (file_any a _ Ha2.out).mono ?_; rintro e w1 ⟨rfl, e1⟩; rw [H1.out]) | (go_at_call 33; with_reducible refine (file_any b _ Hb2.out).mono ?_; rintro e w2 ⟨rfl, e2⟩; rw [H2.out]) | (go_at_call 41; refine (guards_any gs A k c ((H.out.below e1).below e2) ((HG.out.below e1).below e2)).mono ?_; rintro e w3 ⟨rfl, e3⟩; rw [H4.out]) | (go_at_call 34; refine (there_any a hs (((H.out.below e1).below e2).below e3)).mono ?_; rintro e w4 ⟨rfl, e4⟩; rw [H5.out]))
    go_ret2
    have f4 := e1.trans (e2.mono e1.size)
    have f5 := f4.trans (e3.mono f4.size)
    have f6 := f5.trans (e4.mono f5.size)
    exact ⟨by rw [Hp.out]; rfl, by rw [Hp.out]; exact ⟨⟨_, _, Nat.le_succ _, H.out.below f6, fun _ _ h => h⟩, Only.of_below f6 _⟩⟩
  · have Hp := Lib.hid (show S.moveF a b gs = ((S.last + 1, 0), (S.gone a).write b (S.by a)) by simp [Fs.moveF, h1, h2, h3, h4, h5])
    have H5 := Lib.hid h5
    clear h1 h2 h3 h4 h5
    go_enter Try.func15, Try.ntmps15
    go_upto_region 7 with (first | (go_at_call 33; with_reducible refine (file_any a _ Ha2.out).mono ?_; rintro e w1 ⟨rfl, e1⟩; rw [H1.out]) | (go_at_call 33; with_reducible refine (file_any b _ Hb2.out).mono ?_; rintro e w2 ⟨rfl, e2⟩; rw [H2.out]) | (go_at_call 41; refine (guards_any gs A k c ((H.out.below e1).below e2) ((HG.out.below e1).below e2)).mono ?_; rintro e w3 ⟨rfl, e3⟩; rw [H4.out]) | (go_at_call 34; refine (there_any a hs (((H.out.below e1).below e2).below e3)).mono ?_; rintro e w4 ⟨rfl, e4⟩; rw [H5.out]))
    have f4 := e1.trans (e2.mono e1.size)
    have f5 := f4.trans (e3.mono f4.size)
    have f6 := f5.trans (e4.mono f5.size)
    have F6 := Lib.hid f6
    have h6 := H.out.below f6
    clear e1 e2 e3 e4 f4 f5 f6
    obtain ⟨B, m, d, hrun, hbs, hmd, hu, hfr⟩ := h6.look2 a hs
    have Hfr := Lib.hid hfr
    clear hfr
    have c5 : w4.cell? ⟨fb, 5, none⟩ = some (.map (some mb)) := h6.blk.cell 5
    have f0 := fieldB
    unfold fileV at hrun
    have H6 := Lib.hid h6
    have Hbs := Lib.hid hbs
    have Hu := Lib.hid hu
    clear h6 hbs hu
    go_wp2_with fail
    refine (gone_any a hs HO.out H6.out).mono ?_
    rintro e w5 ⟨rfl, ⟨D5, h5, f5⟩, o5⟩
    have F5 := Lib.hid f5
    have hap := H6.out.apart Hu.out
    have hb5 := Lib.hid (Hbs.out.only o5 hap)
    have hu5 := Lib.hid (Hu.out.keep fun ad hA h0 => o5.block ad.block (Hu.out.lt ad hA h0) (hap ad hA h0))
    have H7 := Lib.hid h5
    have O5 := Lib.hid ((Only.of_below F6.out [fb, mb]).trans o5)
    have hml := Hbs.out.len
    have hmU := HO.out.by1 a
    clear h5 o5 f5 hap hrun c5 f0
    go_wp2_with fail
    refine (write_any b (S.by a) B m d hsb (by omega) hn (gone_ok HO.out a hU) H7.out hb5.out hmd hu5.out).mono ?_
    rintro e w6 ⟨rfl, ⟨D6, h6, f6⟩, o6⟩
    have G6 := Lib.hid f6
    have H8 := Lib.hid h6
    have O6 := Lib.hid (O5.out.trans o6)
    clear h6 o6 f6
    go_wp2_with fail
    go_ret2
    exact ⟨by rw [Hp.out]; rfl, by rw [Hp.out]; exact ⟨⟨_, _, Nat.le_refl _, H8.out, fun g _ h => G6.out g (F5.out g h) (Hfr.out g h)⟩, O6.out⟩⟩
end Go.Proofs.Ytkbgedaogfcdnaa
