/- Locks: Take.Step. -/
import Derived.Test.YtahdeighocmijaaDoorTake4
namespace Go.Proofs.YtahdeighocmijaaDoor
set_option linter.unusedSimpArgs false
set_option linter.unusedVariables false
open Go.RowKit
open Crc (Bytes)
section
variable {w0 w : World} {fb mb tb n : Nat} {S : Fs} {t : Tk}
set_option maxRecDepth 100000 in
set_option maxHeartbeats 4000000 in
theorem tstep_any (hH : FsH w0 w fb mb S n) (hX : TkAt w tb t) (hw : w0.heap.size ≤ tb) (hwf : t.wf) (now : Int) (hn : n ≤ 4999) (hlen : t.at_ = 0 → (S.readF t.file).2.1.length ≤ 100000) :
    Calls Tryd.prog 17 #[.pointer (some ⟨tb, 0, none⟩), .pointer (some ⟨fb, 0, none⟩), .int .i64 now] w fun e w' => TDid w0 fb mb tb w w' e (stepT now S t).1 (stepT now S t).2.2 (n + 1) (stepT now S t).2.1 := by
  obtain ⟨mx, hmx⟩ : ∃ mx, (if now < 0 then (0 : Int) else now) = mx := ⟨_, rfl⟩
  obtain ⟨cn, hcn⟩ : ∃ cn, (if 549755813888 < mx then (549755813888 : Int) else mx) = cn := ⟨_, rfl⟩
  have hcl : clampN now = cn := by
    unfold clampN
    rw [← hcn, ← hmx]
    split <;> split <;> omega
  have hb : Blk w tb 75 t.cells := hX
  obtain ⟨hf, hp, hg, he, l0, l1, ha⟩ := hwf
  rcases ha with hat | hat | hat | hat | hat | hat
  · have c5 : w.cell? ⟨tb, 5, none⟩ = some (.int .i64 0) := by rw [← hat]; exact hb.cell 5
    have hc := tread_any hH hX hw hf now (hlen hat)
    rw [hcl] at hc
    have HC := Lib.hid hc
    clear hc
    have HM := Lib.hid (stepT_0 (now := now) (S := S) hat)
    clear hb hX hH hat he hcl
    go_enter Tryd.func17, Tryd.ntmps17
    go_wp2_with fail
    refine HC.out.mono ?_
    rintro e w' hd
    obtain rfl := hd.ret
    have HD := Lib.hid (hd.more _ hn)
    clear hd
    go_wp2_with fail
    go_ret
    rw [HM.out]
    exact HD.out
  · have c5 : w.cell? ⟨tb, 5, none⟩ = some (.int .i64 1) := by rw [← hat]; exact hb.cell 5
    have hc := tmade_any hH hX hw hf l0 l1 now hn
    rw [hcl] at hc
    have HC := Lib.hid hc
    clear hc
    have HM := Lib.hid (stepT_1 (now := now) (S := S) hat)
    clear hb hX hH hat he hcl
    go_enter Tryd.func17, Tryd.ntmps17
    go_wp2_with fail
    refine HC.out.mono ?_
    rintro e w' hd
    obtain rfl := hd.ret
    have HD := Lib.hid hd
    clear hd
    go_wp2_with fail
    go_ret
    rw [HM.out]
    exact HD.out
  · have c5 : w.cell? ⟨tb, 5, none⟩ = some (.int .i64 2) := by rw [← hat]; exact hb.cell 5
    have hc := tput_any hH hX hw hp (he hat) l0 l1 now hn
    rw [hcl] at hc
    have HC := Lib.hid hc
    clear hc
    have HM := Lib.hid (stepT_2 (now := now) (S := S) hat)
    clear hb hX hH hat he hcl
    go_enter Tryd.func17, Tryd.ntmps17
    go_wp2_with fail
    refine HC.out.mono ?_
    rintro e w' hd
    obtain rfl := hd.ret
    have HD := Lib.hid hd
    clear hd
    go_wp2_with fail
    go_ret
    rw [HM.out]
    exact HD.out
  · exact tstep3_any hH hX hw hf hp hg now hn hat
  · have c5 : w.cell? ⟨tb, 5, none⟩ = some (.int .i64 4) := by rw [← hat]; exact hb.cell 5
    have c1 : w.cell? ⟨tb, 1, none⟩ = some (.string t.temp) := hb.cell 1
    have HM := Lib.hid (stepT_4 (now := now) (S := S) hat)
    have hne := hH.ne hb.at_ (by decide)
    have HX := Lib.hid hb
    have HH := Lib.hid hH
    clear hb hX hH hat he hcl
    go_enter Tryd.func17, Tryd.ntmps17
    go_wp2_with fail
    refine (drop_h HH.out hn t.temp [] none 0 0 hp (Grd.nil _)).mono ?_
    rintro e w1 ⟨rfl, h1, o1⟩
    have HX1 := Lib.hid (show TkAt w1 tb t from HX.out.only o1 hne)
    have HO3 := Lib.hid (o1.more (cs := [fb, mb, tb]) (fun b hb => .inl (by simp at hb ⊢; rcases hb with h | h <;> simp [h])))
    have HH1 := Lib.hid h1
    clear h1 o1 c5 c1 HX HH
    go_wp2_with fail
    refine (tend_any HH1.out HX1.out hw 2).mono ?_
    (rintro e w' hd; obtain rfl := hd.ret; have HD := Lib.hid (hd.after HO3.out); clear hd; go_wp2_with fail; go_ret; rw [HM.out]; exact HD.out)
  · have c5 : w.cell? ⟨tb, 5, none⟩ = some (.int .i64 5) := by rw [← hat]; exact hb.cell 5
    have c6 : w.cell? ⟨tb, 6, none⟩ = some (.int .i64 t.told) := hb.cell 6
    have HM := Lib.hid (stepT_5 (now := now) (S := S) hat)
    have HX := Lib.hid hX
    have HH := Lib.hid (hH.more (k' := n + 1) (by omega) (by omega))
    clear hb hX hH hat he hcl
    go_enter Tryd.func17, Tryd.ntmps17
    go_wp2_with fail
    go_ret
    rw [HM.out]
    exact ⟨rfl, HH.out, HX.out, Only.refl _ _⟩
end
end Go.Proofs.YtahdeighocmijaaDoor
