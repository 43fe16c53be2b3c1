/- The reference's frames and commits are written. -/
import Derived.Test.YtahdeighocmijaaDoorRfram
namespace Go.Proofs.YtahdeighocmijaaDoor
set_option linter.unusedSimpArgs false
set_option linter.unusedVariables false
open Go.RowKit
open Crc (Bytes)
open Cod (six held dig far numOf)

set_option maxRecDepth 100000 in
set_option maxHeartbeats 2000000 in
theorem rput_any (A B : Option Addr) (n m c d : Nat) (l x : List Int) (w : World) (h : Bs w A n l) (hx : Bs w B m x) (hn : n + m ≤ 140737488350000) :
    Calls Tryd.prog 23 #[.slice A n c, .slice B m d] w (Gives w (l ++ framed x)) := by
  have H := Lib.hid h
  have HX := Lib.hid hx
  have hxl := hx.len
  have hll := h.len
  obtain ⟨y, hy⟩ : ∃ y, Crc.sum (bod x) = y := ⟨_, rfl⟩
  have Hy := Lib.hid hy
  clear h hx hy
  go_enter Tryd.func23, Tryd.ntmps23
  go_wp2_with fail
  refine (qbytesw_any none B 0 m 0 d [] x w (Bs.nil _ _) HX.out (by omega)).mono ?_
  rintro e w1 ⟨C, k, e1, rfl, hk, hown, hno, hb1⟩
  rw [show [] ++ six (x.length : Int) ++ x = bod x from rfl] at hk hown
  have hkl := hk.out
  rw [bod_len] at hkl
  have HC := Lib.hid (own_bs hown (bod_bytes HX.out.by_) (by omega))
  have HB1 := Lib.hid hb1
  have H2 := Lib.hid (H.out.below hb1)
  have hsz1 := hb1.size
  clear hown hno hb1
  go_wp2_with fail
  refine (rsum_eq C k e1 (bod x) y _ Hy.out HC.out).mono ?_
  rintro e w' ⟨rfl, rfl⟩
  have e4 : ints .u8 (sum4 (bod x)) = [.int .u8 (y / 16777216 % 256), .int .u8 (y / 65536 % 256), .int .u8 (y / 256 % 256), .int .u8 (y % 256)] := by unfold sum4; rw [Hy.out]; rfl
  have E4 := Lib.hid e4
  clear e4
  go_wp2_with (at_builtin; first
    | (refine wpList_app rfl (.tmp 11) (.tmp 12) 33 rfl Tryd.underlying33 u8i rfl (by decide) rfl (Own.lit w1 [] 5 1 0 (Nat.le_refl _) rfl (by decide)) rfl (H2.out.alloc _).rd (ints_one _ _) (by omega) (by omega) (by simp) (Nat.zero_add n) (List.nil_append _) ?_
       intro D dc w2 hown2 hg2 hx2
       have HB2 := Lib.hid (show Below w1.heap.size w1 w2 from ((Below.refl _ _).alloc (Nat.le_refl _) _).grown hg2 (by simp) (by intro k hk; simp [ob] at hk; omega))
       have hsz2 := HB2.out.size
       have HC2 := Lib.hid (HC.out.below HB2.out)
       have HD := Lib.hid hown2
       clear hown2 hg2 hx2)
    | (refine wpList_app rfl (.tmp 13) (.tmp 14) 33 rfl Tryd.underlying33 u8i rfl (by decide) rfl HD.out rfl HC2.out.rd (ints_one _ _) (by omega) (by omega) hsz2 rfl (show ints .u8 l ++ ints .u8 (bod x) = ints .u8 (l ++ bod x) by simp [ints]) ?_
       intro F fc w3 hown3 hg3 hx3
       have HB3 := Lib.hid (show Below w1.heap.size w1 w3 from HB2.out.grown hg3 hsz2 (fun k hk => (HD.out.blk k hk).1))
       have hsz3 := HB3.out.size
       have HF := Lib.hid hown3
       clear hown3 hg3 hx3)
    | (refine wpList_app rfl (.tmp 15) (.tmp 27) 33 rfl Tryd.underlying33 u8i rfl (by decide) rfl (HF.out.alloc _) rfl (Rd.lit w3 #[.int .u8 (y / 16777216 % 256), .int .u8 (y / 65536 % 256), .int .u8 (y / 256 % 256), .int .u8 (y % 256)] 5 (0, 0) 1 4 rfl) (by simp [Value.oneCell']) (by omega) (by omega) (by simp; omega) rfl (show ints .u8 (l ++ bod x) ++ #[Value.int .u8 (y / 16777216 % 256), .int .u8 (y / 65536 % 256), .int .u8 (y / 256 % 256), .int .u8 (y % 256)].toList = ints .u8 (l ++ framed x) by rw [show #[Value.int .u8 (y / 16777216 % 256), .int .u8 (y / 65536 % 256), .int .u8 (y / 256 % 256), .int .u8 (y % 256)].toList = ints .u8 (sum4 (bod x)) from E4.out.symm]; simp [ints, framed]) ?_
       intro G gc w4 hown4 hg4 hx4
       have HB4 := Lib.hid (show Below w1.heap.size w1 w4 from (bl_alloc HB3.out).grown hg4 (by simp; omega) (fun k hk => (HF.out.blk k hk).1))
       have HG := Lib.hid hown4
       clear hown4 hg4 hx4))
  go_ret
  have hl4 : (l ++ framed x).length = n + k + 4 := by rw [List.length_append, framed_len]; omega
  refine ⟨G, n + k + 4, gc, rfl, Lib.hid hl4, HG.out.more hsz1, fun hG => ?_, HB1.out.trans (HB4.out.mono hsz1)⟩
  subst hG
  obtain ⟨g, hg, _⟩ := HG.out.some (show 0 < n + k + 4 by omega)
  cases hg
end Go.Proofs.YtahdeighocmijaaDoor
