/- optn.Print. -/
import Derived.Test.YtkbgedaogfcdnaaDoorReptT
namespace Go.Proofs.YtkbgedaogfcdnaaDoor
set_option linter.unusedSimpArgs false
set_option linter.unusedVariables false
open Go.RowKit
open Crc (Bytes)
/-- A row of names none of which is long. -/
def Short (l : List (List UInt8)) : Prop := ∀ x ∈ l, x.length ≤ 1048576
set_option maxRecDepth 100000 in
theorem pbad_any (x : List UInt8) (hx : x.length ≤ 1048576) (w : World) : Calls Tryd.prog 51 #[.string (T x)] w fun e w' => e = .returned (.bool (!Rep.okL x)) ∧ w = w' := by
  have hs := T_size x
  go_enter Tryd.func51, Tryd.ntmps51
  go_wp2_with fail
  refine (ok_any (T x) _ (by omega)).mono ?_
  rintro e w' ⟨rfl, rfl⟩
  rw [okB_T]
  go_wp2_with fail
  go_ret
  exact ⟨rfl, rfl⟩
set_option maxRecDepth 100000 in
set_option maxHeartbeats 1000000 in
theorem idxf_any {w : World} (A : Option Addr) (n c : Nat) (l : List (List UInt8)) (h : SS w A n l) (hs : Short l) :
    Calls Tryd.prog 63 #[.slice A n c, .func (.func 51) #[] #[]] w fun e w' => (∃ r : Int, e = .returned (.int .i64 r) ∧ (decide (0 ≤ r) = !l.all Rep.okL)) ∧ Below w.heap.size w w' := by
  have hlen := h.len
  have hle := h.le
  have H := Lib.hid h
  have HL := Lib.hid hlen
  have HS := Lib.hid hs
  clear h hlen hs
  go_enter Tryd.func63, Tryd.ntmps63
  go_wp2_with fail
  go_loopw [8] (fun i wr => ∃ k : Nat, k ≤ n ∧ i = .int .i64 k ∧ Hid ((l.take k).all Rep.okL = true) ∧ Below w.heap.size w wr) (fun i _ => n - (intOf i).toNat)
  case atStart => exact ⟨0, Nat.zero_le _, rfl, Lib.hid rfl, Below.refl _ _⟩
  case round =>
    obtain ⟨k, hk, rfl, he, hb⟩ := hrel
    have HB := Lib.hid hb
    by_cases hlt : k < n
    · obtain ⟨ad, hk1, rfl, hcell⟩ := (H.out.below hb).get hlt
      obtain ⟨x, hx⟩ : ∃ x, l[k] = x := ⟨_, rfl⟩
      have hmem : x ∈ l := by rw [← hx]; exact List.getElem_mem hk1
      rw [hx] at hcell
      have HX := Lib.hid hx
      clear hx hb
      go_wp2_with fail
      refine (pbad_any x (HS.out x hmem) _).mono ?_
      rintro e w' ⟨rfl, rfl⟩
      have HK := Lib.hid (show (l.take (k + 1)).all Rep.okL = Rep.okL x by
        rw [List.take_succ_eq_append_getElem hk1, List.all_append, he.out, HX.out]; simp)
      have HA := Lib.hid (show Rep.okL x = false → l.all Rep.okL = false from fun h => by
        rw [List.all_eq_false]; exact ⟨x, hmem, by rw [h]; decide⟩)
      clear hmem
      cases hok : Rep.okL x with
      | true =>
        rw [hok] at HK
        go_wp2_with fail
        exact ⟨⟨k + 1, by omega, by go_num, HK, HB.out⟩, by simp [intOf]; omega⟩
      | false =>
        have hall := Lib.hid (HA.out hok)
        go_wp2_with fail
        go_ret
        exact ⟨⟨k, rfl, by rw [hall.out]; simp⟩, HB.out⟩
    · have hkn : k = n := by omega
      subst hkn
      have hall := he.out
      rw [List.take_of_length_le (by rw [HL.out]; exact Nat.le_refl _)] at hall
      have HA := Lib.hid hall
      clear hall he
      go_wp2_with fail
      go_ret
      exact ⟨⟨-1, rfl, by rw [HA.out]; rfl⟩, HB.out⟩
theorem contf_any {w : World} (A : Option Addr) (n c : Nat) (l : List (List UInt8)) (h : SS w A n l) (hs : Short l) :
    Calls Tryd.prog 50 #[.slice A n c, .func (.func 51) #[] #[]] w fun e w' => e = .returned (.bool (!l.all Rep.okL)) ∧ Below w.heap.size w w' := by
  have H := Lib.hid h
  have HS := Lib.hid hs
  clear h hs
  go_enter Tryd.func50, Tryd.ntmps50
  go_wp2_with fail
  refine (idxf_any A n c l H.out HS.out).mono ?_
  rintro e w' ⟨⟨r, rfl, hr⟩, hb⟩
  have HR := Lib.hid hr
  clear hr
  go_wp2_with fail
  go_ret
  exact ⟨by rw [← HR.out]; rfl, hb⟩
end Go.Proofs.YtkbgedaogfcdnaaDoor
