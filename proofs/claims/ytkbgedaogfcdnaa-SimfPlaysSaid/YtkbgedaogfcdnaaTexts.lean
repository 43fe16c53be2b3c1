/- Rows of texts: fettleref1.SameTexts. -/
import Derived.Test.YtkbgedaogfcdnaaFsL
namespace Go.Proofs.Ytkbgedaogfcdnaa
set_option linter.unusedSimpArgs false
set_option linter.unusedVariables false
open Go.RowKit
open Crc (Bytes)

/-- A row of texts. -/
structure Strs (w : World) (A : Option Addr) (n : Nat) (l : List (List UInt8)) : Prop where
  rd : Rd w 1 A n (l.map encStr)
  le : n ≤ 4611686018427387000
theorem Strs.len {w : World} {A : Option Addr} {n : Nat} {l : List (List UInt8)} (h : Strs w A n l) : l.length = n := by have := h.rd.len; simpa using this
theorem Strs.get {w : World} {A : Option Addr} {n : Nat} {l : List (List UInt8)} (h : Strs w A n l) {k : Nat} (hk : k < n) : ∃ ad, ∃ hl : k < l.length, A = some ad ∧ w.cell? (ad.add k) = some (.string ⟨l[k].toArray⟩) := by
  obtain ⟨ad, hA, hc, hl⟩ := h.rd.get hk
  have hl' : k < l.length := by simpa using hl
  exact ⟨ad, hl', hA, by rw [hc, List.getElem?_map, List.getElem?_eq_getElem hl']; rfl⟩
theorem Strs.below {w w' : World} {A : Option Addr} {n : Nat} {l : List (List UInt8)} (h : Strs w A n l) (hb : Below w.heap.size w w') : Strs w' A n l := ⟨h.rd.below hb, h.le⟩
theorem take_eq_step {l m : List (List UInt8)} {k : Nat} (h1 : k < l.length) (h2 : k < m.length) (he : l.take k = m.take k) : (l.take (k + 1) = m.take (k + 1)) ↔ l[k] = m[k] := by
  rw [List.take_succ_eq_append_getElem h1, List.take_succ_eq_append_getElem h2, he]
  constructor
  · intro e
    have := List.append_cancel_left e
    simpa using this
  · intro e; rw [e]
set_option maxRecDepth 100000 in
set_option maxHeartbeats 1000000 in
theorem sametexts_any {w : World} (A B : Option Addr) (n m c d : Nat) (l r : List (List UInt8)) (h : Strs w A n l) (h2 : Strs w B m r) :
    Calls Try.prog 28 #[.slice A n c, .slice B m d] w fun e w' => e = .returned (.bool (decide (l = r))) ∧ Below w.heap.size w w' := by
  have hl := h.len
  have hr := h2.len
  have hle := h.le
  by_cases hnm : n = m
  rotate_left
  · have Hd := Lib.hid (show decide (l = r) = false from decide_eq_false fun e => hnm (by rw [← hl, ← hr, e]))
    have e1 : ((n : Int) == (m : Int)) = false := by rw [beq_eq_false_iff_ne]; omega
    clear h h2 hl hr
    go_enter Try.func28, Try.ntmps28
    go_wp2_with fail
    go_ret
    exact ⟨by rw [Hd.out]; rfl, Below.refl _ _⟩
  subst hnm
  have H := Lib.hid h
  have H2 := Lib.hid h2
  have Hl := Lib.hid hl
  have Hr := Lib.hid hr
  clear h h2 hl hr
  go_enter Try.func28, Try.ntmps28
  go_wp2_with fail
  go_loopw [5] (fun i wr => ∃ k : Nat, k ≤ n ∧ i = .int .i64 k ∧ Below w.heap.size w wr ∧ Hid (l.take k = r.take k)) (fun i _ => n - (intOf i).toNat)
  case atStart => exact ⟨0, Nat.zero_le _, rfl, Below.refl _ _, Lib.hid rfl⟩
  case round =>
    obtain ⟨k, hk, rfl, hb, he⟩ := hrel
    by_cases hlt : k < n
    · obtain ⟨ad, hk1, rfl, hc⟩ := (H.out.below hb).get hlt
      obtain ⟨bd, hk2, rfl, hd⟩ := (H2.out.below hb).get hlt
      obtain ⟨x, hx⟩ : ∃ x, l[k] = x := ⟨_, rfl⟩
      obtain ⟨y, hy⟩ : ∃ y, r[k] = y := ⟨_, rfl⟩
      have hst := take_eq_step hk1 hk2 he.out
      rw [hx, hy] at hst
      rw [hx] at hc
      rw [hy] at hd
      have Hst := Lib.hid hst
      have Hb := Lib.hid hb
      clear hx hy hst hb hk1 hk2
      by_cases hxy : x = y
      · subst hxy
        have Hn := Lib.hid (Hst.out.2 rfl)
        go_wp2_with fail
        go_quiet (fail)
        go_wp2
        exact ⟨⟨k + 1, by omega, by go_num, bl_drewN Hb.out _, Lib.hid Hn.out⟩, by simp [intOf]; omega⟩
      · have hq2 : (x == y) = false := by rw [beq_eq_false_iff_ne]; exact hxy
        have hq : ((⟨x.toArray⟩ : ByteArray).toList == (⟨y.toArray⟩ : ByteArray).toList) = false := by
          rw [beq_eq_false_iff_ne, ByteArray.toList_eq, ByteArray.toList_eq]; simpa using hxy
        have Hd := Lib.hid (show decide (l = r) = false from decide_eq_false fun e => hxy (Hst.out.1 (by rw [e])))
        go_wp2_with fail
        go_quiet (fail)
        go_wp2
        go_ret
        exact ⟨by rw [Hd.out]; rfl, bl_drewN Hb.out _⟩
    · have hkn : k = n := by omega
      subst hkn
      have Hd := Lib.hid (show decide (l = r) = true from decide_eq_true (by
        have := he.out
        rw [List.take_of_length_le (by rw [Hl.out]; omega), List.take_of_length_le (by rw [Hr.out]; omega)] at this
        exact this))
      go_wp2_with fail
      go_ret
      exact ⟨by rw [Hd.out]; rfl, hb⟩
theorem encs_one (l : List (List UInt8)) : ∀ u ∈ l.map encStr, u.oneCell' = true := by
  intro u hu
  obtain ⟨x, _, rfl⟩ := List.mem_map.1 hu
  rfl
end Go.Proofs.Ytkbgedaogfcdnaa
