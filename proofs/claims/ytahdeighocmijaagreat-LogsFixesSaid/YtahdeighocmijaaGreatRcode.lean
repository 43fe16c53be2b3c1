/- The walks of the reference's numbers and bytes. -/
import Derived.Test.YtahdeighocmijaaGreatCode
namespace Go.Proofs.YtahdeighocmijaaGreat
set_option linter.unusedSimpArgs false
set_option linter.unusedVariables false
open Go.RowKit
open Crc (Bytes)
open Cod (six held dig far)
set_option maxHeartbeats 1000000 in
theorem qnumw_any (A : Option Addr) (n c : Nat) (l : List Int) (x : Int) (w : World) (h : Bs w A n l) (hn : n ≤ 140737488355000) : Calls Tryz.prog 23 #[.slice A n c, .int .i64 x] w (Gives w (l ++ six x)) := by
  obtain rfl := h.len
  have H := Lib.hid h
  obtain ⟨x1, hx1⟩ : ∃ x1, (if x < 0 then (0 : Int) else x) = x1 := ⟨_, rfl⟩
  have hx : (if 1099511627776 < x1 then (1099511627776 : Int) else x1) = held x := by
    rw [← hx1]; unfold held far; split <;> split <;> omega
  have hd := Cod.held_bd x
  clear h
  obtain ⟨m, hm⟩ : ∃ m, m = held x := ⟨_, rfl⟩
  rw [← hm] at hx hd
  have Hm := Lib.hid hm
  clear hm
  obtain ⟨hd0, hd1⟩ := hd
  go_enter Tryz.func23, Tryz.ntmps23
  have hle := H.out.le
  go_wp2_with (first
    | (at_builtin
       refine wpList_app rfl (.tmp 7) (.tmp 8) 23 rfl Tryz.underlying23 u8i rfl (by decide) rfl (Own.lit w [] 5 1 0 (Nat.le_refl _) rfl (by decide)) rfl (H.out.alloc _).rd (ints_one _ _) (by omega) (by omega) (by simp) (Nat.zero_add l.length) (List.nil_append _) ?_
       intro B bc w1 hown hg1 hx2
       have hbel : Below w.heap.size w w1 := ((Below.refl _ _).alloc (Nat.le_refl _) _).grown hg1 (by simp) (by intro k hk; simp [ob] at hk; omega)
       have hroom : Room w1 w.heap.size 5 1 B l.length bc (ints .u8 l) := .own hown
       have hnone : B = none → l = [] := fun hB => by subst hB; exact own_none hown
       clear hown hg1 hx2))
  have hrel0 : NumRel w l x 6 B bc w1 := ⟨by simpa using hroom, fun h => by omega, fun hB => ⟨rfl, hnone hB⟩, hbel⟩
  clear hroom hbel hx hx1 hnone
  go_loopw [5, 6] (fun v k wr => ∃ (j : Nat) (C : Option Addr) (cc : Nat), j ≤ 6 ∧ k = .int .i64 ((j : Int) - 1) ∧ v = .slice C (l.length + (6 - j)) cc ∧ NumRel w l x j C cc wr) (fun _ k _ => ((intOf k) + 1).toNat)
  case atStart => exact ⟨6, B, bc, Nat.le_refl _, rfl, rfl, hrel0⟩
  case round =>
    obtain ⟨j, C, cc, hj, rfl, rfl, hr⟩ := hrel
    clear hrel0
    have Hr := Lib.hid hr
    clear hr
    rcases j with _ | j
    · go_wp2_with fail
      go_ret
      obtain ⟨_, ho, hC, hbe⟩ := Hr.out
      have e6 : (six x).take (6 - 0) = six x := rfl
      have e7 : (l ++ six x).length = l.length + 6 := by simp [six]
      have ho := ho (by omega)
      rw [e6] at ho
      exact ⟨C, l.length + 6, cc, rfl, e7, ho, fun hCC => absurd (hC hCC).1 (by omega), hbe⟩
    · have h8 : j < 6 := by omega
      obtain ⟨hro, _, _, hbe⟩ := Hr.out
      have Hro := Lib.hid hro
      have hsz := hbe.size
      have Hbe := Lib.hid hbe
      have hlen : (l ++ (six x).take (6 - (j + 1))).length = l.length + (6 - (j + 1)) := by simp [six]; omega
      have hnews : Rd (wr.alloc (.cells #[.int .u8 (m / 2 ^ (8 * j) % 256)] 5)) 1 (some ⟨wr.heap.size, 0, none⟩) 1 (ints .u8 [dig x j]) := by
        have := Rd.lit wr #[.int .u8 (m / 2 ^ (8 * j) % 256)] 5 (0, 0) 1 1 rfl
        have e : ints .u8 [dig x j] = #[Value.int .u8 (m / 2 ^ (8 * j) % 256)].toList := by rw [Hm.out]; rfl
        rwa [e]
      have hzz : ints .u8 (l ++ (six x).take (6 - (j + 1))) ++ ints .u8 [dig x j] = ints .u8 (l ++ (six x).take (6 - j)) := by
        rw [← Cod.six_take x j h8]; simp [ints]
      have Hnews := Lib.hid hnews
      have Hzz := Lib.hid hzz
      clear hro hbe hlen hnews hzz
      go_wp2_with (first
        | (at_builtin
           refine wpList_room rfl (.tmp 17) (.tmp 24) 23 rfl Tryz.underlying23 u8i rfl (by decide) rfl (room_alloc Hro.out _) rfl Hnews.out (ints_one _ _) (by omega) (by omega) (by omega) (by simp; omega) (show l.length + (6 - (j + 1)) + 1 = l.length + (6 - j) by omega) Hzz.out ?_
           intro D dc w3 hown3 hbel3))
      refine ⟨⟨j, D, dc, by omega, rfl, rfl, .own hown3, fun _ => hown3, fun hD => ?_, (Hbe.out.alloc hsz _).trans hbel3⟩, by simp [intOf]⟩
      subst hD
      obtain ⟨g, hg, _⟩ := hown3.some (show 0 < l.length + (6 - j) by omega)
      cases hg

set_option maxHeartbeats 400000 in
theorem qbytesw_any (A B : Option Addr) (n m c d : Nat) (l r : List Int) (w : World) (h : Bs w A n l) (hr : Bs w B m r) (hn : n + m ≤ 140737488354000) :
    Calls Tryz.prog 20 #[.slice A n c, .slice B m d] w (Gives w (l ++ six r.length ++ r)) := by
  have H := Lib.hid h
  have HR := Lib.hid hr
  have hm := Lib.hid (show r.length = m from hr.len)
  clear h hr
  go_enter Tryz.func20, Tryz.ntmps20
  go_wp2_with fail
  rw [← hm.out]
  refine (qnumw_any A n c l r.length _ H.out (by omega)).mono ?_
  rintro e w1 ⟨C, N, cc, rfl, hN, hown, hnone, hbel⟩
  rw [hm.out]
  have hN1 : N ≤ n + 6 := by have := hN.out; rw [List.length_append, H.out.len] at this; simp [six] at this; omega
  have hN2 : 6 ≤ N := by have := hN.out; rw [List.length_append, H.out.len] at this; simp [six] at this; omega
  have HR1 := Lib.hid (HR.out.below hbel)
  have hsz := hbel.size
  go_wp2_with (first
    | (at_builtin
       refine wpList_app rfl (.tmp 8) (.tmp 9) 23 rfl Tryz.underlying23 u8i rfl (by decide) rfl hown rfl HR1.out.rd (ints_one _ _) (by omega) (by omega) hsz rfl (show ints .u8 (l ++ six (r.length : Int)) ++ ints .u8 r = ints .u8 (l ++ six (r.length : Int) ++ r) by simp [ints]) ?_
       intro X xc w2 hx1 hg1 hx2))
  go_ret
  refine ⟨X, N + m, xc, rfl, ?_, hx1, fun hX => ?_, hbel.grown hg1 hsz (fun k hk => (hown.blk k hk).1)⟩
  · show _ = _
    rw [List.length_append, hN.out, hm.out]
  · subst hX
    obtain ⟨g, hg, _⟩ := hx1.some (show 0 < N + m by omega)
    cases hg
end Go.Proofs.YtahdeighocmijaaGreat
