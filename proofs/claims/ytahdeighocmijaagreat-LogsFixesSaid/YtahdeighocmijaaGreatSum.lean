/- The walk of crcs.Sum: the sum of a row of bytes. -/
import Derived.Test.YtahdeighocmijaaGreatProg
import Derived.Test.YtahdeighocmijaaGreatMem
namespace Go.Proofs.YtahdeighocmijaaGreat
set_option linter.unusedSimpArgs false
set_option linter.unusedVariables false
open Go.RowKit
open Crc (Bytes)

def sumTo (l : List Int) (k : Nat) : Int := ((Crc.crcN Crc.ones (l.take k) : Nat) : Int)
def sumIn (l : List Int) (k j : Nat) : Int := ((Crc.steps j (Crc.crcN Crc.ones (l.take k) ^^^ (ix l k).toNat) : Nat) : Int)

theorem take_lt {l : List Int} (hb : Bytes l) (k : Nat) : Crc.crcN Crc.ones (l.take k) < 2 ^ 32 := Crc.crcN_lt _ Crc.ones_lt fun x hx => hb x (List.mem_of_mem_take hx)
theorem in_lt {l : List Int} (hb : Bytes l) {k : Nat} (hk : k < l.length) : Crc.crcN Crc.ones (l.take k) ^^^ (ix l k).toNat < 2 ^ 32 := by
  refine Nat.xor_lt_two_pow (take_lt hb k) ?_
  have : ix l k = l[k] := ix_get hk
  rw [this]
  exact Crc.byte_nat32 (hb _ (List.getElem_mem _))
theorem steps_snoc (n : Nat) : ∀ c, Crc.steps (n + 1) c = Crc.step (Crc.steps n c) := by
  induction n with
  | zero => intro c; rfl
  | succ n ih => intro c; rw [Crc.steps, ih, Crc.steps]
theorem sum_start {l : List Int} (hb : Bytes l) {k : Nat} (hk : k < l.length) : Go.bits .xor .u32 (sumTo l k) (ix l k) = sumIn l k 0 := by
  have hx := hb l[k] (List.getElem_mem _)
  have hg : ix l k = l[k] := ix_get hk
  have := Crc.bits_xor32 (Crc.crcN Crc.ones (l.take k)) (l[k].toNat) (take_lt hb k) (Crc.byte_nat32 hx)
  unfold sumTo sumIn
  rw [hg]
  rw [show ((l[k].toNat : Nat) : Int) = l[k] from Int.toNat_of_nonneg hx.1] at this
  exact this
theorem sum_odd {l : List Int} (hb : Bytes l) {k j : Nat} (hk : k < l.length) (h : Go.bits .and .u32 (sumIn l k j) 1 = 1) : Go.bits .xor .u32 (sumIn l k j / 2) 3988292384 = sumIn l k (j + 1) := by
  have hlt := Crc.steps_lt j (in_lt hb hk)
  unfold sumIn at h ⊢
  rw [steps_snoc]
  generalize Crc.steps j (Crc.crcN Crc.ones (l.take k) ^^^ (ix l k).toNat) = c at *
  rw [Crc.bits_and32 c hlt] at h
  have := Crc.bits_xor32 (c / 2) Crc.poly (by omega) Crc.poly_lt
  rw [show ((Crc.poly : Nat) : Int) = 3988292384 from rfl, show ((c / 2 : Nat) : Int) = (c : Int) / 2 from by omega] at this
  rw [this]
  unfold Crc.step
  rw [if_pos (by omega)]
theorem sum_even {l : List Int} (hb : Bytes l) {k j : Nat} (hk : k < l.length) (h : ¬ Go.bits .and .u32 (sumIn l k j) 1 = 1) : sumIn l k j / 2 = sumIn l k (j + 1) := by
  have hlt := Crc.steps_lt j (in_lt hb hk)
  unfold sumIn at h ⊢
  rw [steps_snoc]
  generalize Crc.steps j (Crc.crcN Crc.ones (l.take k) ^^^ (ix l k).toNat) = c at *
  rw [Crc.bits_and32 c hlt] at h
  unfold Crc.step
  rw [if_neg (by omega)]
  omega
theorem sum_next {l : List Int} {k : Nat} (hk : k < l.length) : sumIn l k 8 = sumTo l (k + 1) := by
  unfold sumIn sumTo
  rw [List.take_succ_eq_append_getElem hk, Crc.crcN_append, Crc.crcN_cons]
  have : ix l k = l[k] := ix_get hk
  rw [this]; rfl
theorem sum_end {l : List Int} (hb : Bytes l) : Go.bits .xor .u32 (sumTo l l.length) 4294967295 = Crc.sum l := by
  unfold sumTo Crc.sum
  rw [List.take_length]
  exact Crc.bits_xor32 _ _ (Crc.crcN_lt l Crc.ones_lt hb) Crc.ones_lt
theorem sumTo_zero (l : List Int) : sumTo l 0 = 4294967295 := rfl

set_option maxHeartbeats 1000000 in
theorem sum_any (A : Option Addr) (n c : Nat) (l : List Int) (w : World) (hr : Bs w A n l) :
    Calls Tryz.prog 78 #[.slice A n c] w fun e w' => e = .returned (.int .u32 (Crc.sum l)) ∧ w = w' := by
  obtain rfl : l.length = n := hr.len
  have hn := hr.le
  go_enter Tryz.func78, Tryz.ntmps78
  go_wp2
  go_loop [3, 9] (fun v i => ∃ k : Nat, k ≤ l.length ∧ i = .int .i64 k ∧ v = .int .u32 (sumTo l k)) (fun _ i => l.length - (intOf i).toNat)
  case atStart => exact ⟨0, Nat.zero_le _, rfl, rfl⟩
  case round =>
    obtain ⟨k, hk, rfl, rfl⟩ := hrel
    by_cases hlt : k < l.length
    · obtain ⟨ad, rfl, hc, h1, h2⟩ := hr.get hlt
      have hs := Lib.hid (sum_start hr.by_ hlt)
      go_wp2
      go_loop [3, 17] (fun v i => ∃ j : Nat, j ≤ 8 ∧ i = .int .i64 j ∧ v = .int .u32 (sumIn l k j)) (fun _ i => 8 - (intOf i).toNat)
      case atStart => exact ⟨0, by omega, rfl, by rw [hs.out]⟩
      case round =>
        clear hs
        obtain ⟨j, hj, rfl, rfl⟩ := hrel
        by_cases hj8 : j < 8
        · by_cases ho : Go.bits .and .u32 (sumIn l k j) 1 = 1
          · have he := Lib.hid (sum_odd hr.by_ hlt ho)
            have hb : (Go.bits .and .u32 (sumIn l k j) 1 == 1) = true := beq_iff_eq.2 ho
            clear ho
            go_wp2
            go_round
            case rel => exact ⟨j + 1, by omega, by go_num, by rw [he.out]⟩
            case measure => simp [intOf]; omega
          · have he := Lib.hid (sum_even hr.by_ hlt ho)
            have hb : (Go.bits .and .u32 (sumIn l k j) 1 == 1) = false := beq_eq_false_iff_ne.2 ho
            clear ho
            go_wp2
            go_round
            case rel => exact ⟨j + 1, by omega, by go_num, by rw [he.out]⟩
            case measure => simp [intOf]; omega
        · obtain rfl : j = 8 := by omega
          have he := Lib.hid (sum_next hlt)
          go_wp2
          go_round
          case rel => exact ⟨k + 1, by omega, by go_num, by rw [he.out]⟩
          case measure => simp [intOf]; omega
    · have he := Lib.hid (sum_end hr.by_)
      have hkl := Lib.hid (show k = l.length by omega)
      go_wp2
      go_ret
      exact ⟨by rw [hkl.out, he.out]; rfl, rfl⟩
theorem sum_eq (A : Option Addr) (n c : Nat) (l : List Int) (r : Int) (w : World) (h : Crc.sum l = r) (hr : Bs w A n l) :
    Calls Tryz.prog 78 #[.slice A n c] w fun e w' => e = .returned (.int .u32 r) ∧ w = w' := by
  subst h; exact sum_any A n c l w hr
end Go.Proofs.YtahdeighocmijaaGreat
