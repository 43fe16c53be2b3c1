/- The walk of the reference's sum. -/
import Derived.Test.YtahdeighocmijaaDoorSum
namespace Go.Proofs.YtahdeighocmijaaDoor
set_option linter.unusedSimpArgs false
set_option linter.unusedVariables false
open Go.RowKit
open Crc (Bytes)
set_option maxHeartbeats 1000000 in
theorem rsum_any (A : Option Addr) (n c : Nat) (l : List Int) (w : World) (hr : Bs w A n l) :
    Calls Tryd.prog 44 #[.slice A n c] w fun e w' => e = .returned (.int .u32 (Crc.sum l)) ∧ w = w' := by
  obtain rfl : l.length = n := hr.len
  have hn := hr.le
  go_enter Tryd.func44, Tryd.ntmps44
  go_wp2
  go_loop [3, 4] (fun v i => ∃ k : Nat, k ≤ l.length ∧ i = .int .i64 k ∧ v = .int .u32 (sumTo l k)) (fun _ i => l.length - (intOf i).toNat)
  case atStart => exact ⟨0, Nat.zero_le _, rfl, rfl⟩
  case round =>
    obtain ⟨k, hk, rfl, rfl⟩ := hrel
    by_cases hlt : k < l.length
    · obtain ⟨ad, rfl, hc, h1, h2⟩ := hr.get hlt
      have hs := Lib.hid (sum_start hr.by_ hlt)
      go_wp2
      go_loop [3, 5] (fun v i => ∃ j : Nat, j ≤ 8 ∧ i = .int .i64 j ∧ v = .int .u32 (sumIn l k j)) (fun _ i => 8 - (intOf i).toNat)
      case atStart => exact ⟨0, by omega, rfl, by rw [hs.out]⟩
      case round =>
        clear hs
        obtain ⟨j, hj, rfl, rfl⟩ := hrel
        by_cases hj8 : j < 8
        · by_cases ho : Go.bits .and .u32 (sumIn l k j) 1 = 1
          · have he := Lib.hid (sum_odd hr.by_ hlt ho)
            have hb : (Go.bits .and .u32 (sumIn l k j) 1 == 1) = true := beq_iff_eq.2 ho
            clear ho
            go_wp2
            go_round
            case rel => exact ⟨j + 1, by omega, by go_num, by rw [he.out]⟩
            case measure => simp [intOf]; omega
          · have he := Lib.hid (sum_even hr.by_ hlt ho)
            have hb : (Go.bits .and .u32 (sumIn l k j) 1 == 1) = false := beq_eq_false_iff_ne.2 ho
            clear ho
            go_wp2
            go_round
            case rel => exact ⟨j + 1, by omega, by go_num, by rw [he.out]⟩
            case measure => simp [intOf]; omega
        · obtain rfl : j = 8 := by omega
          have he := Lib.hid (sum_next hlt)
          go_wp2
          go_round
          case rel => exact ⟨k + 1, by omega, by go_num, by rw [he.out]⟩
          case measure => simp [intOf]; omega
    · have he := Lib.hid (sum_end hr.by_)
      have hkl := Lib.hid (show k = l.length by omega)
      go_wp2
      go_ret
      exact ⟨by rw [hkl.out, he.out]; rfl, rfl⟩
theorem rsum_eq (A : Option Addr) (n c : Nat) (l : List Int) (r : Int) (w : World) (h : Crc.sum l = r) (hr : Bs w A n l) :
    Calls Tryd.prog 44 #[.slice A n c] w fun e w' => e = .returned (.int .u32 r) ∧ w = w' := by
  subst h; exact rsum_any A n c l w hr
end Go.Proofs.YtahdeighocmijaaDoor
