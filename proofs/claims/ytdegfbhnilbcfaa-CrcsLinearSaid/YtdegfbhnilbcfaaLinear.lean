/- The walk of CrcsLinear. -/
import Derived.Test.YtdegfbhnilbcfaaCrcs
import Derived.Test.YtdegfbhnilbcfaaOpen
namespace Go.Proofs.Ytdegfbhnilbcfaa
set_option linter.unusedSimpArgs false
set_option linter.unusedVariables false
open Go.RowKit
open Crc (Bytes)

open Crc (xorB)
def laid (a b c : List Int) (n : Nat) : List Int := List.zipWith xorB (List.zipWith xorB (a.take n) (b.take n)) (c.take n)
def rowTo (a b c : List Int) (n k : Nat) : List Int := (laid a b c n).take k ++ List.replicate (n - k) 0
theorem bytes_take {l : List Int} (n : Nat) (h : Bytes l) : Bytes (l.take n) := fun x hx => h x (List.mem_of_mem_take hx)
theorem bytes_laid {a b c : List Int} {n : Nat} (ha : Bytes a) (hb : Bytes b) (hc : Bytes c) : Bytes (laid a b c n) := by
  intro x hx
  obtain ⟨i, hi, rfl⟩ := List.getElem_of_mem hx
  simp only [laid, List.getElem_zipWith]
  exact Crc.xorB_byte (Crc.xorB_byte (bytes_take n ha _ (List.getElem_mem _)) (bytes_take n hb _ (List.getElem_mem _))) (bytes_take n hc _ (List.getElem_mem _))
theorem laid_len {a b c : List Int} {n : Nat} (ha : n ≤ a.length) (hb : n ≤ b.length) (hc : n ≤ c.length) : (laid a b c n).length = n := by simp [laid]; omega
theorem rowTo_len {a b c : List Int} {n k : Nat} (ha : n ≤ a.length) (hb : n ≤ b.length) (hc : n ≤ c.length) (hk : k ≤ n) : (rowTo a b c n k).length = n := by
  have := laid_len ha hb hc
  simp [rowTo]; omega
theorem rowTo_set {a b c : List Int} {n k : Nat} (ba : Bytes a) (bb : Bytes b) (bc : Bytes c) (ha : n ≤ a.length) (hb : n ≤ b.length) (hc : n ≤ c.length) (hk : k < n) :
    (rowTo a b c n k).set k (Go.bits .xor .u8 (Go.bits .xor .u8 (ix a k) (ix b k)) (ix c k)) = rowTo a b c n (k + 1) := by
  have hl := laid_len ha hb hc
  have e : Go.bits .xor .u8 (Go.bits .xor .u8 (ix a k) (ix b k)) (ix c k) = (laid a b c n)[k]'(by omega) := by
    rw [ix_get (show k < a.length by omega), ix_get (show k < b.length by omega), ix_get (show k < c.length by omega)]
    have b0 := ba (a[k]'(by omega)) (List.getElem_mem _)
    have b1 := bb (b[k]'(by omega)) (List.getElem_mem _)
    have b2 := bc (c[k]'(by omega)) (List.getElem_mem _)
    rw [Crc.bits_xor8 _ _ b0 b1, Crc.bits_xor8 _ _ (Crc.xorB_byte b0 b1) b2]
    simp [laid]
  rw [e]
  unfold rowTo
  apply List.ext_getElem?
  intro j
  rw [List.getElem?_set]
  have h1 : ((laid a b c n).take k).length = k := by rw [List.length_take]; omega
  have h2 : ((laid a b c n).take (k + 1)).length = k + 1 := by rw [List.length_take]; omega
  by_cases hj : k = j
  · subst hj
    rw [if_pos rfl, List.getElem?_append_left (by omega), List.getElem?_take_of_lt (by omega), if_pos (by simp; omega), List.getElem?_eq_getElem (by omega)]
  · rw [if_neg hj]
    by_cases hjk : j < k
    · rw [List.getElem?_append_left (by omega), List.getElem?_append_left (by omega), List.getElem?_take_of_lt hjk, List.getElem?_take_of_lt (by omega)]
    · rw [List.getElem?_append_right (by omega), List.getElem?_append_right (by omega), h1, h2, List.getElem?_replicate, List.getElem?_replicate]
      by_cases hjn : j < n
      · rw [if_pos (by omega), if_pos (by omega)]
      · rw [if_neg (by omega), if_neg (by omega)]

theorem linear_sum {a b c : List Int} {n : Nat} (ba : Bytes a) (bb : Bytes b) (bc : Bytes c) (ha : n ≤ a.length) (hb : n ≤ b.length) (hc : n ≤ c.length) :
    Crc.sum (laid a b c n) = Go.bits .xor .u32 (Go.bits .xor .u32 (Crc.sum (a.take n)) (Crc.sum (b.take n))) (Crc.sum (c.take n)) := by
  have lt : ∀ l, Bytes l → (Crc.crcN Crc.ones l ^^^ Crc.ones) < 2 ^ 32 := fun l h => Nat.xor_lt_two_pow (Crc.crcN_lt l Crc.ones_lt h) Crc.ones_lt
  have hs := Crc.sum_xor3 (a.take n) (b.take n) (c.take n) (by simp; omega) (by simp; omega)
  rw [show laid a b c n = List.zipWith xorB (List.zipWith xorB (a.take n) (b.take n)) (c.take n) from rfl, hs]
  unfold Crc.sum
  rw [Crc.bits_xor32 _ _ (lt _ (bytes_take n ba)) (lt _ (bytes_take n bb)), Crc.bits_xor32 _ _ (Nat.xor_lt_two_pow (lt _ (bytes_take n ba)) (lt _ (bytes_take n bb))) (lt _ (bytes_take n bc))]
  simp only [Int.toNat_natCast]
theorem u8info : (Try.prog.info? 5).map (fun i => (i.zero, i.size, i.bytes)) = some (some (.int .u8 0), 1, 1) := by kernel_rfl
set_option maxHeartbeats 1000000 in
theorem linear_any (A B C : Option Addr) (n1 n2 n3 c1 c2 c3 : Nat) (a b c : List Int) (w : World) (ha : Bs w A n1 a) (hb : Bs w B n2 b) (hc : Bs w C n3 c) (k1 : n1 ≤ c1) (k2 : n2 ≤ c2) (k3 : n3 ≤ c3) :
    Calls Try.prog 4 #[.slice A n1 c1, .slice B n2 c2, .slice C n3 c3] w fun e w' => e = .returned (.bool true) ∧ Below w.heap.size w w' := by
  obtain ⟨n, hn, a0, a1, a2, a3⟩ : ∃ n : Nat, min (n1 : Int) (min (n2 : Int) (min (n3 : Int) 200)) = (n : Int) ∧ n ≤ 200 ∧ n ≤ n1 ∧ n ≤ n2 ∧ n ≤ n3 := ⟨min (min (min n1 n2) n3) 200, by omega, by omega, by omega, by omega, by omega⟩
  have l1 := ha.le
  have l2 := hb.le
  have l3 := hc.le
  have hmk := make_ints (P := Try.prog) (kn := .i64) Try.underlying26 u8info n (by omega) (by omega)
  have hz : List.replicate n (0 : Int) = rowTo a b c n 0 := by simp [rowTo]
  rw [hz] at hmk
  clear hz
  have Ha := Lib.hid ha
  have Hb := Lib.hid hb
  have Hc := Lib.hid hc
  clear ha hb hc
  go_enter Try.func4, Try.ntmps4
  go_wp2_with fail
  clear hmk
  go_loopw [9, 21] (fun j i wr => ∃ k : Nat, k ≤ n ∧ i = .int .i64 k ∧ Blk wr w.heap.size 5 (ints .u8 (rowTo a b c n k)) ∧ Below w.heap.size w wr) (fun _ i _ => n - (intOf i).toNat)
  case atStart => exact ⟨0, Nat.zero_le _, rfl, Blk.new _ _ _, by (repeat (first | assumption | exact Below.refl _ _ | (with_reducible apply Below.drew) | (with_reducible apply bl_drewN) | (with_reducible apply bl_alloc) | (with_reducible refine bl_then ?_ (by assumption))))⟩
  case round =>
    obtain ⟨k, hk, rfl, hbk, hbel⟩ := hrel
    by_cases hlt : k < n
    · obtain ⟨ad1, rfl, e1, p1, q1⟩ := (Ha.out.below hbel).get (show k < n1 by omega)
      obtain ⟨ad2, rfl, e2, p2, q2⟩ := (Hb.out.below hbel).get (show k < n2 by omega)
      obtain ⟨ad3, rfl, e3, p3, q3⟩ := (Hc.out.below hbel).get (show k < n3 by omega)
      have f1 := hbk.frozen k
      have f2 : ∃ u, wr.cell? ⟨w.heap.size, k, none⟩ = some u := by
        rw [hbk.cell k, ints_get .u8 _ (by rw [rowTo_len (by rw [Ha.out.len]; omega) (by rw [Hb.out.len]; omega) (by rw [Hc.out.len]; omega) hk]; omega)]
        exact ⟨_, rfl⟩
      obtain ⟨u, f2⟩ := f2
      have Hbk := Lib.hid hbk
      have Hbel := Lib.hid hbel
      clear hbk hbel
      go_wp2_with fail
      go_region
      go_wp2
      go_roundw
      case rel =>
        refine ⟨k + 1, by omega, by go_num, ?_, (Hbel.out.setCell (Nat.le_refl _) _).drew⟩
        have e := rowTo_set Ha.out.by_ Hb.out.by_ Hc.out.by_ (by rw [Ha.out.len]; omega) (by rw [Hb.out.len]; omega) (by rw [Hc.out.len]; omega) hlt
        rw [← e]
        have := (Hbk.out.set_ k (.int .u8 (Go.bits .xor .u8 (Go.bits .xor .u8 (ix a k) (ix b k)) (ix c k)))).drew
        simpa [ints, List.map_set] using this
      case measure => simp [intOf]; omega
    · have hkn : k = n := by omega
      have hA := Ha.out.below hbel
      have hB := Hb.out.below hbel
      have hC := Hc.out.below hbel
      have la := hA.len
      have lb := hB.len
      have lc := hC.len
      have hX : Bs wr (some ⟨w.heap.size, 0, none⟩) n (laid a b c n) := by
        have hl := laid_len (n := n) (show n ≤ a.length by omega) (show n ≤ b.length by omega) (show n ≤ c.length by omega)
        have e : rowTo a b c n k = laid a b c n := by rw [hkn]; unfold rowTo; rw [List.take_of_length_le (by omega)]; simp
        rw [e] at hbk
        have := hbk.bs (bytes_laid hA.by_ hB.by_ hC.by_) (by omega)
        rwa [hl] at this
      have hA' := hA.take a1
      have hB' := hB.take a2
      have hC' := hC.take a3
      obtain ⟨s0, e0⟩ : ∃ r, Crc.sum (laid a b c n) = r := ⟨_, rfl⟩
      obtain ⟨s1, e1⟩ : ∃ r, Crc.sum (a.take n) = r := ⟨_, rfl⟩
      obtain ⟨s2, e2⟩ : ∃ r, Crc.sum (b.take n) = r := ⟨_, rfl⟩
      obtain ⟨s3, e3⟩ : ∃ r, Crc.sum (c.take n) = r := ⟨_, rfl⟩
      have hx : (s0 == Go.bits .xor .u32 (Go.bits .xor .u32 s1 s2) s3) = true := by
        rw [beq_iff_eq, ← e0, ← e1, ← e2, ← e3]
        exact linear_sum hA.by_ hB.by_ hC.by_ (by omega) (by omega) (by omega)
      have E0 := Lib.hid e0
      have E1 := Lib.hid e1
      have E2 := Lib.hid e2
      have E3 := Lib.hid e3
      have Hbel := Lib.hid hbel
      have HA := Lib.hid hA'
      have HB := Lib.hid hB'
      have HC := Lib.hid hC'
      have HX := Lib.hid hX
      clear e0 e1 e2 e3 hA hB hC hA' hB' hC' hX hbk hbel hkn la lb lc Ha Hb Hc
      go_wp2_with fail
      have b0 : (0 : Int) ≤ (n : Int) := by omega
      have b1 : (n : Int) ≤ (c1 : Int) := by omega
      have b2 : (n : Int) ≤ (c2 : Int) := by omega
      have b3 : (n : Int) ≤ (c3 : Int) := by omega
      go_region_held3 (fun w' => Below wr.heap.size wr w') ((repeat (first | assumption | exact Below.refl _ _ | (with_reducible apply Below.drew) | (with_reducible apply bl_drewN) | (with_reducible apply bl_alloc) | (with_reducible refine bl_then ?_ (by assumption)))))
        (first
         | (go_at_call 9; first
            | (with_reducible refine (sum_eq (some ⟨w.heap.size, 0, none⟩) n n (laid a b c n) s0 _ E0.out (HX.out.below (by (repeat (first | assumption | exact Below.refl _ _ | (with_reducible apply Below.drew) | (with_reducible apply bl_drewN) | (with_reducible apply bl_alloc) | (with_reducible refine bl_then ?_ (by assumption))))))).mono ?_; rintro e w' ⟨rfl, rfl⟩)
            | (with_reducible refine (sum_eq A n c1 (a.take n) s1 _ E1.out (HA.out.below (by (repeat (first | assumption | exact Below.refl _ _ | (with_reducible apply Below.drew) | (with_reducible apply bl_drewN) | (with_reducible apply bl_alloc) | (with_reducible refine bl_then ?_ (by assumption))))))).mono ?_; rintro e w' ⟨rfl, rfl⟩)
            | (with_reducible refine (sum_eq B n c2 (b.take n) s2 _ E2.out (HB.out.below (by (repeat (first | assumption | exact Below.refl _ _ | (with_reducible apply Below.drew) | (with_reducible apply bl_drewN) | (with_reducible apply bl_alloc) | (with_reducible refine bl_then ?_ (by assumption))))))).mono ?_; rintro e w' ⟨rfl, rfl⟩)
            | (with_reducible refine (sum_eq C n c3 (c.take n) s3 _ E3.out (HC.out.below (by (repeat (first | assumption | exact Below.refl _ _ | (with_reducible apply Below.drew) | (with_reducible apply bl_drewN) | (with_reducible apply bl_alloc) | (with_reducible refine bl_then ?_ (by assumption))))))).mono ?_; rintro e w' ⟨rfl, rfl⟩))
         | (go_at_call 10; refine (awake1_any _).mono ?_; rintro e w' ⟨rfl, hb⟩))
      have hh := Hbel.out
      go_wp2
      go_ret
      exact ⟨rfl, by (repeat (first | assumption | exact Below.refl _ _ | (with_reducible apply Below.drew) | (with_reducible apply bl_drewN) | (with_reducible apply bl_alloc) | (with_reducible refine bl_then ?_ (by assumption))))⟩

theorem linear_row {A B C : Option Addr} {n1 n2 n3 c1 c2 c3 : Nat} {a b c : List Int} {w : World} (ha : Came .u8 w A n1 c1 a) (ya : n1 * 1 ≤ 140737488351232) (hb : Came .u8 w B n2 c2 b) (yb : n2 * 1 ≤ 140737488351232)
    (hc : Came .u8 w C n3 c3 c) (yc : n3 * 1 ≤ 140737488351232) (W : World) (hW : W = w) :
    Calls Try.prog 4 #[.slice A n1 c1, .slice B n2 c2, .slice C n3 c3] W fun e w' => e = .returned (.bool true) ∧ Below W.heap.size W w' := by
  subst hW
  exact linear_any A B C n1 n2 n3 c1 c2 c3 a b c W (came_bytes ha ya) (came_bytes hb yb) (came_bytes hc yc) ha.le hb.le hc.le
end Go.Proofs.Ytdegfbhnilbcfaa
