/- The walk of CrcsTells. -/
import Derived.Test.YtdegfbhnilbcfaaCrcs
import Derived.Test.YtdegfbhnilbcfaaRsum
import Derived.Test.YtdegfbhnilbcfaaApp
import Derived.Test.YtdegfbhnilbcfaaOpen
namespace Go.Proofs.Ytdegfbhnilbcfaa
set_option linter.unusedSimpArgs false
set_option linter.unusedVariables false
open Go.RowKit
open Crc (Bytes xorB)

theorem u8infoT : (Try.prog.info? 5).map (fun i => (i.zero, i.size, i.bytes)) = some (some (.int .u8 0), 1, 1) := by kernel_rfl

/-- What is laid on b: p noughts, t, noughts. -/
def turnRow (n p : Nat) (t : List Int) : List Int := List.replicate p 0 ++ (t ++ List.replicate (n - p - t.length) 0)
def turned (b : List Int) (p : Nat) (t : List Int) : List Int := List.zipWith xorB b (turnRow b.length p t)
def tb (turn : Int) (j : Nat) : Int := (turn / 2 ^ (8 * j)) % 256
def tbs (turn : Int) (i : Nat) : List Int := (List.range i).map (tb turn)

theorem xorB_zero {x : Int} (h : 0 ≤ x ∧ x ≤ 255) : xorB x 0 = x := by
  unfold xorB; simp; omega
theorem xorB_xorB {x y : Int} (hx : 0 ≤ x ∧ x ≤ 255) (hy : 0 ≤ y ∧ y ≤ 255) : xorB x (xorB x y) = y := by
  have : x.toNat ^^^ (x.toNat ^^^ y.toNat) = y.toNat := by rw [← Nat.xor_assoc, Nat.xor_self, Nat.zero_xor]
  unfold xorB
  rw [Int.toNat_natCast, this]; omega
theorem tb_byte (turn : Int) (j : Nat) : 0 ≤ tb turn j ∧ tb turn j ≤ 255 := by unfold tb; omega
theorem bytes_tbs (turn : Int) (i : Nat) : Bytes (tbs turn i) := by
  intro x hx
  simp only [tbs, List.mem_map] at hx
  obtain ⟨j, _, rfl⟩ := hx
  exact tb_byte turn j
theorem turnRow_len {n p : Nat} {t : List Int} (h : p + t.length ≤ n) : (turnRow n p t).length = n := by simp [turnRow]; omega
theorem bytes_turnRow {n p : Nat} {t : List Int} (ht : Bytes t) : Bytes (turnRow n p t) := by
  intro x hx
  simp only [turnRow, List.mem_append, List.mem_replicate] at hx
  rcases hx with h | h | h
  · omega
  · exact ht x h
  · omega
theorem turned_len {b : List Int} {p : Nat} {t : List Int} (h : p + t.length ≤ b.length) : (turned b p t).length = b.length := by
  have := turnRow_len h
  simp [turned, this]
theorem bytes_turned {b : List Int} {p : Nat} {t : List Int} (hb : Bytes b) (ht : Bytes t) : Bytes (turned b p t) := by
  intro x hx
  obtain ⟨i, hi, rfl⟩ := List.getElem_of_mem hx
  simp only [turned, List.getElem_zipWith]
  exact Crc.xorB_byte (hb _ (List.getElem_mem _)) (bytes_turnRow ht _ (List.getElem_mem _))
theorem turned_back {b : List Int} {p : Nat} {t : List Int} (hb : Bytes b) (ht : Bytes t) (h : p + t.length ≤ b.length) : List.zipWith xorB b (turned b p t) = turnRow b.length p t := by
  have hl := turnRow_len h
  apply List.ext_getElem
  · simp [turned, hl]
  · intro i h1 h2
    simp only [turned, List.getElem_zipWith]
    exact xorB_xorB (hb _ (List.getElem_mem _)) (bytes_turnRow ht _ (List.getElem_mem _))
theorem turned_nil {b : List Int} {p : Nat} (hb : Bytes b) (h : p ≤ b.length) : turned b p [] = b := by
  have hl : (turnRow b.length p []).length = b.length := turnRow_len (by simpa using h)
  apply List.ext_getElem
  · simp [turned, hl]
  · intro i h1 h2
    simp only [turned, List.getElem_zipWith]
    have : (turnRow b.length p [])[i] = 0 := by
      have hm : (turnRow b.length p [])[i]'(by omega) ∈ turnRow b.length p [] := List.getElem_mem _
      simp only [turnRow, List.mem_append, List.mem_replicate, List.nil_append] at hm
      rcases hm with h | h <;> exact h.2
    rw [this]
    exact xorB_zero (hb _ (List.getElem_mem _))
theorem turned_snoc {b : List Int} {p : Nat} {t : List Int} {c : Int} (hb : Bytes b) (hc : 0 ≤ c ∧ c ≤ 255) (h : p + t.length < b.length) :
    (turned b p t).set (p + t.length) (Go.bits .xor .u8 (ix (turned b p t) (p + t.length)) c) = turned b p (t ++ [c]) ∧ ix (turned b p t) (p + t.length) = ix b (p + t.length) := by
  have hl := turned_len (b := b) (p := p) (t := t) (by omega)
  have hz : (turnRow b.length p t)[p + t.length]'(by rw [turnRow_len (by omega)]; omega) = 0 := by
    simp only [turnRow]
    rw [List.getElem_append_right (by simp), List.getElem_append_right (by simp)]
    simp
  have e0 : ix (turned b p t) (p + t.length) = ix b (p + t.length) := by
    rw [ix_get (by omega), ix_get h]
    simp only [turned, List.getElem_zipWith, hz]
    exact xorB_zero (hb _ (List.getElem_mem _))
  refine ⟨?_, e0⟩
  rw [e0, ix_get h, Crc.bits_xor8 _ _ (hb _ (List.getElem_mem _)) hc]
  have hr : (turnRow b.length p t).set (p + t.length) c = turnRow b.length p (t ++ [c]) := by
    simp only [turnRow]
    rw [List.set_append_right _ _ (by simp)]
    simp only [List.length_replicate, Nat.add_sub_cancel_left]
    rw [List.set_append_right _ _ (by simp)]
    simp only [Nat.sub_self]
    obtain ⟨q, hq⟩ : ∃ q, b.length - p - t.length = q + 1 := ⟨b.length - p - t.length - 1, by omega⟩
    have hq' : b.length - p - (t ++ [c]).length = q := by simp; omega
    rw [hq, hq']
    simp [List.replicate_succ]
  have hT : turned b p (t ++ [c]) = List.zipWith xorB b ((turnRow b.length p t).set (p + t.length) c) := by rw [hr]; rfl
  rw [hT]
  apply List.ext_getElem
  · rw [List.length_set, hl]
    simp [turnRow_len (show p + t.length ≤ b.length by omega)]
  · intro i h1 h2
    rw [List.getElem_set]
    simp only [turned, List.getElem_zipWith, List.getElem_set]
    by_cases hi : p + t.length = i
    · subst hi; simp
    · simp [hi]
theorem told_turn {b : List Int} {p : Nat} {t : List Int} (hb : Bytes b) (ht : Bytes t) (h4 : t.length ≤ 4) (h : p + t.length ≤ b.length) : Crc.sum b = Crc.sum (turned b p t) ↔ ∀ x ∈ t, x = 0 :=
  Crc.turn_told b (turned b p t) (turned_len h).symm p _ t h4 ht (turned_back hb ht h)

theorem and65535 (n : Int) : ∃ m : Nat, m < 65536 ∧ Go.bits .and .i64 n 65535 = (m : Int) := by
  have h : (BitVec.ofInt IntKind.i64.bits n &&& BitVec.ofInt IntKind.i64.bits 65535).toNat ≤ 65535 := by
    have h255 : (BitVec.ofInt IntKind.i64.bits 65535).toNat = 65535 := by decide
    rw [BitVec.toNat_and, h255]; exact Nat.and_le_right
  have e : Go.bits .and .i64 n 65535 = IntKind.i64.wrap ((BitVec.ofInt IntKind.i64.bits n &&& BitVec.ofInt IntKind.i64.bits 65535).toNat : Int) := rfl
  generalize (BitVec.ofInt IntKind.i64.bits n &&& BitVec.ofInt IntKind.i64.bits 65535).toNat = m at h e
  refine ⟨m, by omega, ?_⟩
  rw [e, IntKind.wrap_i64]
  omega
theorem and7 (n : Nat) (h : n < 4294967296) : Go.bits .and .i64 (n : Int) 7 = ((n % 8 : Nat) : Int) := by
  have e : Go.bits .and .i64 (n : Int) 7 = IntKind.i64.wrap ((BitVec.ofInt IntKind.i64.bits (n : Int) &&& BitVec.ofInt IntKind.i64.bits 7).toNat : Int) := rfl
  have e2 : (BitVec.ofInt IntKind.i64.bits (n : Int) &&& BitVec.ofInt IntKind.i64.bits 7).toNat = n % 8 := by
    rw [BitVec.toNat_and, BitVec.ofInt_natCast, BitVec.toNat_ofNat]
    rw [show (BitVec.ofInt IntKind.i64.bits 7).toNat = 2 ^ 3 - 1 by decide, Nat.mod_eq_of_lt (show n < 2 ^ IntKind.i64.bits by show n < 2 ^ 64; omega), Nat.and_two_pow_sub_one_eq_mod]
  rw [e, e2, IntKind.wrap_i64]
  omega

set_option maxHeartbeats 400000 in
theorem tells_long (A : Option Addr) (n c : Nat) (b : List Int) (a1 a2 : Int) (w : World) (h : 400 < n) :
    Calls Try.prog 5 #[.slice A n c, .int .i64 a1, .int .i64 a2] w fun e w' => e = .returned (.bool true) ∧ Below w.heap.size w w' := by
  go_enter Try.func5, Try.ntmps5
  go_wp2_with (go_at_call 10; refine (awake1_any _).mono ?_; rintro e w' ⟨rfl, hb⟩)
  go_ret
  exact ⟨rfl, hb⟩
set_option maxHeartbeats 400000 in
theorem tells_none (A : Option Addr) (c : Nat) (a1 a2 : Int) (w : World) :
    Calls Try.prog 5 #[.slice A 0 c, .int .i64 a1, .int .i64 a2] w fun e w' => e = .returned (.bool true) ∧ Below w.heap.size w w' := by
  have S := Lib.hid Crc.sum_nil
  go_enter Try.func5, Try.ntmps5
  go_wp2_with (first
    | (go_at_call 9; refine (sum_eq _ _ _ [] 0 _ S.out (Bs.nil _ _)).mono ?_; rintro e w' ⟨rfl, rfl⟩)
    | (go_at_call 11; refine (rsum_eq _ _ _ [] 0 _ S.out (Bs.nil _ _)).mono ?_; rintro e w' ⟨rfl, rfl⟩)
    | (go_at_call 10; refine (awake1_any _).mono ?_; rintro e w' ⟨rfl, hb⟩))
  go_ret
  exact ⟨rfl, hb⟩
theorem own_byte {w : World} {base n c g i : Nat} {l : List Int} (h : Own w base 5 1 (some ⟨g, 0, none⟩) n c (ints .u8 l)) (hi : i < l.length) (hn : i < n) :
    w.cell? ⟨g, i, none⟩ = some (.int .u8 (ix l i)) ∧ w.frozen? ⟨g, i, none⟩ = false := by
  refine ⟨?_, h.frozenAt i⟩
  rw [h.cellAt i (by omega), ints_get .u8 l hi, ix_get hi]
def anyT (turn : Int) (j : Nat) : Bool := (tbs turn j).any (· != 0)
theorem anyT_succ (turn : Int) (j : Nat) : anyT turn (j + 1) = (anyT turn j || tb turn j != 0) := by simp [anyT, tbs, List.range_succ]
theorem anyT_all (turn : Int) (j : Nat) : (∀ x ∈ tbs turn j, x = 0) ↔ anyT turn j = false := by
  simp [anyT, List.any_eq_false]
theorem pow_byte (K : Nat) : 0 ≤ ((2 ^ (K % 8) : Nat) : Int) ∧ ((2 ^ (K % 8) : Nat) : Int) ≤ 255 := by
  have h : K % 8 = 0 ∨ K % 8 = 1 ∨ K % 8 = 2 ∨ K % 8 = 3 ∨ K % 8 = 4 ∨ K % 8 = 5 ∨ K % 8 = 6 ∨ K % 8 = 7 := by omega
  rcases h with h | h | h | h | h | h | h | h <;> rw [h] <;> decide
theorem pow_ne (K : Nat) : ((2 ^ (K % 8) : Nat) : Int) ≠ 0 := by
  have : 0 < 2 ^ (K % 8) := Nat.two_pow_pos _
  omega
theorem pow_mod (K : Nat) : (2 : Int) ^ (K % 8) % 256 = ((2 ^ (K % 8) : Nat) : Int) := by
  have h := pow_byte K
  have e : ((2 ^ (K % 8) : Nat) : Int) = (2 : Int) ^ (K % 8) := by simp
  rw [← e]; omega
def TellsAt (w w1 : World) (b : List Int) (n p : Nat) (X : Option Addr) (xc : Nat) (Y : Option Addr) (yc : Nat) (w2 : World) : Prop :=
  ∃ gx gy, X = some ⟨gx, 0, none⟩ ∧ Y = some ⟨gy, 0, none⟩ ∧ gx ≠ gy ∧ Own w2 w.heap.size 5 1 (some ⟨gx, 0, none⟩) n xc (ints .u8 b) ∧ Own w2 w.heap.size 5 1 (some ⟨gy, 0, none⟩) n yc (ints .u8 b) ∧ Below w.heap.size w w2
theorem tells_at {w w1 w2 : World} {b : List Int} {n p xc yc : Nat} {X Y : Option Addr} {o : Obj} (hx1 : Own w1 w.heap.size 5 1 X n xc (ints .u8 b)) (hb1 : Below w.heap.size w w1)
    (hy1 : Own w2 w.heap.size 5 1 Y n yc (ints .u8 b)) (hg2 : (w1.alloc o).grownBy w2 (ob (some ⟨w1.heap.size, 0, none⟩))) (hy2 : ob Y = ob (some ⟨w1.heap.size, 0, none⟩) ∨ ob Y = some (w1.alloc o).heap.size) (h0 : 0 < n) :
    TellsAt w w1 b n p X xc Y yc w2 := by
  obtain ⟨gx, rfl, hgx, hgx2⟩ := hx1.some h0
  obtain ⟨gy, rfl, hgy, hgy2⟩ := hy1.some h0
  refine ⟨gx, gy, rfl, rfl, ?_, ?_, hy1, ?_⟩
  · rintro rfl
    simp [ob] at hy2
    omega
  · exact (hx1.alloc o).grown hg2 (.inr (by simp [ob]; omega))
  · exact (hb1.alloc hb1.size o).grown hg2 (by simp; have := hb1.size; omega) (by intro k hk; simp [ob] at hk; have := hb1.size; omega)
set_option maxHeartbeats 1000000 in
theorem tells_any (A : Option Addr) (n c : Nat) (b : List Int) (a1 a2 : Int) (w : World) (hb : Bs w A n b) (h1 : n ≤ 400) (h0 : 0 < n) :
    Calls Try.prog 5 #[.slice A n c, .int .i64 a1, .int .i64 a2] w fun e w' => e = .returned (.bool true) ∧ Below w.heap.size w w' := by
  obtain ⟨m, hm, he⟩ := and65535 a1
  obtain ⟨K, hK, hKlt⟩ : ∃ K : Nat, (m : Int) % (8 * (n : Int)) = (K : Int) ∧ K < 8 * n := ⟨m % (8 * n), by rw [Int.natCast_emod]; simp, Nat.mod_lt _ (by omega)⟩
  obtain ⟨S0, hS0⟩ : ∃ r, Crc.sum b = r := ⟨_, rfl⟩
  have HS := Lib.hid hS0
  have HB := Lib.hid hb
  clear hS0 hb
  have h2 : (0 : Int) < (n : Int) := by omega
  obtain ⟨p, hp⟩ : ∃ p, K / 8 = p := ⟨_, rfl⟩
  have hp1 : ((K : Int) / 8) = (p : Int) := by omega
  have h7 := and7 K (by omega)
  go_enter Try.func5, Try.ntmps5
  go_wp2_with (first
    | (go_at_call 9; with_reducible refine (sum_eq A n c b S0 _ HS.out HB.out).mono ?_; rintro e w' ⟨rfl, rfl⟩)
    | (go_at_call 11; with_reducible refine (rsum_eq A n c b S0 _ HS.out HB.out).mono ?_; rintro e w' ⟨rfl, rfl⟩)
    | (at_builtin
       refine wpList_app rfl (.tmp 32) (.tmp 33) 26 rfl Try.underlying26 u8infoT rfl (by decide) rfl (Own.lit w [] 5 1 0 (Nat.le_refl _) rfl (by decide)) rfl (HB.out.alloc _).rd (ints_one _ _) (by omega) (by omega) (by simp) (Nat.zero_add n) (List.nil_append _) ?_
       intro X xc w1 hx1 hg1 hx2
       have hb1 : Below w.heap.size w w1 := ((Below.refl _ _).alloc (Nat.le_refl _) _).grown hg1 (by simp) (by intro k hk; simp [ob] at hk; omega)
       have HB1 := Lib.hid (HB.out.below hb1)
       clear hg1 hx2)
    | (at_builtin
       refine wpList_app rfl (.tmp 35) (.tmp 36) 26 rfl Try.underlying26 u8infoT rfl (by decide) rfl (Own.lit w1 [] 5 1 0 hb1.size rfl (by decide)) rfl (HB1.out.alloc _).rd (ints_one _ _) (by omega) (by omega) (by simp; have := hb1.size; omega) (Nat.zero_add n) (List.nil_append _) ?_
       intro Y yc w2 hy1 hg2 hy2
       obtain ⟨F, HF⟩ : ∃ F, F = TellsAt w w1 b n p X xc Y yc w2 := ⟨_, rfl⟩
       have hf : F := by
         rw [HF]
         exact tells_at hx1 hb1 hy1 hg2 hy2 h0
       clear hx1 hb1 HB1 hy1 hg2 hy2
       rw [HF] at hf
       clear HF F
       obtain ⟨gx, gy, rfl, rfl, hxy, hX, hY, hbel⟩ := hf
       obtain ⟨cx, fx⟩ := own_byte hX (show p < b.length by rw [HB.out.len]; omega) (show p < n by omega)
       have HX := Lib.hid hX
       have HY := Lib.hid hY
       have Hbel := Lib.hid hbel
       have Hxy := Lib.hid hxy
       clear hX hY hbel hxy
       have hpn : p < n := by omega))
  refine at_world (fun W => Own W w.heap.size 5 1 (some ⟨gx, 0, none⟩) n xc (ints .u8 (turned b p [((2 ^ (K % 8) : Nat) : Int)])) ∧ Own W w.heap.size 5 1 (some ⟨gy, 0, none⟩) n yc (ints .u8 (turned b p (tbs a2 0))) ∧ Below w.heap.size w W) ⟨?_, ?_, ?_⟩ ?_
  · have e := (turned_snoc (b := b) (p := p) (t := []) (c := ((2 ^ (K % 8) : Nat) : Int)) HB.out.by_ (pow_byte K) (by simpa using (show p < b.length by rw [HB.out.len]; exact hpn))).1
    rw [turned_nil HB.out.by_ (by rw [HB.out.len]; omega)] at e
    simp only [List.length_nil, Nat.add_zero, List.nil_append] at e
    rw [← e, pow_mod]
    have := HX.out.stored p (.int .u8 (Go.bits .xor .u8 (ix b p) ((2 ^ (K % 8) : Nat) : Int)))
    simpa [ints, List.map_set] using this
  · have e : turned b p (tbs a2 0) = b := turned_nil HB.out.by_ (by rw [HB.out.len]; omega)
    rw [e]
    exact HY.out.setCell (by simp [ob]; exact fun h => Hxy.out h.symm) _
  · exact Hbel.out.setCell (by have := (HX.out.blk gx rfl).1; exact this) _
  rintro W ⟨hX, hY, hbel⟩
  have HX2 := Lib.hid hX
  clear hX HX HY Hbel cx fx
  go_loopw [10, 11] (fun tn i wr => ∃ j : Nat, j ≤ 4 ∧ p + j ≤ n ∧ i = .int .i64 j ∧ tn = .bool (anyT a2 j) ∧ Own wr w.heap.size 5 1 (some ⟨gx, 0, none⟩) n xc (ints .u8 (turned b p [((2 ^ (K % 8) : Nat) : Int)])) ∧
      Own wr w.heap.size 5 1 (some ⟨gy, 0, none⟩) n yc (ints .u8 (turned b p (tbs a2 j))) ∧ Below w.heap.size w wr) (fun _ i _ => 4 - (intOf i).toNat)
  case atStart => exact ⟨0, by omega, by omega, rfl, rfl, HX2.out, hY, hbel⟩
  case round =>
    obtain ⟨j, hj4, hjn, rfl, rfl, hX, hY, hbel⟩ := hrel
    have hbl := HB.out.len
    have htl : (tbs a2 j).length = j := by simp [tbs]
    by_cases hlt : j < 4 ∧ p + j < n
    · obtain ⟨hl4, hln⟩ := hlt
      have hsn := turned_snoc (b := b) (p := p) (t := tbs a2 j) (c := tb a2 j) HB.out.by_ (tb_byte a2 j) (by rw [htl, hbl]; exact hln)
      rw [htl] at hsn
      have hyl : (turned b p (tbs a2 j)).length = b.length := turned_len (by rw [htl, hbl]; omega)
      obtain ⟨cy, fy⟩ := own_byte hY (show p + j < (turned b p (tbs a2 j)).length by omega) hln
      rw [hsn.2] at cy
      have hby : 0 ≤ ix b (p + j) ∧ ix b (p + j) ≤ 255 := by rw [ix_get (by omega)]; exact HB.out.by_ _ (List.getElem_mem _)
      obtain ⟨hb0, hb1⟩ := hby
      have Hsn := Lib.hid hsn
      have HX := Lib.hid hX
      have HY := Lib.hid hY
      have Hbel := Lib.hid hbel
      have Hbl := Lib.hid hbl
      clear hsn hX hY hbel htl hyl hbl
      have htb := Lib.hid (show tb a2 j = a2 / 2 ^ (8 * j) % 256 from rfl)
      have hfin : Own (wr.setCell ⟨gy, p + j, none⟩ (.int .u8 (Go.bits .xor .u8 (ix b (p + j)) (a2 / 2 ^ (8 * j) % 256)))) w.heap.size 5 1 (some ⟨gx, 0, none⟩) n xc (ints .u8 (turned b p [((2 ^ (K % 8) : Nat) : Int)])) ∧
          Own (wr.setCell ⟨gy, p + j, none⟩ (.int .u8 (Go.bits .xor .u8 (ix b (p + j)) (a2 / 2 ^ (8 * j) % 256)))) w.heap.size 5 1 (some ⟨gy, 0, none⟩) n yc (ints .u8 (turned b p (tbs a2 (j + 1)))) ∧
          Below w.heap.size w (wr.setCell ⟨gy, p + j, none⟩ (.int .u8 (Go.bits .xor .u8 (ix b (p + j)) (a2 / 2 ^ (8 * j) % 256)))) := by
        refine ⟨HX.out.setCell (by simp [ob]; exact Hxy.out) _, ?_, Hbel.out.setCell (by have := (HY.out.blk gy rfl).1; exact this) _⟩
        have e := Hsn.out.1
        rw [Hsn.out.2] at e
        have e2 : tbs a2 j ++ [tb a2 j] = tbs a2 (j + 1) := by simp [tbs, List.range_succ]
        rw [e2] at e
        rw [← e, ← htb.out]
        have := HY.out.stored (p + j) (.int .u8 (Go.bits .xor .u8 (ix b (p + j)) (tb a2 j)))
        simpa [ints, List.map_set] using this
      have Hfin := Lib.hid hfin
      clear hfin
      cases hT : anyT a2 j
      · go_wp2_with fail
        refine ⟨⟨j + 1, by omega, by omega, by go_num, ?_, Hfin.out⟩, by simp [intOf]; omega⟩
        rw [anyT_succ, hT, htb.out]; simp
      · go_wp2_with fail
        refine ⟨⟨j + 1, by omega, by omega, by go_num, ?_, Hfin.out⟩, by simp [intOf]; omega⟩
        rw [anyT_succ, hT]; simp
    · have hx1 : Bs wr (some ⟨gx, 0, none⟩) n (turned b p [((2 ^ (K % 8) : Nat) : Int)]) := ⟨hX.rd, bytes_turned HB.out.by_ (by intro x hx; simp at hx; rw [hx]; simpa using pow_byte K), by omega⟩
      have hy1 : Bs wr (some ⟨gy, 0, none⟩) n (turned b p (tbs a2 j)) := ⟨hY.rd, bytes_turned HB.out.by_ (bytes_tbs a2 j), by omega⟩
      have hb1 : Bs wr A n b := HB.out.below hbel
      obtain ⟨Sx, hSx⟩ : ∃ r, Crc.sum (turned b p [((2 ^ (K % 8) : Nat) : Int)]) = r := ⟨_, rfl⟩
      obtain ⟨Sy, hSy⟩ : ∃ r, Crc.sum (turned b p (tbs a2 j)) = r := ⟨_, rfl⟩
      have hne : Sx ≠ S0 := by
        rw [← hSx, ← HS.out]
        intro he
        have := (told_turn (p := p) (t := [((2 ^ (K % 8) : Nat) : Int)]) HB.out.by_ (by intro x hx; simp at hx; rw [hx]; simpa using pow_byte K) (by simp) (by simp; omega)).1 he.symm
        exact pow_ne K (this _ (by simp))
      have heq : Sy = S0 ↔ anyT a2 j = false := by
        rw [← hSy, ← HS.out, ← anyT_all]
        constructor
        · intro he; exact (told_turn HB.out.by_ (bytes_tbs a2 j) (by rw [htl]; omega) (by rw [htl]; omega)).1 he.symm
        · intro he; exact ((told_turn HB.out.by_ (bytes_tbs a2 j) (by rw [htl]; omega) (by rw [htl]; omega)).2 he).symm
      have hn1 : (Sx != S0) = true := by simpa using hne
      have HX := Lib.hid hx1
      have HY := Lib.hid hy1
      have HB1 := Lib.hid hb1
      have HSx := Lib.hid hSx
      have HSy := Lib.hid hSy
      have Hbel := Lib.hid hbel
      have htest : ¬ (j < 4 ∧ p + j < n) := hlt
      clear hX hY hbel hbl htl hx1 hy1 hb1 hSx hSy hne HX2 hlt
      by_cases h4 : j < 4
      · have hpj : n ≤ p + j := by omega
        clear htest
        cases hT : anyT a2 j
        · have hq : (Sy == S0) = true := by simpa using heq.2 hT
          clear heq
          go_wp2_with (first | (go_at_call 9; first | (with_reducible refine (sum_eq (some ⟨gx, 0, none⟩) n xc (turned b p [((2 ^ (K % 8) : Nat) : Int)]) Sx _ HSx.out HX.out).mono ?_; rintro e w' ⟨rfl, rfl⟩) | (with_reducible refine (sum_eq (some ⟨gy, 0, none⟩) n yc (turned b p (tbs a2 j)) Sy _ HSy.out HY.out).mono ?_; rintro e w' ⟨rfl, rfl⟩) | (with_reducible refine (sum_eq A n c b S0 _ HS.out HB1.out).mono ?_; rintro e w' ⟨rfl, rfl⟩)) | (go_at_call 10; refine (awake1_any _).mono ?_; rintro e w' ⟨rfl, hbw⟩))
          go_ret
          exact ⟨rfl, Hbel.out.trans (by have hh := Hbel.out; exact hbw.mono hh.size)⟩
        · have hq : (Sy == S0) = false := by
            have : ¬ Sy = S0 := fun he => by have := heq.1 he; rw [hT] at this; cases this
            simpa using this
          clear heq
          go_wp2_with (first | (go_at_call 9; first | (with_reducible refine (sum_eq (some ⟨gx, 0, none⟩) n xc (turned b p [((2 ^ (K % 8) : Nat) : Int)]) Sx _ HSx.out HX.out).mono ?_; rintro e w' ⟨rfl, rfl⟩) | (with_reducible refine (sum_eq (some ⟨gy, 0, none⟩) n yc (turned b p (tbs a2 j)) Sy _ HSy.out HY.out).mono ?_; rintro e w' ⟨rfl, rfl⟩) | (with_reducible refine (sum_eq A n c b S0 _ HS.out HB1.out).mono ?_; rintro e w' ⟨rfl, rfl⟩)) | (go_at_call 10; refine (awake1_any _).mono ?_; rintro e w' ⟨rfl, hbw⟩))
          go_ret
          exact ⟨rfl, Hbel.out.trans (by have hh := Hbel.out; exact hbw.mono hh.size)⟩
      · clear htest
        cases hT : anyT a2 j
        · have hq : (Sy == S0) = true := by simpa using heq.2 hT
          clear heq
          go_wp2_with (first | (go_at_call 9; first | (with_reducible refine (sum_eq (some ⟨gx, 0, none⟩) n xc (turned b p [((2 ^ (K % 8) : Nat) : Int)]) Sx _ HSx.out HX.out).mono ?_; rintro e w' ⟨rfl, rfl⟩) | (with_reducible refine (sum_eq (some ⟨gy, 0, none⟩) n yc (turned b p (tbs a2 j)) Sy _ HSy.out HY.out).mono ?_; rintro e w' ⟨rfl, rfl⟩) | (with_reducible refine (sum_eq A n c b S0 _ HS.out HB1.out).mono ?_; rintro e w' ⟨rfl, rfl⟩)) | (go_at_call 10; refine (awake1_any _).mono ?_; rintro e w' ⟨rfl, hbw⟩))
          go_ret
          exact ⟨rfl, Hbel.out.trans (by have hh := Hbel.out; exact hbw.mono hh.size)⟩
        · have hq : (Sy == S0) = false := by
            have : ¬ Sy = S0 := fun he => by have := heq.1 he; rw [hT] at this; cases this
            simpa using this
          clear heq
          go_wp2_with (first | (go_at_call 9; first | (with_reducible refine (sum_eq (some ⟨gx, 0, none⟩) n xc (turned b p [((2 ^ (K % 8) : Nat) : Int)]) Sx _ HSx.out HX.out).mono ?_; rintro e w' ⟨rfl, rfl⟩) | (with_reducible refine (sum_eq (some ⟨gy, 0, none⟩) n yc (turned b p (tbs a2 j)) Sy _ HSy.out HY.out).mono ?_; rintro e w' ⟨rfl, rfl⟩) | (with_reducible refine (sum_eq A n c b S0 _ HS.out HB1.out).mono ?_; rintro e w' ⟨rfl, rfl⟩)) | (go_at_call 10; refine (awake1_any _).mono ?_; rintro e w' ⟨rfl, hbw⟩))
          go_ret
          exact ⟨rfl, Hbel.out.trans (by have hh := Hbel.out; exact hbw.mono hh.size)⟩

theorem tells_row {A : Option Addr} {n c : Nat} {b : List Int} {a1 a2 : Int} {w : World} (hb : Came .u8 w A n c b) (yb : n * 1 ≤ 140737488351232) (_ : (Lit.int .i64 a1).wf = true) (_ : (Lit.int .i64 a2).wf = true) (W : World) (hW : W = w) :
    Calls Try.prog 5 #[.slice A n c, .int .i64 a1, .int .i64 a2] W fun e w' => e = .returned (.bool true) ∧ Below W.heap.size W w' := by
  subst hW
  rcases Nat.eq_zero_or_pos n with h | h
  · subst h; exact tells_none A c a1 a2 W
  · by_cases h4 : 400 < n
    · exact tells_long A n c b a1 a2 W h4
    · exact tells_any A n c b a1 a2 W (came_bytes hb yb) (by omega) h
end Go.Proofs.Ytdegfbhnilbcfaa
