/- Numbers in six bytes: plain mathematics. The walks of package code: numbers and bytes written. -/
import Derived.Test.YtahdeighocmijaaGreatCrcMath
import Derived.Laws.BitsLemmas
import Derived.Test.YtahdeighocmijaaGreatProg
import Derived.Test.YtahdeighocmijaaGreatApp
namespace Go.Proofs.YtahdeighocmijaaGreat.Cod
open Go
open Crc (Bytes)

def far : Int := 1099511627776
def held (n : Int) : Int := min (max n 0) far
/-- the k-th of the six bytes, the highest being number 5 -/
def dig (n : Int) (k : Nat) : Int := held n / 2 ^ (8 * k) % 256
def six (n : Int) : List Int := [dig n 5, dig n 4, dig n 3, dig n 2, dig n 1, dig n 0]
def sixTo (n : Int) (k : Nat) : List Int := (six n).take k
/-- six bytes as a number -/
def numOf (l : List Int) : Int := (l.take 6).foldl (fun n x => n * 256 + x) 0
def numTo (l : List Int) (k : Nat) : Int := (l.take k).foldl (fun n x => n * 256 + x) 0

theorem held_bd (n : Int) : 0 ≤ held n ∧ held n ≤ 1099511627776 := by unfold held far; omega
theorem dig_byte (n : Int) (k : Nat) : 0 ≤ dig n k ∧ dig n k ≤ 255 := by unfold dig; omega
theorem six_len (n : Int) : (six n).length = 6 := rfl
theorem six_bytes (n : Int) : Bytes (six n) := by
  intro x hx
  simp only [six, List.mem_cons, List.not_mem_nil, or_false] at hx
  rcases hx with rfl | rfl | rfl | rfl | rfl | rfl <;> exact dig_byte n _
theorem numOf_six (n : Int) (l : List Int) : numOf (six n ++ l) = held n := by
  have h := held_bd n
  have e : (six n ++ l).take 6 = six n := by rw [List.take_append_of_le_length (by simp [six]), List.take_of_length_le (by simp [six])]
  unfold numOf
  rw [e]
  simp only [six, List.foldl_cons, List.foldl_nil, dig]
  generalize held n = m at *
  simp only [show (2 : Int) ^ (8 * 5) = 1099511627776 from rfl, show (2 : Int) ^ (8 * 4) = 4294967296 from rfl, show (2 : Int) ^ (8 * 3) = 16777216 from rfl, show (2 : Int) ^ (8 * 2) = 65536 from rfl, show (2 : Int) ^ (8 * 1) = 256 from rfl, show (2 : Int) ^ (8 * 0) = 1 from rfl]
  omega
theorem numTo_bd {l : List Int} (hb : Bytes l) : ∀ k, k ≤ l.length → 0 ≤ numTo l k ∧ numTo l k < 256 ^ k := by
  intro k
  induction k with
  | zero => intro _; simp [numTo]
  | succ k ih =>
    intro hk
    obtain ⟨h0, h1⟩ := ih (by omega)
    have e : numTo l (k + 1) = numTo l k * 256 + l[k] := by
      unfold numTo
      rw [List.take_succ_eq_append_getElem (show k < l.length by omega), List.foldl_append]
      rfl
    have hx := hb (l[k]'(by omega)) (List.getElem_mem _)
    rw [e, Int.pow_succ]
    generalize (256 : Int) ^ k = P at *
    omega
theorem numTo_succ {l : List Int} {k : Nat} (hk : k < l.length) : numTo l (k + 1) = numTo l k * 256 + l[k] := by
  unfold numTo
  rw [List.take_succ_eq_append_getElem hk, List.foldl_append]
  rfl
theorem or_low (x y : Int) (hx : 0 ≤ x) (hx1 : x < 1099511627776) (hy : 0 ≤ y ∧ y ≤ 255) : Go.bits .or .i64 (x * 256) y = x * 256 + y :=
  bits_join .i64 62 (by decide) (fun n h0 h1 => by rw [IntKind.wrap_i64]; omega) 8 (x * 256) y (by omega) (by omega) (by omega) hy.1 (by omega) (by omega)
theorem six_take (n : Int) (j : Nat) (hj : j < 6) : (six n).take (6 - (j + 1)) ++ [dig n j] = (six n).take (6 - j) := by
  have h : j = 0 ∨ j = 1 ∨ j = 2 ∨ j = 3 ∨ j = 4 ∨ j = 5 := by omega
  rcases h with rfl | rfl | rfl | rfl | rfl | rfl <;> rfl
end Go.Proofs.YtahdeighocmijaaGreat.Cod
namespace Go.Proofs.YtahdeighocmijaaGreat
set_option linter.unusedSimpArgs false
set_option linter.unusedVariables false
open Go.RowKit
open Crc (Bytes)

theorem u8i : (Tryz.prog.info? 5).map (fun i => (i.zero, i.size, i.bytes)) = some (some (.int .u8 0), 1, 1) := by kernel_rfl

/-- The call gives back a row of bytes of its own. -/
structure Gives (w : World) (l : List Int) (e : Ending) (w' : World) : Prop where
  out : ∃ A n c, e = .returned (.slice A n c) ∧ Hid (l.length = n) ∧ Own w' w.heap.size 5 1 A n c (ints .u8 l) ∧ (A = none → l = []) ∧ Below w.heap.size w w'

theorem own_none {w : World} {base n c : Nat} {l : List Int} (h : Own w base 5 1 none n c (ints .u8 l)) : l = [] := by
  rcases Nat.eq_zero_or_pos n with h0 | h0
  · have := h.row.1
    rw [ints_len, h0, Nat.zero_mul] at this
    exact List.eq_nil_of_length_eq_zero this
  · obtain ⟨g, hg, _⟩ := h.some h0
    cases hg

set_option maxHeartbeats 400000 in
theorem clone_any (A : Option Addr) (n c : Nat) (l : List Int) (w : World) (h : Bs w A n l) : Calls Tryz.prog 27 #[.slice A n c] w (Gives w l) := by
  obtain rfl := h.len
  have hle := h.le
  rcases A with _ | ad
  · have hn : l = [] := by
      rcases Nat.eq_zero_or_pos l.length with h0 | h0
      · exact List.eq_nil_of_length_eq_zero h0
      · obtain ⟨ad, h1, _⟩ := h.get h0; cases h1
    subst hn
    have hq := @eql_slice_nil Tryz.prog _ _ Tryz.underlying23
    go_enter Tryz.func27, Tryz.ntmps27
    go_wp2_with fail
    go_ret
    exact ⟨none, 0, 0, rfl, rfl, Own.nil _ _ _ _, fun _ => rfl, Below.refl _ _⟩
  · have H := Lib.hid h
    clear h
    go_enter Tryz.func27, Tryz.ntmps27
    have hq := @eql_slice_nil Tryz.prog _ _ Tryz.underlying23
    go_wp2_with (first
      | (at_builtin
         refine wpList_app rfl (.tmp 5) (.tmp 6) 23 rfl Tryz.underlying23 u8i rfl (by decide) rfl (Own.lit w [] 5 1 0 (Nat.le_refl _) rfl (by decide)) rfl (H.out.alloc _).rd (ints_one _ _) (by omega) (by omega) (by simp) (Nat.zero_add _) (List.nil_append _) ?_
         intro X xc w1 hx1 hg1 hx2))
    go_ret
    exact ⟨X, _, xc, rfl, rfl, hx1, fun hX => by subst hX; exact own_none hx1, ((Below.refl _ _).alloc (Nat.le_refl _) _).grown hg1 (by simp) (by intro k hk; simp [ob] at hk; omega)⟩

set_option maxHeartbeats 400000 in
theorem clip_any (A : Option Addr) (n c : Nat) (w : World) (h : n ≤ c) : Calls Tryz.prog 76 #[.slice A n c] w fun e w' => e = .returned (.slice A n n) ∧ w = w' := by
  have h0 : (0 : Int) ≤ (n : Int) := by omega
  have h1 : (n : Int) ≤ (c : Int) := by omega
  go_enter Tryz.func76, Tryz.ntmps76
  go_wp2_with fail
  go_ret
  exact ⟨rfl, rfl⟩

open Cod (six held dig far)
structure NumRel (w : World) (l : List Int) (x : Int) (j : Nat) (C : Option Addr) (cc : Nat) (wr : World) : Prop where
  room : Room wr w.heap.size 5 1 C (l.length + (6 - j)) cc (ints .u8 (l ++ (six x).take (6 - j)))
  own : j < 6 → Own wr w.heap.size 5 1 C (l.length + (6 - j)) cc (ints .u8 (l ++ (six x).take (6 - j)))
  none_ : C = none → j = 6 ∧ l = []
  bel : Below w.heap.size w wr
theorem room_alloc {w : World} {base : Nat} {e : TypeId} {size n c : Nat} {A : Option Addr} {xs : List Value} (h : Room w base e size A n c xs) (o : Obj) : Room (w.alloc o) base e size A n c xs := by
  cases h with
  | own h => exact .own (h.alloc o)
  | full h hc h0 => exact .full (h.alloc o) hc h0
set_option maxHeartbeats 1000000 in
theorem num_any (A : Option Addr) (n c : Nat) (l : List Int) (x : Int) (w : World) (h : Bs w A n l) (hn : n ≤ 140737488355000) : Calls Tryz.prog 61 #[.slice A n c, .int .i64 x] w (Gives w (l ++ six x)) := by
  obtain rfl := h.len
  have H := Lib.hid h
  obtain ⟨x1, hx1⟩ : ∃ x1, (if x < 0 then (0 : Int) else x) = x1 := ⟨_, rfl⟩
  have hx : (if 1099511627776 < x1 then (1099511627776 : Int) else x1) = held x := by
    rw [← hx1]; unfold held far; split <;> split <;> omega
  have hd := Cod.held_bd x
  clear h
  obtain ⟨m, hm⟩ : ∃ m, m = held x := ⟨_, rfl⟩
  rw [← hm] at hx hd
  have Hm := Lib.hid hm
  clear hm
  obtain ⟨hd0, hd1⟩ := hd
  go_enter Tryz.func61, Tryz.ntmps61
  go_wp2_with fail
  refine (clone_any A l.length c l _ H.out).mono ?_
  rintro e w1 ⟨B, n, bc, rfl, hn0, hown, hnone, hbel⟩
  obtain rfl : l.length = n := hn0
  have hcap := hown.cap
  go_wp2_with fail
  refine (clip_any B l.length bc _ hcap).mono ?_
  rintro e w2 ⟨rfl, rfl⟩
  have hroom : Room w1 w.heap.size 5 1 B l.length l.length (ints .u8 l) := .full hown.rd rfl (fun hB => by rw [hnone hB]; rfl)
  clear hown hcap
  go_wp2_with fail
  have hrel0 : NumRel w l x 6 B l.length w1 := ⟨by simpa using hroom, fun h => by omega, fun hB => ⟨rfl, hnone hB⟩, hbel⟩
  clear hroom hbel hx hx1 hnone
  go_loopw [5, 6] (fun v k wr => ∃ (j : Nat) (C : Option Addr) (cc : Nat), j ≤ 6 ∧ k = .int .i64 ((j : Int) - 1) ∧ v = .slice C (l.length + (6 - j)) cc ∧ NumRel w l x j C cc wr) (fun _ k _ => ((intOf k) + 1).toNat)
  case atStart => exact ⟨6, B, l.length, Nat.le_refl _, rfl, rfl, hrel0⟩
  case round =>
    obtain ⟨j, C, cc, hj, rfl, rfl, hr⟩ := hrel
    clear hrel0
    have Hr := Lib.hid hr
    clear hr
    rcases j with _ | j
    · go_wp2_with fail
      go_ret
      obtain ⟨_, ho, hC, hbe⟩ := Hr.out
      have e6 : (six x).take (6 - 0) = six x := rfl
      have e7 : (l ++ six x).length = l.length + 6 := by simp [six]
      have ho := ho (by omega)
      rw [e6] at ho
      exact ⟨C, l.length + 6, cc, rfl, e7, ho, fun hCC => absurd (hC hCC).1 (by omega), hbe⟩
    · have h8 : j < 6 := by omega
      obtain ⟨hro, _, _, hbe⟩ := Hr.out
      have Hro := Lib.hid hro
      have hsz := hbe.size
      have Hbe := Lib.hid hbe
      have hlen : (l ++ (six x).take (6 - (j + 1))).length = l.length + (6 - (j + 1)) := by simp [six]; omega
      have hnews : Rd (wr.alloc (.cells #[.int .u8 (m / 2 ^ (8 * j) % 256)] 5)) 1 (some ⟨wr.heap.size, 0, none⟩) 1 (ints .u8 [dig x j]) := by
        have := Rd.lit wr #[.int .u8 (m / 2 ^ (8 * j) % 256)] 5 (0, 0) 1 1 rfl
        have e : ints .u8 [dig x j] = #[Value.int .u8 (m / 2 ^ (8 * j) % 256)].toList := by rw [Hm.out]; rfl
        rwa [e]
      have hzz : ints .u8 (l ++ (six x).take (6 - (j + 1))) ++ ints .u8 [dig x j] = ints .u8 (l ++ (six x).take (6 - j)) := by
        rw [← Cod.six_take x j h8]; simp [ints]
      have Hnews := Lib.hid hnews
      have Hzz := Lib.hid hzz
      clear hro hbe hlen hnews hzz
      go_wp2_with (first
        | (at_builtin
           refine wpList_room rfl (.tmp 17) (.tmp 23) 23 rfl Tryz.underlying23 u8i rfl (by decide) rfl (room_alloc Hro.out _) rfl Hnews.out (ints_one _ _) (by omega) (by omega) (by omega) (by simp; omega) (show l.length + (6 - (j + 1)) + 1 = l.length + (6 - j) by omega) Hzz.out ?_
           intro D dc w3 hown3 hbel3))
      refine ⟨⟨j, D, dc, by omega, rfl, rfl, .own hown3, fun _ => hown3, fun hD => ?_, (Hbe.out.alloc hsz _).trans hbel3⟩, by simp [intOf]⟩
      subst hD
      obtain ⟨g, hg, _⟩ := hown3.some (show 0 < l.length + (6 - j) by omega)
      cases hg

/-- What the call gives, read. -/
theorem own_bs {w : World} {base n c : Nat} {l : List Int} {A : Option Addr} (h : Own w base 5 1 A n c (ints .u8 l)) (hb : Bytes l) (hl : n ≤ 140737488355328) : Bs w A n l := ⟨h.rd, hb, hl⟩
theorem bytes_app {l m : List Int} (hl : Bytes l) (hm : Bytes m) : Bytes (l ++ m) := fun x hx => by
  rcases List.mem_append.1 hx with h | h
  · exact hl x h
  · exact hm x h

set_option maxHeartbeats 400000 in
theorem bytes_any (A B : Option Addr) (n m c d : Nat) (l r : List Int) (w : World) (h : Bs w A n l) (hr : Bs w B m r) (hn : n + m ≤ 140737488354000) :
    Calls Tryz.prog 60 #[.slice A n c, .slice B m d] w (Gives w (l ++ six r.length ++ r)) := by
  have H := Lib.hid h
  have HR := Lib.hid hr
  have hm := Lib.hid (show r.length = m from hr.len)
  clear h hr
  go_enter Tryz.func60, Tryz.ntmps60
  go_wp2_with fail
  rw [← hm.out]
  refine (num_any A n c l r.length _ H.out (by omega)).mono ?_
  rintro e w1 ⟨C, N, cc, rfl, hN, hown, hnone, hbel⟩
  rw [hm.out]
  have hN1 : N ≤ n + 6 := by have := hN.out; rw [List.length_append, H.out.len] at this; simp [six] at this; omega
  have hN2 : 6 ≤ N := by have := hN.out; rw [List.length_append, H.out.len] at this; simp [six] at this; omega
  have HR1 := Lib.hid (HR.out.below hbel)
  have hsz := hbel.size
  go_wp2_with (first
    | (at_builtin
       refine wpList_app rfl (.tmp 8) (.tmp 9) 23 rfl Tryz.underlying23 u8i rfl (by decide) rfl hown rfl HR1.out.rd (ints_one _ _) (by omega) (by omega) hsz rfl (show ints .u8 (l ++ six (r.length : Int)) ++ ints .u8 r = ints .u8 (l ++ six (r.length : Int) ++ r) by simp [ints]) ?_
       intro X xc w2 hx1 hg1 hx2))
  go_ret
  refine ⟨X, N + m, xc, rfl, ?_, hx1, fun hX => ?_, hbel.grown hg1 hsz (fun k hk => (hown.blk k hk).1)⟩
  · show _ = _
    rw [List.length_append, hN.out, hm.out]
  · subst hX
    obtain ⟨g, hg, _⟩ := hx1.some (show 0 < N + m by omega)
    cases hg
end Go.Proofs.YtahdeighocmijaaGreat
