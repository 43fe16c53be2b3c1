/- Frames and numbers: plain laws. -/
import Derived.Test.YtahdeighocmijaaGreatFramScan
namespace Go.Proofs.YtahdeighocmijaaGreat
set_option linter.unusedSimpArgs false
set_option linter.unusedVariables false
open Go.RowKit
open Crc (Bytes)
open Cod (six held dig far numOf)

def numB (n : Int) : Bool := decide (0 ≤ n) && decide (n ≤ 1099511627776)
theorem rnum_app (m : Int) (r : List Int) (top : Int) (ht : held m ≤ top) : rnum (six m ++ r, false) top = (held m, (r, false)) := by
  rw [rnum_good (by simp [six]) (by rw [Cod.numOf_six]; exact ht), Cod.numOf_six]
  rfl
theorem held_nat (n : Nat) (h : n ≤ 1099511627776) : held (n : Int) = n := by unfold held far; omega
theorem rbytes_app (x r : List Int) (top : Int) (hx : x.length ≤ 1099511627776) (ht : (x.length : Int) ≤ top) : rbytes (six (x.length : Int) ++ (x ++ r), false) top = (x, (r, false)) := by
  unfold rbytes
  rw [rnum_app _ _ _ (by rw [held_nat _ hx]; exact ht), held_nat _ hx]
  rw [if_neg (by simp only [List.length_append]; omega)]
  simp
theorem numB_held {n : Int} (h : numB n = true) : held n = n ∧ n ≤ 1099511627776 := by
  unfold numB at h
  simp only [Bool.and_eq_true, decide_eq_true_eq] at h
  unfold held far; omega
theorem oneF_short {l : List Int} (h : l.length < 10) : oneF l = none := by
  unfold oneF
  split
  · rfl
  · rw [if_pos (by omega)]
theorem oneF_framed (x r : List Int) (hx : x.length ≤ 10000) : oneF (framed x ++ r) = some (x, x.length + 10) := by
  have hl : (framed x ++ r).length = 10 + x.length + r.length := by rw [List.length_append, framed_len]
  have ht : (framed x ++ r).take (min (framed x ++ r).length 10006) = six (x.length : Int) ++ (x ++ (sum4 (bod x) ++ r).take (min (framed x ++ r).length 10006 - 6 - x.length)) := by
    have e : framed x ++ r = six (x.length : Int) ++ (x ++ (sum4 (bod x) ++ r)) := by unfold framed bod; simp only [List.append_assoc]
    have h6 : (six (x.length : Int)).length = 6 := rfl
    conv => lhs; rw [e, ← e]
    rw [hl] at *
    rw [e, List.take_append, List.take_of_length_le (by omega), h6, List.take_append, List.take_of_length_le (by omega)]
  have hr := rbytes_app x ((sum4 (bod x) ++ r).take (min (framed x ++ r).length 10006 - 6 - x.length)) 10000 (by omega) (by omega)
  rw [← ht] at hr
  unfold oneF
  rw [hr]
  simp only
  rw [if_neg (by simp), if_neg (by omega)]
  have e1 : (framed x ++ r).take (6 + x.length) = bod x := by
    unfold framed
    rw [List.append_assoc, List.take_append_of_le_length (by rw [bod_len]; omega), List.take_of_length_le (by rw [bod_len]; omega)]
  have e2 : ((framed x ++ r).drop (6 + x.length)).take 4 = sum4 (bod x) := by
    unfold framed
    rw [List.append_assoc, List.drop_append_of_le_length (by rw [bod_len]; omega), List.drop_of_length_le (by rw [bod_len]; omega), List.nil_append, List.take_append_of_le_length (by rw [sum4_len]; omega), List.take_of_length_le (by rw [sum4_len]; omega)]
  rw [e1, e2, if_pos rfl]
  simp only [Option.some.injEq, Prod.mk.injEq, true_and]
  omega
theorem oneF_cut (x : List Int) (k : Nat) (hx : x.length ≤ 10000) (hk : k < x.length + 10) : oneF ((framed x).take k) = none := by
  by_cases h10 : k < 10
  · exact oneF_short (by rw [List.length_take]; omega)
  have hl : ((framed x).take k).length = k := by rw [List.length_take, framed_len]; omega
  have e : framed x = six (x.length : Int) ++ (x ++ sum4 (bod x)) := by unfold framed bod; simp only [List.append_assoc]
  have h6 : (six (x.length : Int)).length = 6 := rfl
  have e1 : ((framed x).take k).take (min k 10006) = six (x.length : Int) ++ (x ++ sum4 (bod x)).take (min k 10006 - 6) := by
    rw [List.take_take, e, List.take_append, List.take_of_length_le (by omega), h6]
    rw [show min (min k 10006) k = min k 10006 by omega]
  unfold oneF
  rw [hl, e1]
  by_cases hs : min k 10006 - 6 < x.length
  · have e2 : rbytes (six (x.length : Int) ++ (x ++ sum4 (bod x)).take (min k 10006 - 6), false) 10000 = ([], ([], true)) := by
      unfold rbytes
      rw [rnum_app _ _ _ (by rw [held_nat _ (by omega)]; omega), held_nat _ (by omega)]
      rw [if_pos (by simp only [List.length_take, List.length_append, sum4_len]; omega)]
    rw [e2]
    simp
  · have e2 := rbytes_app x ((sum4 (bod x)).take (min k 10006 - 6 - x.length)) 10000 (by omega) (by omega)
    rw [show x ++ (sum4 (bod x)).take (min k 10006 - 6 - x.length) = (x ++ sum4 (bod x)).take (min k 10006 - 6) by
      rw [List.take_append, List.take_of_length_le (l := x) (by omega)]] at e2
    rw [e2]
    simp only
    rw [if_neg (by simp), if_pos (by omega)]
/-- There is but one row of frames of a length. -/
theorem fr_same {b : List Int} {l : List (Nat × List Int)} {k : Nat} (h : Fr b l k) : ∀ {l' : List (Nat × List Int)} {k' : Nat}, Fr b l' k' → l.length = l'.length → l = l' ∧ k = k' := by
  induction h with
  | nil =>
    intro l' k' h2 hl
    cases h2 with
    | nil => exact ⟨rfl, rfl⟩
    | snoc => simp at hl
  | snoc h h1 ih =>
    intro l' k' h2 hl
    cases h2 with
    | nil => simp at hl
    | snoc h3 h4 =>
      simp only [List.length_append, List.length_cons, List.length_nil] at hl
      obtain ⟨rfl, rfl⟩ := ih h3 (by omega)
      rw [h1] at h4
      injection h4 with h4
      injection h4 with h5 h6
      subst h5 h6
      exact ⟨rfl, rfl⟩
theorem fr_take {b : List Int} {l : List (Nat × List Int)} {k : Nat} (h : Fr b l k) : ∀ n, n < l.length → ∃ k' x s, Fr b (l.take n) k' ∧ oneF (b.drop k') = some (x, s) := by
  induction h with
  | nil => intro n hn; simp at hn
  | snoc h h1 ih =>
    rename_i l0 k0 s0 x0
    intro n hn
    by_cases hn2 : n < l0.length
    · obtain ⟨k', x, s, h2, h3⟩ := ih n hn2
      exact ⟨k', x, s, by rw [List.take_append_of_le_length (by omega)]; exact h2, h3⟩
    · simp only [List.length_append, List.length_cons, List.length_nil] at hn
      exact ⟨k0, x0, s0, by rw [List.take_append_of_le_length (by omega), List.take_of_length_le (by omega)]; exact h, h1⟩
theorem fr_end {b : List Int} {l l' : List (Nat × List Int)} {k k' : Nat} (h : Fr b l k) (hn : oneF (b.drop k) = none) (h' : Fr b l' k') (hn' : oneF (b.drop k') = none) : l = l' ∧ k = k' := by
  rcases Nat.lt_trichotomy l.length l'.length with hl | hl | hl
  · obtain ⟨q, x, s, h1, h2⟩ := fr_take h' _ hl
    obtain ⟨_, rfl⟩ := fr_same h h1 (by rw [List.length_take]; omega)
    rw [hn] at h2; cases h2
  · exact fr_same h h' hl
  · obtain ⟨q, x, s, h1, h2⟩ := fr_take h _ hl
    obtain ⟨_, rfl⟩ := fr_same h' h1 (by rw [List.length_take]; omega)
    rw [hn'] at h2; cases h2
theorem own_at {w : World} {base : Nat} {e : TypeId} {size n c : Nat} {A : Option Addr} {xs : List Value} (h : Own w base e size A n c xs) {k : Nat} (hk : ob A = some k) : ∃ cs fr, w.heap[k]? = some (Obj.cells cs e fr) := by
  rcases h.row.2 with ⟨hv, _⟩ | ⟨g', cap, cur, hv, _, hh, _⟩
  · have : A = none := by injection hv
    rw [this] at hk; cases hk
  · have hO : A = some ⟨g', 0, none⟩ := by injection hv
    rw [hO] at hk
    simp only [ob, Option.some.injEq] at hk
    subst hk
    exact ⟨_, _, hh⟩
theorem U8.grown {w w' : World} {A : Option Addr} {n : Nat} {row : Option Nat} (h : U8 w A n) (hg : w.grownBy w' row) (hr : ∀ k, row = some k → ∃ t cs fr, w.heap[k]? = some (Obj.cells cs t fr) ∧ t ≠ 5) : (∀ ad, A = some ad → 0 < n → w'.heap[ad.block]? = w.heap[ad.block]?) := fun ad hA h0 => by
  obtain ⟨cs, fr, e⟩ := h ad hA h0
  refine hg.block _ (Array.getElem?_eq_some_iff.1 e).1 fun h2 => ?_
  obtain ⟨t, cs', fr', e2, ht⟩ := hr _ h2.symm
  rw [e] at e2
  injection e2 with e2
  injection e2 with _ e3
  exact ht e3.symm
end Go.Proofs.YtahdeighocmijaaGreat
