/- Traces: plain mathematics. -/
import Derived.Test.YtebplbnkjpffpaaOpenD
namespace Go.Proofs.Ytebplbnkjpffpaa
set_option linter.unusedSimpArgs false
set_option linter.unusedVariables false
open Go.RowKit
open Crc (Bytes)
open Cod (six held dig far numOf)

theorem rnum_app (m : Int) (r : List Int) (top : Int) (ht : held m ≤ top) : rnum (six m ++ r, false) top = (held m, (r, false)) := by
  rw [rnum_good (by simp [six]) (by rw [Cod.numOf_six]; exact ht), Cod.numOf_six]
  rfl
theorem held_nat (n : Nat) (h : n ≤ 1099511627776) : held (n : Int) = n := by unfold held far; omega
theorem rbytes_app (x r : List Int) (top : Int) (hx : x.length ≤ 1099511627776) (ht : (x.length : Int) ≤ top) : rbytes (six (x.length : Int) ++ (x ++ r), false) top = (x, (r, false)) := by
  unfold rbytes
  rw [rnum_app _ _ _ (by rw [held_nat _ hx]; exact ht), held_nat _ hx]
  rw [if_neg (by simp only [List.length_append]; omega)]
  simp
theorem numB_held {n : Int} (h : numB n = true) : held n = n ∧ n ≤ 1099511627776 := by
  unfold numB at h
  simp only [Bool.and_eq_true, decide_eq_true_eq] at h
  unfold held far; omega
theorem openD_raw {d : Dn} (h : d.right = true) : openD d.raw = some d := by
  obtain ⟨h1, h2, h3, h4, h5, h6⟩ := Dn.right_bd h
  have a4 := numB_held h4
  have a5 := numB_held h5
  have hl : (bl d.t).length = d.t.size := bl_len _
  have e1 : rbytes (d.raw, false) 16 = (bl d.t, (six d.p.length ++ (d.p ++ (six d.who ++ six d.inc)), false)) := by
    have := rbytes_app (bl d.t) (six d.p.length ++ (d.p ++ (six d.who ++ six d.inc))) 16 (by omega) (by omega)
    rw [← this]; unfold Dn.raw; simp only [List.append_assoc]
  have e2 := rbytes_app d.p (six d.who ++ six d.inc) 4000 (by omega) (by omega)
  have e3 := rnum_app d.who (six d.inc) 1099511627776 (by omega)
  have e4 := rnum_app d.inc [] 1099511627776 (by omega)
  rw [List.append_nil] at e4
  rw [openD_eq e1 e2 e3 e4, a4.1, a5.1, str_bl, if_pos ⟨rfl, h⟩]
theorem oneF_short {l : List Int} (h : l.length < 10) : oneF l = none := by
  unfold oneF
  split
  · rfl
  · rw [if_pos (by omega)]
theorem oneF_framed (x r : List Int) (hx : x.length ≤ 10000) : oneF (framed x ++ r) = some (x, x.length + 10) := by
  have hl : (framed x ++ r).length = 10 + x.length + r.length := by rw [List.length_append, framed_len]
  have ht : (framed x ++ r).take (min (framed x ++ r).length 10006) = six (x.length : Int) ++ (x ++ (sum4 (bod x) ++ r).take (min (framed x ++ r).length 10006 - 6 - x.length)) := by
    have e : framed x ++ r = six (x.length : Int) ++ (x ++ (sum4 (bod x) ++ r)) := by unfold framed bod; simp only [List.append_assoc]
    have h6 : (six (x.length : Int)).length = 6 := rfl
    conv => lhs; rw [e, ← e]
    rw [hl] at *
    rw [e, List.take_append, List.take_of_length_le (by omega), h6, List.take_append, List.take_of_length_le (by omega)]
  have hr := rbytes_app x ((sum4 (bod x) ++ r).take (min (framed x ++ r).length 10006 - 6 - x.length)) 10000 (by omega) (by omega)
  rw [← ht] at hr
  unfold oneF
  rw [hr]
  simp only
  rw [if_neg (by simp), if_neg (by omega)]
  have e1 : (framed x ++ r).take (6 + x.length) = bod x := by
    unfold framed
    rw [List.append_assoc, List.take_append_of_le_length (by rw [bod_len]; omega), List.take_of_length_le (by rw [bod_len]; omega)]
  have e2 : ((framed x ++ r).drop (6 + x.length)).take 4 = sum4 (bod x) := by
    unfold framed
    rw [List.append_assoc, List.drop_append_of_le_length (by rw [bod_len]; omega), List.drop_of_length_le (by rw [bod_len]; omega), List.nil_append, List.take_append_of_le_length (by rw [sum4_len]; omega), List.take_of_length_le (by rw [sum4_len]; omega)]
  rw [e1, e2, if_pos rfl]
  simp only [Option.some.injEq, Prod.mk.injEq, true_and]
  omega
theorem oneF_cut (x : List Int) (k : Nat) (hx : x.length ≤ 10000) (hk : k < x.length + 10) : oneF ((framed x).take k) = none := by
  by_cases h10 : k < 10
  · exact oneF_short (by rw [List.length_take]; omega)
  have hl : ((framed x).take k).length = k := by rw [List.length_take, framed_len]; omega
  have e : framed x = six (x.length : Int) ++ (x ++ sum4 (bod x)) := by unfold framed bod; simp only [List.append_assoc]
  have h6 : (six (x.length : Int)).length = 6 := rfl
  have e1 : ((framed x).take k).take (min k 10006) = six (x.length : Int) ++ (x ++ sum4 (bod x)).take (min k 10006 - 6) := by
    rw [List.take_take, e, List.take_append, List.take_of_length_le (by omega), h6]
    rw [show min (min k 10006) k = min k 10006 by omega]
  unfold oneF
  rw [hl, e1]
  by_cases hs : min k 10006 - 6 < x.length
  · have e2 : rbytes (six (x.length : Int) ++ (x ++ sum4 (bod x)).take (min k 10006 - 6), false) 10000 = ([], ([], true)) := by
      unfold rbytes
      rw [rnum_app _ _ _ (by rw [held_nat _ (by omega)]; omega), held_nat _ (by omega)]
      rw [if_pos (by simp only [List.length_take, List.length_append, sum4_len]; omega)]
    rw [e2]
    simp
  · have e2 := rbytes_app x ((sum4 (bod x)).take (min k 10006 - 6 - x.length)) 10000 (by omega) (by omega)
    rw [show x ++ (sum4 (bod x)).take (min k 10006 - 6 - x.length) = (x ++ sum4 (bod x)).take (min k 10006 - 6) by
      rw [List.take_append, List.take_of_length_le (l := x) (by omega)]] at e2
    rw [e2]
    simp only
    rw [if_neg (by simp), if_pos (by omega)]
/-- A trace. -/
def tr (ds : List Dn) : List Int := (ds.map fun d => framed d.raw).flatten
theorem tr_snoc (ds : List Dn) (d : Dn) : tr (ds ++ [d]) = tr ds ++ framed d.raw := by simp [tr]
theorem tr_app (a b : List Dn) : tr (a ++ b) = tr a ++ tr b := by simp [tr]
theorem tr_cons (ds : List Dn) (d : Dn) : tr (d :: ds) = framed d.raw ++ tr ds := rfl
/-- Commits that may be. -/
structure Dns (ds : List Dn) : Prop where
  right : ∀ d ∈ ds, d.right = true
  by_ : ∀ d ∈ ds, Bytes d.p
theorem Dns.nil : Dns [] := ⟨fun d h => (by cases h), fun d h => (by cases h)⟩
theorem Dns.snoc {ds : List Dn} {d : Dn} (h : Dns ds) (hr : d.right = true) (hb : Bytes d.p) : Dns (ds ++ [d]) :=
  ⟨fun x hx => by rcases List.mem_append.1 hx with h1 | h1; exact h.right x h1; simp at h1; subst h1; exact hr,
   fun x hx => by rcases List.mem_append.1 hx with h1 | h1; exact h.by_ x h1; simp at h1; subst h1; exact hb⟩
theorem tr_bytes {ds : List Dn} (h : Dns ds) : Bytes (tr ds) := by
  intro x hx
  unfold tr at hx
  rw [List.mem_flatten] at hx
  obtain ⟨l, hl, hx⟩ := hx
  rw [List.mem_map] at hl
  obtain ⟨d, hd, rfl⟩ := hl
  exact framed_bytes (Dn.raw_bytes (h.by_ d hd)) x hx
theorem Dn.raw_le {d : Dn} (h : d.right = true) : d.raw.length ≤ 10000 := by
  have := Dn.right_bd h
  rw [Dn.raw_len]; omega
/-- The frames of a trace, up to some place. -/
theorem fr_tr (r : List Int) (ds : List Dn) (hd : Dns ds) : ∀ n, n ≤ ds.length → ∃ l, Fr (tr ds ++ r) l (tr (ds.take n)).length ∧ l.map Prod.snd = (ds.take n).map Dn.raw := by
  intro n
  induction n with
  | zero => intro _; exact ⟨[], .nil, rfl⟩
  | succ n ih =>
    intro hn
    obtain ⟨l, h1, h2⟩ := ih (by omega)
    have hr : (ds[n]'(by omega)).right = true := hd.right _ (List.getElem_mem _)
    have e0 : ds.take (n + 1) = ds.take n ++ [ds[n]'(by omega)] := List.take_succ_eq_append_getElem (by omega)
    have e1 : tr ds = tr (ds.take n) ++ (framed (ds[n]'(by omega)).raw ++ tr (ds.drop (n + 1))) := by
      conv => lhs; rw [← List.take_append_drop n ds, List.drop_eq_getElem_cons (by omega)]
      exact tr_app _ _
    have e : (tr ds ++ r).drop (tr (ds.take n)).length = framed (ds[n]'(by omega)).raw ++ (tr (ds.drop (n + 1)) ++ r) := by
      conv => lhs; rw [e1]
      rw [List.append_assoc, List.drop_left, List.append_assoc]
    refine ⟨l ++ [((tr (ds.take n)).length, (ds[n]'(by omega)).raw)], ?_, by rw [e0]; simp only [List.map_append, h2]; rfl⟩
    have h3 := h1.snoc (s := (ds[n]'(by omega)).raw.length + 10) (x := (ds[n]'(by omega)).raw) (by rw [e]; exact oneF_framed _ _ (Dn.raw_le hr))
    rw [show (tr (ds.take (n + 1))).length = (tr (ds.take n)).length + ((ds[n]'(by omega)).raw.length + 10) by rw [e0, tr_snoc, List.length_append, framed_len]; omega]
    exact h3
/-- There is but one row of frames of a length. -/
theorem fr_same {b : List Int} {l : List (Nat × List Int)} {k : Nat} (h : Fr b l k) : ∀ {l' : List (Nat × List Int)} {k' : Nat}, Fr b l' k' → l.length = l'.length → l = l' ∧ k = k' := by
  induction h with
  | nil =>
    intro l' k' h2 hl
    cases h2 with
    | nil => exact ⟨rfl, rfl⟩
    | snoc => simp at hl
  | snoc h h1 ih =>
    intro l' k' h2 hl
    cases h2 with
    | nil => simp at hl
    | snoc h3 h4 =>
      simp only [List.length_append, List.length_cons, List.length_nil] at hl
      obtain ⟨rfl, rfl⟩ := ih h3 (by omega)
      rw [h1] at h4
      injection h4 with h4
      injection h4 with h5 h6
      subst h5 h6
      exact ⟨rfl, rfl⟩
theorem fr_take {b : List Int} {l : List (Nat × List Int)} {k : Nat} (h : Fr b l k) : ∀ n, n < l.length → ∃ k' x s, Fr b (l.take n) k' ∧ oneF (b.drop k') = some (x, s) := by
  induction h with
  | nil => intro n hn; simp at hn
  | snoc h h1 ih =>
    rename_i l0 k0 s0 x0
    intro n hn
    by_cases hn2 : n < l0.length
    · obtain ⟨k', x, s, h2, h3⟩ := ih n hn2
      exact ⟨k', x, s, by rw [List.take_append_of_le_length (by omega)]; exact h2, h3⟩
    · simp only [List.length_append, List.length_cons, List.length_nil] at hn
      exact ⟨k0, x0, s0, by rw [List.take_append_of_le_length (by omega), List.take_of_length_le (by omega)]; exact h, h1⟩
theorem fr_end {b : List Int} {l l' : List (Nat × List Int)} {k k' : Nat} (h : Fr b l k) (hn : oneF (b.drop k) = none) (h' : Fr b l' k') (hn' : oneF (b.drop k') = none) : l = l' ∧ k = k' := by
  rcases Nat.lt_trichotomy l.length l'.length with hl | hl | hl
  · obtain ⟨q, x, s, h1, h2⟩ := fr_take h' _ hl
    obtain ⟨_, rfl⟩ := fr_same h h1 (by rw [List.length_take]; omega)
    rw [hn] at h2; cases h2
  · exact fr_same h h' hl
  · obtain ⟨q, x, s, h1, h2⟩ := fr_take h _ hl
    obtain ⟨_, rfl⟩ := fr_same h' h1 (by rw [List.length_take]; omega)
    rw [hn'] at h2; cases h2
/-- What the frames of a trace with something behind it are. -/
theorem fr_of {ds : List Dn} {r : List Int} {l : List (Nat × List Int)} {k : Nat} (hd : Dns ds) (hr : oneF r = none) (h : Fr (tr ds ++ r) l k) (hn : oneF ((tr ds ++ r).drop k) = none) : l.map Prod.snd = ds.map Dn.raw ∧ k = (tr ds).length := by
  obtain ⟨l', h1, h2⟩ := fr_tr r ds hd ds.length (Nat.le_refl _)
  rw [List.take_length] at h1 h2
  obtain ⟨rfl, rfl⟩ := fr_end h hn h1 (by rw [List.drop_left]; exact hr)
  exact ⟨h2, rfl⟩
end Go.Proofs.Ytebplbnkjpffpaa
