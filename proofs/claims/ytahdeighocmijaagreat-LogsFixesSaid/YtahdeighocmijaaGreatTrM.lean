/- Traces: plain mathematics. -/
import Derived.Test.YtahdeighocmijaaGreatOpenD
namespace Go.Proofs.YtahdeighocmijaaGreat
set_option linter.unusedSimpArgs false
set_option linter.unusedVariables false
open Go.RowKit
open Crc (Bytes)
open Cod (six held dig far numOf)

theorem openD_raw {d : Dn} (h : d.right = true) : openD d.raw = some d := by
  obtain ⟨h1, h2, h3, h4, h5, h6⟩ := Dn.right_bd h
  have a4 := numB_held h4
  have a5 := numB_held h5
  have hl : (bl d.t).length = d.t.size := bl_len _
  have e1 : rbytes (d.raw, false) 16 = (bl d.t, (six d.p.length ++ (d.p ++ (six d.who ++ six d.inc)), false)) := by
    have := rbytes_app (bl d.t) (six d.p.length ++ (d.p ++ (six d.who ++ six d.inc))) 16 (by omega) (by omega)
    rw [← this]; unfold Dn.raw; simp only [List.append_assoc]
  have e2 := rbytes_app d.p (six d.who ++ six d.inc) 4000 (by omega) (by omega)
  have e3 := rnum_app d.who (six d.inc) 1099511627776 (by omega)
  have e4 := rnum_app d.inc [] 1099511627776 (by omega)
  rw [List.append_nil] at e4
  rw [openD_eq e1 e2 e3 e4, a4.1, a5.1, str_bl, if_pos ⟨rfl, h⟩]
/-- A trace. -/
def tr (ds : List Dn) : List Int := (ds.map fun d => framed d.raw).flatten
theorem tr_snoc (ds : List Dn) (d : Dn) : tr (ds ++ [d]) = tr ds ++ framed d.raw := by simp [tr]
theorem tr_app (a b : List Dn) : tr (a ++ b) = tr a ++ tr b := by simp [tr]
theorem tr_cons (ds : List Dn) (d : Dn) : tr (d :: ds) = framed d.raw ++ tr ds := rfl
/-- Commits that may be. -/
structure Dns (ds : List Dn) : Prop where
  right : ∀ d ∈ ds, d.right = true
  by_ : ∀ d ∈ ds, Bytes d.p
theorem Dns.nil : Dns [] := ⟨fun d h => (by cases h), fun d h => (by cases h)⟩
theorem Dns.snoc {ds : List Dn} {d : Dn} (h : Dns ds) (hr : d.right = true) (hb : Bytes d.p) : Dns (ds ++ [d]) :=
  ⟨fun x hx => by rcases List.mem_append.1 hx with h1 | h1; exact h.right x h1; simp at h1; subst h1; exact hr,
   fun x hx => by rcases List.mem_append.1 hx with h1 | h1; exact h.by_ x h1; simp at h1; subst h1; exact hb⟩
theorem tr_bytes {ds : List Dn} (h : Dns ds) : Bytes (tr ds) := by
  intro x hx
  unfold tr at hx
  rw [List.mem_flatten] at hx
  obtain ⟨l, hl, hx⟩ := hx
  rw [List.mem_map] at hl
  obtain ⟨d, hd, rfl⟩ := hl
  exact framed_bytes (Dn.raw_bytes (h.by_ d hd)) x hx
theorem Dn.raw_le {d : Dn} (h : d.right = true) : d.raw.length ≤ 10000 := by
  have := Dn.right_bd h
  rw [Dn.raw_len]; omega
/-- The frames of a trace, up to some place. -/
theorem fr_tr (r : List Int) (ds : List Dn) (hd : Dns ds) : ∀ n, n ≤ ds.length → ∃ l, Fr (tr ds ++ r) l (tr (ds.take n)).length ∧ l.map Prod.snd = (ds.take n).map Dn.raw := by
  intro n
  induction n with
  | zero => intro _; exact ⟨[], .nil, rfl⟩
  | succ n ih =>
    intro hn
    obtain ⟨l, h1, h2⟩ := ih (by omega)
    have hr : (ds[n]'(by omega)).right = true := hd.right _ (List.getElem_mem _)
    have e0 : ds.take (n + 1) = ds.take n ++ [ds[n]'(by omega)] := List.take_succ_eq_append_getElem (by omega)
    have e1 : tr ds = tr (ds.take n) ++ (framed (ds[n]'(by omega)).raw ++ tr (ds.drop (n + 1))) := by
      conv => lhs; rw [← List.take_append_drop n ds, List.drop_eq_getElem_cons (by omega)]
      exact tr_app _ _
    have e : (tr ds ++ r).drop (tr (ds.take n)).length = framed (ds[n]'(by omega)).raw ++ (tr (ds.drop (n + 1)) ++ r) := by
      conv => lhs; rw [e1]
      rw [List.append_assoc, List.drop_left, List.append_assoc]
    refine ⟨l ++ [((tr (ds.take n)).length, (ds[n]'(by omega)).raw)], ?_, by rw [e0]; simp only [List.map_append, h2]; rfl⟩
    have h3 := h1.snoc (s := (ds[n]'(by omega)).raw.length + 10) (x := (ds[n]'(by omega)).raw) (by rw [e]; exact oneF_framed _ _ (Dn.raw_le hr))
    rw [show (tr (ds.take (n + 1))).length = (tr (ds.take n)).length + ((ds[n]'(by omega)).raw.length + 10) by rw [e0, tr_snoc, List.length_append, framed_len]; omega]
    exact h3
/-- What the frames of a trace with something behind it are. -/
theorem fr_of {ds : List Dn} {r : List Int} {l : List (Nat × List Int)} {k : Nat} (hd : Dns ds) (hr : oneF r = none) (h : Fr (tr ds ++ r) l k) (hn : oneF ((tr ds ++ r).drop k) = none) : l.map Prod.snd = ds.map Dn.raw ∧ k = (tr ds).length := by
  obtain ⟨l', h1, h2⟩ := fr_tr r ds hd ds.length (Nat.le_refl _)
  rw [List.take_length] at h1 h2
  obtain ⟨rfl, rfl⟩ := fr_end h hn h1 (by rw [List.drop_left]; exact hr)
  exact ⟨h2, rfl⟩
end Go.Proofs.YtahdeighocmijaaGreat
