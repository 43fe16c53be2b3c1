/- LogsSteps: the law's walk. -/
import Derived.Test.YtahdeighocmijaaGreatAwake14
namespace Go.Proofs.YtahdeighocmijaaGreat
set_option linter.unusedSimpArgs false
set_option linter.unusedVariables false
open Go.RowKit
open Crc (Bytes)

theorem tr_len_le {ds : List Dn} (h : ∀ d ∈ ds, d.raw.length ≤ 40) : (tr ds).length ≤ 50 * ds.length := by
  induction ds with
  | nil => simp [tr]
  | cons d ds ih =>
    rw [tr_cons, List.length_append, framed_len, List.length_cons]
    have h1 := h d (by simp)
    have h2 := ih fun x hx => h x (by simp [hx])
    omega
theorem lawD_raw (n : Int) : (lawD n).raw.length ≤ 40 ∧ 24 ≤ (lawD n).raw.length := by
  obtain ⟨_, _, h3, h4⟩ := lawD_right n
  rw [Dn.raw_len]; omega
/-- The first commits of numbers. -/
def lawDs (j : Nat) : List Dn := (List.range j).map fun (i : Nat) => lawD (i : Int)
theorem lawDs_succ (j : Nat) : lawDs (j + 1) = lawDs j ++ [lawD (j : Int)] := by unfold lawDs; rw [List.range_succ]; simp
theorem lawDs_ok (j : Nat) : Dns (lawDs j) := by
  induction j with
  | zero => exact Dns.nil
  | succ j ih => rw [lawDs_succ]; exact ih.snoc (lawD_right _).1 (lawD_right _).2.1
theorem lawDs_len (j : Nat) : (tr (lawDs j)).length ≤ 50 * j := by
  have := tr_len_le (ds := lawDs j) fun d hd => by
    unfold lawDs at hd
    simp only [List.mem_map, List.mem_range] at hd
    obtain ⟨i, _, rfl⟩ := hd
    exact (lawD_raw _).1
  have e : (lawDs j).length = j := by simp [lawDs]
  rw [e] at this; exact this
/-- The files ahead of the lock, from which a fix takes m steps. -/
structure ReadyS (S1 : Fs) (m : Nat) : Prop where
  ex : ∃ st S0 ds r X S' ts, S1.putF nmL [] = ((st, 0), S0) ∧ Run ds r S0 st m X S' ts ∧ ((S0.readF nmT).1 = 0 → (S0.readF nmT).2.1 = tr ds ++ r ∧ Dns ds ∧ oneF r = none ∧ (tr ds ++ r).length ≤ 100000) ∧ S'.st nmT = ts ∧ 1 ≤ ts
theorem ready_whole (j : Nat) (hj : j ≤ 7) : (fs0 1048576).putF nmT (tr (lawDs j)) = ((1, 0), (fs0 1048576).write nmT (tr (lawDs j))) ∧ ReadyS ((fs0 1048576).write nmT (tr (lawDs j))) 1 := by
  have hl := lawDs_len j
  obtain ⟨h1, h2, h3⟩ := ls_new2 1048576 (tr (lawDs j)) [] (by decide) (by decide) (by show ((tr (lawDs j)).length : Int) + (0 : Nat) ≤ 1048576; omega)
  obtain ⟨X, hX⟩ := run_whole h3
  refine ⟨h1, ⟨2, _, lawDs j, [], X, _, 1, h2, hX, fun _ => ?_, (by_of h3.t).2.1, by decide⟩⟩
  rw [readF_of nmT_ok h3.t]
  exact ⟨by simp, lawDs_ok j, rfl, by rw [List.append_nil]; omega⟩
theorem ready_cut (j : Nat) (hj : j ≤ 7) : (fs0 1048576).putF nmT (tr (lawDs j) ++ [0, 0, 0]) = ((1, 0), (fs0 1048576).write nmT (tr (lawDs j) ++ [0, 0, 0])) ∧ ReadyS ((fs0 1048576).write nmT (tr (lawDs j) ++ [0, 0, 0])) 3 := by
  have hl := lawDs_len j
  have hl2 : (tr (lawDs j) ++ [0, 0, 0]).length = (tr (lawDs j)).length + 3 := by simp
  obtain ⟨h1, h2, h3⟩ := ls_new2 1048576 (tr (lawDs j) ++ [0, 0, 0]) [] (by decide) (by decide) (by rw [hl2]; show (((tr (lawDs j)).length + 3 : Nat) : Int) + (0 : Nat) ≤ 1048576; omega)
  obtain ⟨X, S', hX, hS, hlt⟩ := run_cut h3 (by simp) (by rw [hl2]; show (((tr (lawDs j)).length + 3 : Nat) : Int) + (0 : Nat) + _ ≤ 1048576; omega)
  refine ⟨h1, ⟨2, _, lawDs j, [0, 0, 0], X, S', S'.last, h2, hX, fun _ => ?_, (by_of hS.t).2.1, (hS.ts _ rfl).1⟩⟩
  rw [readF_of nmT_ok h3.t]
  exact ⟨rfl, lawDs_ok j, oneF_short (by simp), by rw [hl2]; omega⟩
theorem ready_none : ReadyS (fs0 1048576) 3 := by
  obtain ⟨h1, h2⟩ := ls_new 1048576 [] (by decide) (by decide) (by decide)
  obtain ⟨X, S', hX, hS, hlt⟩ := run_none h2 (by decide) [] []
  refine ⟨1, _, [], [], X, S', S'.last, h1, hX, fun e => ?_, (by_of hS.t).2.1, (hS.ts _ rfl).1⟩
  rw [readF_none nmT_ok h2.t] at e; cases e
end Go.Proofs.YtahdeighocmijaaGreat
