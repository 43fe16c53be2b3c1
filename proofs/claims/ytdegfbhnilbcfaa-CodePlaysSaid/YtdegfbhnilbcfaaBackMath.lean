/- What is written is read: plain mathematics. -/
import Derived.Test.YtdegfbhnilbcfaaRead
namespace Go.Proofs.Ytdegfbhnilbcfaa
set_option linter.unusedSimpArgs false
set_option linter.unusedVariables false
open Crc (Bytes)
open Cod (six held far numOf)

def entry (raw : List Int) (m : Int) : List Int := six m ++ six (raw.length : Int) ++ raw
def msg (raw : List Int) : List Int → List Int
  | [] => []
  | m :: ws => entry raw m ++ msg raw ws
theorem msg_snoc (raw : List Int) (m : Int) : ∀ ws, msg raw (ws ++ [m]) = (msg raw ws ++ six m) ++ six (raw.length : Int) ++ raw
  | [] => by simp [msg, entry]
  | x :: ws => by rw [List.cons_append, msg, msg_snoc raw m ws, msg]; simp [List.append_assoc]
theorem msg_len (raw : List Int) : ∀ ws, (msg raw ws).length = ws.length * (12 + raw.length)
  | [] => by simp [msg]
  | x :: ws => by rw [msg, List.length_append, msg_len raw ws, List.length_cons, Nat.succ_mul]; simp [entry, six]; omega
theorem msg_bytes {raw : List Int} (hr : Bytes raw) : ∀ ws, Bytes (msg raw ws)
  | [] => fun x hx => by cases hx
  | m :: ws => bytes_app (bytes_app (bytes_app (Cod.six_bytes _) (Cod.six_bytes _)) hr) (msg_bytes hr ws)

theorem rnum_take (m : Int) (tail : List Int) (p : Nat) (top : Int) (h6 : 6 ≤ p) (ht : held m ≤ top) : rnum ((six m ++ tail).take p, false) top = (held m, (tail.take (p - 6), false)) := by
  have e : (six m ++ tail).take p = six m ++ tail.take (p - 6) := by
    rw [List.take_append, List.take_of_length_le (show (six m).length ≤ p by simpa [six] using h6)]; rfl
  rw [e, rnum_good (by simp [six]) (by rw [Cod.numOf_six]; exact ht), Cod.numOf_six]
  rfl
theorem rnum_short (l : List Int) (p : Nat) (top : Int) (h6 : p < 6) : rnum (l.take p, false) top = (0, ([], true)) := rnum_bad (.inr (.inl (by rw [List.length_take]; omega)))
theorem rnum_dead (top : Int) : rnum ([], true) top = (0, ([], true)) := rnum_bad (.inl rfl)
theorem rbytes_dead (top : Int) : rbytes ([], true) top = ([], ([], true)) := by unfold rbytes; rw [rnum_dead]; rfl
theorem rbytes_short (l : List Int) (p : Nat) (top : Int) (h6 : p < 6) : rbytes (l.take p, false) top = ([], ([], true)) := by unfold rbytes; rw [rnum_short l p top h6]; rfl
theorem held_len (raw : List Int) (h : raw.length ≤ 1099511627776) : held (raw.length : Int) = raw.length := by unfold held far; omega
theorem rbytes_take (raw tail : List Int) (p : Nat) (top : Int) (h6 : 6 ≤ p) (hr : raw.length ≤ 1099511627776) (ht : (raw.length : Int) ≤ top) :
    rbytes ((six (raw.length : Int) ++ (raw ++ tail)).take p, false) top = if p - 6 < raw.length then ([], ([], true)) else (raw, (tail.take (p - 6 - raw.length), false)) := by
  have hh := held_len raw hr
  unfold rbytes
  rw [rnum_take _ _ p top h6 (by rw [hh]; exact ht), hh]
  simp only [List.length_take, Int.toNat_natCast]
  by_cases hp : p - 6 < raw.length
  · rw [if_pos (by omega), if_pos hp]
  · have hl : (raw ++ tail).length = raw.length + tail.length := List.length_append
    rw [if_neg (by omega), if_neg hp]
    have e : (raw ++ tail).take (p - 6) = raw ++ tail.take (p - 6 - raw.length) := by
      rw [List.take_append, List.take_of_length_le (by omega)]
    rw [e]
    simp

/-- How far a reader is. -/
def St (raw ws : List Int) (whole : Bool) (k : Nat) (s : List Int × Bool) : Prop :=
  (s = ([], true) ∧ whole = false) ∨ ∃ p, s = ((msg raw (ws.drop k) ++ six 7).take p, false) ∧ p ≤ (msg raw (ws.drop k) ++ six 7).length ∧ (whole = true ↔ p = (msg raw (ws.drop k) ++ six 7).length)

theorem st_start (raw ws : List Int) (q : Nat) (hq : q ≤ (msg raw ws ++ six 7).length) : St raw ws (decide (q = (msg raw ws ++ six 7).length)) 0 ((msg raw ws ++ six 7).take q, false) :=
  .inr ⟨q, rfl, hq, by simp⟩

theorem st_pair {raw ws : List Int} {whole : Bool} {k : Nat} {s : List Int × Bool} (h : St raw ws whole k s) (hk : k < ws.length) (hr : raw.length ≤ 100) (hm : 0 ≤ ix ws k ∧ ix ws k < 4294967296) :
    St raw ws whole (k + 1) (rbytes (rnum s 1099511627776).2 100).2 ∧ ((rbytes (rnum s 1099511627776).2 100).2.2 = false → (rnum s 1099511627776).1 = ix ws k ∧ (rbytes (rnum s 1099511627776).2 100).1 = raw) := by
  rcases h with ⟨rfl, hw⟩ | ⟨p, rfl, hp, hw⟩
  · rw [rnum_dead, rbytes_dead]
    exact ⟨.inl ⟨rfl, hw⟩, fun h => by cases h⟩
  · have hd : ws.drop k = ix ws k :: ws.drop (k + 1) := by rw [ix_get hk]; exact List.drop_eq_getElem_cons hk
    have hh : held (ix ws k) = ix ws k := by unfold held far; omega
    have e : msg raw (ws.drop k) ++ six 7 = six (ix ws k) ++ (six (raw.length : Int) ++ (raw ++ (msg raw (ws.drop (k + 1)) ++ six 7))) := by
      rw [hd, msg, entry]; simp only [List.append_assoc]
    rw [e] at hp hw ⊢
    generalize hT : msg raw (ws.drop (k + 1)) ++ six 7 = T at *
    have hl : (six (ix ws k) ++ (six (raw.length : Int) ++ (raw ++ T))).length = 12 + raw.length + T.length := by simp [six]; omega
    rw [hl] at hp hw
    have bad : whole = false → St raw ws whole (k + 1) ([], true) := fun h => .inl ⟨rfl, h⟩
    by_cases h6 : p < 6
    · rw [rnum_short _ p _ h6, rbytes_dead]
      exact ⟨bad (by cases whole with | false => rfl | true => have := hw.1 rfl; omega), fun h => by cases h⟩
    · rw [rnum_take _ _ p _ (by omega) (by rw [hh]; omega), hh]
      by_cases h12 : p - 6 < 6
      · rw [rbytes_short _ _ _ h12]
        exact ⟨bad (by cases whole with | false => rfl | true => have := hw.1 rfl; omega), fun h => by cases h⟩
      · rw [rbytes_take raw T (p - 6) 100 (by omega) (by omega) (by omega)]
        by_cases hx : p - 6 - 6 < raw.length
        · rw [if_pos hx]
          exact ⟨bad (by cases whole with | false => rfl | true => have := hw.1 rfl; omega), fun h => by cases h⟩
        · rw [if_neg hx]
          refine ⟨.inr ⟨p - 6 - 6 - raw.length, by rw [hT], by rw [hT]; omega, ?_⟩, fun _ => ⟨rfl, rfl⟩⟩
          rw [hw, hT]; omega
theorem st_end {raw ws : List Int} {whole : Bool} {s : List Int × Bool} (h : St raw ws whole ws.length s) : rnum s 7 = if whole then (7, ([], false)) else (0, ([], true)) := by
  rcases h with ⟨rfl, hw⟩ | ⟨p, rfl, hp, hw⟩
  · rw [hw, rnum_dead]; rfl
  · rw [List.drop_of_length_le (Nat.le_refl _)] at hp hw ⊢
    simp only [msg, List.nil_append] at hp hw ⊢
    have h6 : (six 7).length = 6 := rfl
    cases whole with
    | false =>
      have : p ≠ 6 := fun h => by have := hw.2 (by rw [h, h6]); cases this
      rw [rnum_short _ p 7 (by omega)]; rfl
    | true =>
      have : p = 6 := by rw [hw.1 rfl, h6]
      subst this
      have := rnum_take 7 [] 6 7 (by omega) (by decide)
      rw [List.append_nil] at this
      rw [this]; rfl
end Go.Proofs.Ytdegfbhnilbcfaa
