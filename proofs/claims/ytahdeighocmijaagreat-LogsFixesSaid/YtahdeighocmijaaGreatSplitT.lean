/- Any bytes are a trace and something behind that is none (plain). -/
import Derived.Test.YtahdeighocmijaaGreatTrM
namespace Go.Proofs.YtahdeighocmijaaGreat
set_option linter.unusedSimpArgs false
set_option linter.unusedVariables false
open Go.RowKit
open Crc (Bytes)
open Cod (six held dig far numOf)
theorem six_of {l : List Int} (hb : Bytes l) (h6 : 6 ≤ l.length) (hn : numOf l ≤ 1099511627776) : l = six (numOf l) ++ l.drop 6 := by
  match l, h6 with
  | a :: b :: c :: d :: e :: f :: r, _ =>
    have ha := hb a (by simp); have hb' := hb b (by simp); have hc := hb c (by simp); have hd := hb d (by simp); have he := hb e (by simp); have hf := hb f (by simp)
    have hv : numOf (a :: b :: c :: d :: e :: f :: r) = ((((a * 256 + b) * 256 + c) * 256 + d) * 256 + e) * 256 + f := by
      unfold numOf; simp
    rw [hv] at hn ⊢
    have hh : held (((((a * 256 + b) * 256 + c) * 256 + d) * 256 + e) * 256 + f) = ((((a * 256 + b) * 256 + c) * 256 + d) * 256 + e) * 256 + f := by unfold held far; omega
    simp only [six, dig, hh, show (2 : Int) ^ (8 * 5) = 1099511627776 from rfl, show (2 : Int) ^ (8 * 4) = 4294967296 from rfl, show (2 : Int) ^ (8 * 3) = 16777216 from rfl, show (2 : Int) ^ (8 * 2) = 65536 from rfl, show (2 : Int) ^ (8 * 1) = 256 from rfl, show (2 : Int) ^ (8 * 0) = 1 from rfl, List.cons_append, List.nil_append, List.drop_succ_cons, List.drop_zero, List.cons.injEq, and_true]
    refine ⟨by omega, by omega, by omega, by omega, by omega, by omega⟩
theorem bytes_drop {l : List Int} (h : Bytes l) (k : Nat) : Bytes (l.drop k) := fun x hx => h x (List.mem_of_mem_drop hx)
theorem bytes_take {l : List Int} (h : Bytes l) (k : Nat) : Bytes (l.take k) := fun x hx => h x (List.mem_of_mem_take hx)
/-- A number that could be read is what its six bytes say. -/
theorem rnum_canon {l r : List Int} {top n : Int} {b : Bool} (hb : Bytes l) (ht : top ≤ 1099511627776) (h : rnum (l, b) top = (n, (r, false))) : b = false ∧ l = six n ++ r ∧ held n = n ∧ 0 ≤ n ∧ n ≤ top := by
  by_cases hbad : b = true ∨ l.length < 6 ∨ top < numOf l
  · rw [rnum_bad hbad] at h; cases h
  · have hb2 : b = false := by cases b; rfl; exact absurd (.inl rfl) hbad
    subst hb2
    have h6 : 6 ≤ l.length := by simp at hbad; omega
    have hn : numOf l ≤ top := by simp at hbad; omega
    rw [rnum_good h6 hn] at h
    have e1 : numOf l = n := (Prod.mk.inj h).1
    have e2 : l.drop 6 = r := (Prod.mk.inj (Prod.mk.inj h).2).1
    have h0 : 0 ≤ numOf l := by
      have := (Cod.numTo_bd hb 6 h6).1
      rwa [numTo_six] at this
    refine ⟨rfl, ?_, ?_, by omega, by omega⟩
    · rw [← e1, ← e2]; exact six_of hb h6 (by omega)
    · rw [← e1]; unfold held far; omega
theorem rbytes_canon {l x r : List Int} {top : Int} {b : Bool} (hb : Bytes l) (ht : top ≤ 1099511627776) (h : rbytes (l, b) top = (x, (r, false))) : b = false ∧ l = six x.length ++ (x ++ r) ∧ (x.length : Int) ≤ top := by
  obtain ⟨⟨n, l1, b1⟩, hn⟩ : ∃ q, rnum (l, b) top = q := ⟨_, rfl⟩
  unfold rbytes at h
  rw [hn] at h
  simp only at h
  by_cases hs : ((l1.length : Nat) : Int) < n
  · rw [if_pos hs] at h; cases h
  · rw [if_neg hs] at h
    have e1 : l1.take n.toNat = x := (Prod.mk.inj h).1
    have e2 : l1.drop n.toNat = r := (Prod.mk.inj (Prod.mk.inj h).2).1
    have e3 : b1 = false := (Prod.mk.inj (Prod.mk.inj h).2).2
    subst e3
    obtain ⟨c1, c2, c3, c4, c5⟩ := rnum_canon hb ht hn
    have hxl : (x.length : Int) = n := by rw [← e1, List.length_take]; omega
    refine ⟨c1, ?_, by omega⟩
    rw [hxl, ← e1, ← e2, List.take_append_drop]
    exact c2
/-- The bytes of a commit are its own. -/
theorem openD_canon {x : List Int} {d : Dn} (hb : Bytes x) (h : openD x = some d) : x = d.raw ∧ d.right = true ∧ Bytes d.p := by
  obtain ⟨⟨t, l1, b1⟩, e1⟩ : ∃ q, rbytes (x, false) 16 = q := ⟨_, rfl⟩
  obtain ⟨⟨p, l2, b2⟩, e2⟩ : ∃ q, rbytes (l1, b1) 4000 = q := ⟨_, rfl⟩
  obtain ⟨⟨who, l3, b3⟩, e3⟩ : ∃ q, rnum (l2, b2) 1099511627776 = q := ⟨_, rfl⟩
  obtain ⟨⟨inc, l4, b4⟩, e4⟩ : ∃ q, rnum (l3, b3) 1099511627776 = q := ⟨_, rfl⟩
  rw [openD_eq e1 e2 e3 e4] at h
  by_cases hc : (l4, b4) = ([], false) ∧ Dn.right ⟨str t, who, inc, p⟩ = true
  · rw [if_pos hc] at h
    obtain ⟨hc1, hc2⟩ := hc
    have hd := Option.some.inj h
    have f1 : l4 = [] := (Prod.mk.inj hc1).1
    have f2 : b4 = false := (Prod.mk.inj hc1).2
    subst f1 f2
    have hb3 : b3 = false := by
      cases b3 with
      | false => rfl
      | true => rw [rnum_bad (.inl rfl)] at e4; cases e4
    subst hb3
    have hb2 : b2 = false := by
      cases b2 with
      | false => rfl
      | true => rw [rnum_bad (.inl rfl)] at e3; cases e3
    subst hb2
    have hb1 : b1 = false := by
      cases b1 with
      | false => rfl
      | true => unfold rbytes at e2; rw [rnum_bad (.inl rfl)] at e2; simp at e2
    subst hb1
    have s1 := rbytes_canon hb (by decide) e1
    have hbl1 : Bytes l1 := fun y hy => hb y (by rw [s1.2.1]; simp [hy])
    have hbt : Bytes t := fun y hy => hb y (by rw [s1.2.1]; simp [hy])
    have s2 := rbytes_canon hbl1 (by decide) e2
    have hbl2 : Bytes l2 := fun y hy => hbl1 y (by rw [s2.2.1]; simp [hy])
    have hbp : Bytes p := fun y hy => hbl1 y (by rw [s2.2.1]; simp [hy])
    have s3 := rnum_canon hbl2 (by decide) e3
    have hbl3 : Bytes l3 := fun y hy => hbl2 y (by rw [s3.2.1]; simp [hy])
    have s4 := rnum_canon hbl3 (by decide) e4
    subst hd
    refine ⟨?_, hc2, hbp⟩
    unfold Dn.raw
    simp only
    rw [bl_str hbt, s1.2.1, s2.2.1, s3.2.1, s4.2.1]
    simp only [List.append_assoc, List.append_nil]
  · rw [if_neg hc] at h; cases h
/-- The bytes of a frame are its own. -/
theorem oneF_canon {b x : List Int} {s : Nat} (hb : Bytes b) (h : oneF b = some (x, s)) : b = framed x ++ b.drop s ∧ Bytes x := by
  have hl := oneF_len h
  obtain ⟨⟨y, l1, b1⟩, e1⟩ : ∃ q, rbytes (b.take (min b.length 10006), false) 10000 = q := ⟨_, rfl⟩
  unfold oneF at h
  rw [e1] at h
  simp only at h
  by_cases hb1 : b1 = true
  · rw [if_pos hb1] at h; cases h
  · rw [if_neg hb1] at h
    have hb1' : b1 = false := by cases b1; rfl; exact absurd rfl hb1
    subst hb1'
    by_cases h10 : b.length < 6 + y.length + 4
    · rw [if_pos h10] at h; cases h
    · rw [if_neg h10] at h
      by_cases hs : sum4 (b.take (6 + y.length)) = (b.drop (6 + y.length)).take 4
      · rw [if_pos hs] at h
        have e2 := Option.some.inj h
        have e3 : y = x := (Prod.mk.inj e2).1
        subst e3
        have c := rbytes_canon (bytes_take hb _) (by decide) e1
        have hy : y.length ≤ 10000 := by have := c.2.2; omega
        have htk : b.take (6 + y.length) = bod y := by
          have h1 : (b.take (min b.length 10006)).take (6 + y.length) = b.take (6 + y.length) := by rw [List.take_take]; congr 1; omega
          rw [← h1, c.2.1]
          unfold bod
          rw [← List.append_assoc, List.take_append_of_le_length (by rw [List.length_append, Cod.six_len]; exact Nat.le_refl _), List.take_of_length_le (by rw [List.length_append, Cod.six_len]; exact Nat.le_refl _)]
        refine ⟨?_, fun q hq => bytes_take hb (min b.length 10006) q (by rw [c.2.1]; simp [hq])⟩
        unfold framed
        have e5 : b.drop s = (b.drop (6 + y.length)).drop 4 := by rw [List.drop_drop]; congr 1; omega
        rw [← htk, hs, e5, List.append_assoc, List.take_append_drop, List.take_append_drop]
      · rw [if_neg hs] at h; cases h
/-- Something that is no commit. -/
def NoD (r : List Int) : Prop := oneF r = none ∨ ∃ x s, oneF r = some (x, s) ∧ openD x = none
theorem split_tr : ∀ (n : Nat) (b : List Int), b.length ≤ n → Bytes b → ∃ ds r, b = tr ds ++ r ∧ Dns ds ∧ NoD r := by
  intro n
  induction n with
  | zero =>
    intro b hb _
    have : b = [] := by cases b; rfl; simp at hb
    subst this
    exact ⟨[], [], rfl, Dns.nil, .inl rfl⟩
  | succ n ih =>
    intro b hl hb
    cases h1 : oneF b with
    | none => exact ⟨[], b, rfl, Dns.nil, .inl h1⟩
    | some q =>
      obtain ⟨x, s⟩ := q
      cases h2 : openD x with
      | none => exact ⟨[], b, rfl, Dns.nil, .inr ⟨x, s, h1, h2⟩⟩
      | some d =>
        obtain ⟨c1, c2⟩ := oneF_canon hb h1
        obtain ⟨d1, d2, d3⟩ := openD_canon c2 h2
        have hs := oneF_len h1
        obtain ⟨ds, r, e1, e2, e3⟩ := ih (b.drop s) (by rw [List.length_drop]; omega) (bytes_drop hb s)
        refine ⟨d :: ds, r, ?_, ⟨?_, ?_⟩, e3⟩
        · rw [c1, e1, d1, tr_cons, List.append_assoc]
        · intro y hy
          rcases List.mem_cons.1 hy with rfl | h
          · exact d2
          · exact e2.right y h
        · intro y hy
          rcases List.mem_cons.1 hy with rfl | h
          · exact d3
          · exact e2.by_ y h
theorem split_any {b : List Int} (hb : Bytes b) : ∃ ds r, b = tr ds ++ r ∧ Dns ds ∧ NoD r := split_tr b.length b (Nat.le_refl _) hb
end Go.Proofs.YtahdeighocmijaaGreat
