/- What two builders tell has one text just if it is the same (plain). -/
import Derived.Test.YtkbgedaogfcdnaaDoorReptTo
namespace Go.Proofs.YtkbgedaogfcdnaaDoor
set_option linter.unusedSimpArgs false
set_option linter.unusedVariables false
open Go.RowKit
open Crc (Bytes)
def allL : List (List (List UInt8)) := [[], [[97]], [[98]], [[97], [97]], [[97], [98]], [[98], [97]], [[98], [98]], [[97], [97], [97]], [[97], [97], [98]], [[97], [98], [97]], [[97], [98], [98]], [[98], [97], [97]], [[98], [97], [98]], [[98], [98], [97]], [[98], [98], [98]]]
theorem names_inj : ∀ x ∈ allL, ∀ y ∈ allL, Rep.namesT x = Rep.namesT y → x = y := by decide +kernel
theorem names_sp : ∀ x ∈ allL, (32 : UInt8) ∉ Rep.namesT x := by decide +kernel
theorem names_len : ∀ x ∈ allL, (Lib.join x [44]).length ≤ 140737488355328 ∧ x.length ≤ 3 := by decide +kernel
theorem ltr_cases (p j : Nat) : ltr p j = [97] ∨ ltr p j = [98] := by
  unfold ltr
  split
  · exact .inl rfl
  · exact .inr rfl
theorem three_in (f : Nat → List UInt8) (hf : ∀ i, f i = [97] ∨ f i = [98]) (k : Nat) (hk : k < 4) : (List.range k).map f ∈ allL := by
  have h : k = 0 ∨ k = 1 ∨ k = 2 ∨ k = 3 := by omega
  rcases h with rfl | rfl | rfl | rfl
  · show ([] : List (List UInt8)) ∈ allL
    decide
  · show [f 0] ∈ allL
    rcases hf 0 with h0 | h0 <;> rw [h0] <;> decide
  · show [f 0, f 1] ∈ allL
    rcases hf 0 with h0 | h0 <;> rcases hf 1 with h1 | h1 <;> rw [h0, h1] <;> decide
  · show [f 0, f 1, f 2] ∈ allL
    rcases hf 0 with h0 | h0 <;> rcases hf 1 with h1 | h1 <;> rcases hf 2 with h2 | h2 <;> rw [h0, h1, h2] <;> decide
theorem made_in (p k : Nat) (hk : k < 4) : madeL p k ∈ allL := three_in _ (fun i => ltr_cases p (15 + i)) k hk
theorem fail_in (p k : Nat) (hk : k < 4) : failL p k ∈ allL := three_in _ (fun i => ltr_cases p (18 + i)) k hk
def wPhase : List UInt8 := [112, 104, 97, 115, 101]
def wError : List UInt8 := [101, 114, 114, 111, 114]
def wPasses : List UInt8 := [112, 97, 115, 115, 101, 115]
def wMade : List UInt8 := [109, 97, 100, 101]
def wFailed : List UInt8 := [102, 97, 105, 108, 101, 100]
def wFault : List UInt8 := [102, 97, 117, 108, 116]
theorem told_words (t : To) (made failed : List (List UInt8)) : toldT t made failed = Lib.join [wPhase, Rep.dec t.phase, wError, Rep.dec t.errno, wPasses, Rep.dec t.passes, wMade, Rep.namesT made, wFailed, Rep.namesT failed, wFault, Rep.dec t.fk, Rep.dec t.fl, Rep.dec t.fc] [32] := by
  unfold toldT
  rw [Lib.join_cons]
  simp [Lib.joinTail, wPhase, wError, wPasses, wMade, wFailed, wFault]
/-- A telling of small numbers and few names. -/
structure SmallT (t : To) (made failed : List (List UInt8)) : Prop where
  n1 : 0 ≤ t.phase ∧ t.phase ≤ 99
  n2 : 0 ≤ t.errno ∧ t.errno ≤ 99
  n3 : 0 ≤ t.passes ∧ t.passes ≤ 99
  n4 : 0 ≤ t.fk ∧ t.fk ≤ 99
  n5 : 0 ≤ t.fl ∧ t.fl ≤ 99
  n6 : 0 ≤ t.fc ∧ t.fc ≤ 99
  m : made ∈ allL
  f : failed ∈ allL
theorem told_split {t : To} {made failed : List (List UInt8)} (h : SmallT t made failed) : Rep.words (toldT t made failed) = [wPhase, Rep.dec t.phase, wError, Rep.dec t.errno, wPasses, Rep.dec t.passes, wMade, Rep.namesT made, wFailed, Rep.namesT failed, wFault, Rep.dec t.fk, Rep.dec t.fl, Rep.dec t.fc] := by
  rw [told_words]
  refine Rep.words_join _ _ ?_
  intro w hw
  have d : ∀ n : Int, 0 ≤ n ∧ n ≤ 99 → (32 : UInt8) ∉ Rep.dec n := fun n hn => Rep.dec_sp n hn.1 (by omega)
  simp only [List.mem_cons, List.not_mem_nil, or_false] at hw
  rcases hw with rfl | rfl | rfl | rfl | rfl | rfl | rfl | rfl | rfl | rfl | rfl | rfl | rfl | rfl
  · decide
  · exact d _ h.n1
  · decide
  · exact d _ h.n2
  · decide
  · exact d _ h.n3
  · decide
  · exact names_sp _ h.m
  · decide
  · exact names_sp _ h.f
  · decide
  · exact d _ h.n4
  · exact d _ h.n5
  · exact d _ h.n6
theorem dec_inj {a b : Int} (ha : 0 ≤ a ∧ a ≤ 99) (hb : 0 ≤ b ∧ b ≤ 99) (h : Rep.dec a = Rep.dec b) : a = b := by
  have h1 := Rep.num_dec a ha.1 (by omega)
  have h2 := Rep.num_dec b hb.1 (by omega)
  rw [h, h2] at h1
  exact (Option.some.inj h1).symm
theorem told_inj {t u : To} {m1 f1 m2 f2 : List (List UInt8)} (h1 : SmallT t m1 f1) (h2 : SmallT u m2 f2) :
    toldT t m1 f1 = toldT u m2 f2 ↔ (t.phase = u.phase ∧ t.errno = u.errno ∧ t.passes = u.passes ∧ (t.fk = u.fk ∧ t.fl = u.fl ∧ t.fc = u.fc) ∧ m1 = m2 ∧ f1 = f2) := by
  constructor
  · intro h
    have h := congrArg Rep.words h
    rw [told_split h1, told_split h2] at h
    simp only [List.cons.injEq, and_true, true_and] at h
    obtain ⟨a1, a2, a3, a4, a5, a6, a7, a8⟩ := h
    exact ⟨dec_inj h1.n1 h2.n1 a1, dec_inj h1.n2 h2.n2 a2, dec_inj h1.n3 h2.n3 a3, ⟨dec_inj h1.n4 h2.n4 a6, dec_inj h1.n5 h2.n5 a7, dec_inj h1.n6 h2.n6 a8⟩, names_inj _ h1.m _ h2.m a4, names_inj _ h1.f _ h2.f a5⟩
  · rintro ⟨a1, a2, a3, ⟨a6, a7, a8⟩, rfl, rfl⟩
    unfold toldT
    rw [a1, a2, a3, a6, a7, a8]
end Go.Proofs.YtkbgedaogfcdnaaDoor
