/- Names: letter, Ok, File (by strings.Cut). -/
import Derived.Test.YtkbgedaogfcdnaaDoorProg
import Derived.Test.YtkbgedaogfcdnaaDoorMem
import Derived.Lib.Bytealg
import Derived.Lib.IndexBytes
namespace Go.Proofs.YtkbgedaogfcdnaaDoor
set_option linter.unusedSimpArgs false
set_option linter.unusedVariables false
open Go.RowKit

def letterB (c : Int) : Bool := decide (97 ≤ c ∧ c ≤ 122) || decide (48 ≤ c ∧ c ≤ 57) || decide (c = 46) || decide (c = 45) || decide (c = 95)
set_option maxHeartbeats 1000000 in
theorem letter_any (c : Int) (w : World) : Calls Tryd.prog 36 #[.int .u8 c] w fun e w' => e = .returned (.bool (letterB c)) ∧ w = w' := by
  have fin : ∀ b : Bool, letterB c = b → (Ending.returned (.bool b) = Ending.returned (.bool (letterB c))) := fun b h => by rw [h]
  by_cases h1 : 97 ≤ c ∧ c ≤ 122
  · have hb : letterB c = true := by simp [letterB, h1]
    obtain ⟨a1, a2⟩ := h1
    rw [hb]
    clear fin hb
    go_enter Tryd.func36, Tryd.ntmps36
    go_wp2
    go_ret
    exact ⟨rfl, rfl⟩
  by_cases h2 : 48 ≤ c ∧ c ≤ 57
  · have hb : letterB c = true := by simp [letterB, h2]
    obtain ⟨a1, a2⟩ := h2
    rw [hb]
    have h3 : ¬ 97 ≤ c := by omega
    clear fin hb h1
    go_enter Tryd.func36, Tryd.ntmps36
    go_wp2
    go_ret
    exact ⟨rfl, rfl⟩
  by_cases h3 : c = 46
  · subst h3
    clear fin h1 h2
    go_enter Tryd.func36, Tryd.ntmps36
    go_wp2
    go_ret
    exact ⟨rfl, rfl⟩
  by_cases h4 : c = 45
  · subst h4
    clear fin h1 h2 h3
    go_enter Tryd.func36, Tryd.ntmps36
    go_wp2
    go_ret
    exact ⟨rfl, rfl⟩
  by_cases h5 : c = 95
  · subst h5
    clear fin h1 h2 h3 h4
    go_enter Tryd.func36, Tryd.ntmps36
    go_wp2
    go_ret
    exact ⟨rfl, rfl⟩
  have hb : letterB c = false := by simp [letterB]; omega
  rw [hb]
  clear fin hb
  have e3 : (c == 46) = false := by simpa using h3
  have e4 : (c == 45) = false := by simpa using h4
  have e5 : (c == 95) = false := by simpa using h5
  have h12 : (¬ 97 ≤ c ∨ ¬ c ≤ 122) ∧ (¬ 48 ≤ c ∨ ¬ c ≤ 57) := by omega
  clear h1 h2 h3 h4 h5
  obtain ⟨p1, p2⟩ := h12
  rcases p1 with p1 | p1 <;> rcases p2 with p2 | p2
  all_goals
    by_cases q1 : 97 ≤ c
    all_goals
      by_cases q2 : 48 ≤ c
      all_goals try omega
      all_goals
        go_enter Tryd.func36, Tryd.ntmps36
        go_wp2
        go_ret
        exact ⟨rfl, rfl⟩

def okB (s : ByteArray) : Bool := s.data.toList.all (fun c => letterB c.toNat) && decide (1 ≤ s.size) && decide (s.size ≤ 16)
theorem all_step {s : ByteArray} {k : Nat} (hk : k < s.size) : (s.data.toList.take (k + 1)).all (fun c => letterB c.toNat) = ((s.data.toList.take k).all (fun c => letterB c.toNat) && letterB (s[k].toNat : Nat)) := by
  have hl : k < s.data.toList.length := by simpa using hk
  rw [List.take_succ_eq_append_getElem hl, List.all_append]
  simp
  rfl
theorem all_bad {s : ByteArray} {k : Nat} (hk : k < s.size) (h : letterB (s[k].toNat : Nat) = false) : okB s = false := by
  have hl : k < s.data.toList.length := by simpa using hk
  have : s.data.toList.all (fun c => letterB c.toNat) = false := by
    rw [List.all_eq_false]
    exact ⟨s.data.toList[k], List.getElem_mem hl, by
      have e : s.data.toList[k] = s[k] := by simp; rfl
      rw [e, h]; simp⟩
  simp [okB, this]
set_option maxHeartbeats 1000000 in
theorem ok_any (s : ByteArray) (w : World) (hs : s.size ≤ 140737488355328) : Calls Tryd.prog 21 #[.string s] w fun e w' => e = .returned (.bool (okB s)) ∧ w = w' := by
  go_enter Tryd.func21, Tryd.ntmps21
  go_wp2_with fail
  go_loopw [6] (fun i wr => ∃ k : Nat, k ≤ s.size ∧ i = .int .i64 k ∧ w = wr ∧ (s.data.toList.take k).all (fun c => letterB c.toNat) = true) (fun i _ => s.size - (intOf i).toNat)
  case atStart => exact ⟨0, by omega, rfl, rfl, by simp⟩
  case round =>
    obtain ⟨k, hk, rfl, rfl, hall⟩ := hrel
    by_cases hks : k < s.size
    · have Hall := Lib.hid hall
      clear hall
      have Hst := Lib.hid (all_step hks)
      cases hl : letterB (s[k].toNat : Nat)
      · have Hbad := Lib.hid (all_bad hks hl)
        have Hl := Lib.hid hl
        clear hl
        go_wp2_with (refine (letter_any _ _).mono ?_; rintro e w' ⟨rfl, rfl⟩; rw [Hl.out])
        go_ret
        exact ⟨by rw [Hbad.out]; rfl, rfl⟩
      · have Hl := Lib.hid hl
        clear hl
        go_wp2_with (refine (letter_any _ _).mono ?_; rintro e w' ⟨rfl, rfl⟩; rw [Hl.out])
        exact ⟨⟨k + 1, by omega, by go_num, by trivial, by rw [Hst.out, Hall.out, Hl.out]; rfl⟩, by simp [intOf]; omega⟩
    · have hks' : k = s.size := by omega
      subst hks'
      have hall' : s.data.toList.all (fun c => letterB c.toNat) = true := by
        rwa [List.take_of_length_le (by simp)] at hall
      have Hall := Lib.hid hall'
      clear hall hall' hks
      by_cases h1 : 1 ≤ s.size
      · by_cases h2 : s.size ≤ 16
        · have Hb := Lib.hid (show okB s = true by simp [okB, Hall.out, h1, h2])
          have d2 : decide ((s.size : Int) ≤ 16) = true := decide_eq_true (by omega)
          clear h2
          go_wp2_with fail
          go_ret
          exact ⟨by rw [Hb.out]; first | rfl | (rw [d2]; rfl), rfl⟩
        · have Hb := Lib.hid (show okB s = false by simp [okB, Hall.out, h2])
          have d2 : decide ((s.size : Int) ≤ 16) = false := decide_eq_false (by omega)
          clear h2
          go_wp2_with fail
          go_ret
          exact ⟨by rw [Hb.out]; first | rfl | (rw [d2]; rfl), rfl⟩
      · have Hb := Lib.hid (show okB s = false by simp [okB, Hall.out, h1])
        have h0 : s.size = 0 := by omega
        go_wp2_with fail
        go_ret
        exact ⟨by rw [Hb.out]; rfl, rfl⟩

/-- The first slash, or -1. -/
def slash (s : ByteArray) : Int := Lib.indexByte s.data.toList 47
set_option maxRecDepth 100000 in
set_option maxHeartbeats 1000000 in
theorem ibyte_any (s : ByteArray) (w : World) : Calls Tryd.prog 70 #[.string s, .int .u8 47] w fun e w' => e = .returned (.int .i64 (slash s)) ∧ w = w' := by
  go_enter Tryd.func70, Tryd.ntmps70
  go_wp2
  rw [run_callFunc_extern Tryd.func85 (by kernel_rfl) (by kernel_rfl) (by kernel_rfl) (e := Extern.BytealgIndexByte.indexByte) (by kernel_rfl), Lib.run_indexByteString]
  simp only [Result.andThen]
  rw [Oper.upon_value]
  go_wp2
  go_ret
  exact ⟨rfl, rfl⟩
set_option maxRecDepth 100000 in
set_option maxHeartbeats 1000000 in
theorem index_any (s : ByteArray) (w : World) : Calls Tryd.prog 62 #[.string s, .string ⟨#[47]⟩] w fun e w' => e = .returned (.int .i64 (slash s)) ∧ w = w' := by
  by_cases h : s = ⟨#[47]⟩
  · subst h
    go_enter Tryd.func62, Tryd.ntmps62
    go_wp2_with (go_at_call 70; refine (ibyte_any _ _).mono ?_; rintro e w' ⟨rfl, rfl⟩)
    go_ret
    exact ⟨rfl, rfl⟩
  · have he : ([47] == s.toList) = false := by
      rw [beq_eq_false_iff_ne]
      intro e
      refine h (ByteArray.ext (Array.toList_inj.1 ?_))
      rw [ByteArray.toList_eq] at e
      exact e.symm
    clear h
    go_enter Tryd.func62, Tryd.ntmps62
    go_wp2_with (go_at_call 70; refine (ibyte_any _ _).mono ?_; rintro e w' ⟨rfl, rfl⟩)
    go_ret
    exact ⟨rfl, rfl⟩
theorem slash_bd (s : ByteArray) : slash s = -1 ∨ ∃ k : Nat, slash s = (k : Int) ∧ k < s.size := by
  rcases Lib.indexByte_piece s 0 s.size 47 with h | ⟨o, h, ho⟩
  · left; simpa [slash] using h
  · right; exact ⟨o, by simpa [slash] using h, by omega⟩
/-- What stands before the first slash, what behind it, and whether there is one. -/
def cutS (s : ByteArray) : ByteArray × ByteArray × Bool := if slash s = -1 then (s, ⟨#[]⟩, false) else (s.extract 0 (slash s).toNat, s.extract ((slash s).toNat + 1) s.size, true)
theorem cutS_size (s : ByteArray) : (cutS s).1.size ≤ s.size ∧ (cutS s).2.1.size ≤ s.size := by
  unfold cutS
  split
  · exact ⟨Nat.le_refl _, Nat.zero_le _⟩
  · simp only [ByteArray.size_extract]; omega
/-- Whether a text is a file's name. -/
def fileB (s : ByteArray) : Bool := okB (cutS s).1 && (!(cutS s).2.2 || okB (cutS s).2.1)
end Go.Proofs.YtkbgedaogfcdnaaDoor
