/- strconv.Itoa of small numbers; name.Temp. -/
import Derived.Test.YtahdeighocmijaaGreatDoorLockQ
namespace Go.Proofs.YtahdeighocmijaaGreatDoor
set_option linter.unusedSimpArgs false
set_option linter.unusedVariables false
open Go.RowKit

/-- A number of one digit or two. -/
def dec2 (i : Nat) : List UInt8 := if i < 10 then [UInt8.ofNat (48 + i)] else [UInt8.ofNat (48 + i / 10), UInt8.ofNat (48 + i % 10)]
def digitsB : ByteArray := ⟨#[48,49,50,51,52,53,54,55,56,57,97,98,99,100,101,102,103,104,105,106,107,108,109,110,111,112,113,114,115,116,117,118,119,120,121,122]⟩
def smallsB : ByteArray := ⟨#[48,48,48,49,48,50,48,51,48,52,48,53,48,54,48,55,48,56,48,57,49,48,49,49,49,50,49,51,49,52,49,53,49,54,49,55,49,56,49,57,50,48,50,49,50,50,50,51,50,52,50,53,50,54,50,55,50,56,50,57,51,48,51,49,51,50,51,51,51,52,51,53,51,54,51,55,51,56,51,57,52,48,52,49,52,50,52,51,52,52,52,53,52,54,52,55,52,56,52,57,53,48,53,49,53,50,53,51,53,52,53,53,53,54,53,55,53,56,53,57,54,48,54,49,54,50,54,51,54,52,54,53,54,54,54,55,54,56,54,57,55,48,55,49,55,50,55,51,55,52,55,53,55,54,55,55,55,56,55,57,56,48,56,49,56,50,56,51,56,52,56,53,56,54,56,55,56,56,56,57,57,48,57,49,57,50,57,51,57,52,57,53,57,54,57,55,57,56,57,57]⟩
theorem digits_piece : ∀ i, i < 10 → (digitsB.extract i (i + 1)).data.toList = dec2 i := by decide +kernel
theorem smalls_piece : ∀ i, i < 100 → ¬ i < 10 → (smallsB.extract (i * 2) (i * 2 + 2)).data.toList = dec2 i := by decide +kernel
set_option maxRecDepth 100000 in
set_option maxHeartbeats 2000000 in
theorem small_any (i : Nat) (h : i < 100) (w : World) : Calls Tryz.prog 109 #[.int .i64 i] w fun e w' => (∃ s : ByteArray, e = .returned (.string s) ∧ s.data.toList = dec2 i) ∧ w = w' := by
  by_cases h1 : i < 10
  · have h2 : (i : Int) < 10 := by omega
    go_enter Tryz.func109, Tryz.ntmps109
    go_wp2_with fail
    go_ret
    exact ⟨⟨_, rfl, digits_piece i h1⟩, rfl⟩
  · have h2 : ¬ (i : Int) < 10 := by omega
    go_enter Tryz.func109, Tryz.ntmps109
    go_wp2_with fail
    go_ret
    exact ⟨⟨_, rfl, smalls_piece i h h1⟩, rfl⟩
set_option maxRecDepth 100000 in
set_option maxHeartbeats 2000000 in
theorem fmtint_any (i : Nat) (h : i < 100) (w : World) : Calls Tryz.prog 87 #[.int .i64 i, .int .i64 10] w fun e w' => (∃ s : ByteArray, e = .returned (.string s) ∧ s.data.toList = dec2 i) ∧ w = w' := by
  have h0 : (0 : Int) ≤ (i : Int) := by omega
  have h1 : (i : Int) < 100 := by omega
  go_enter Tryz.func87, Tryz.ntmps87
  go_wp2_with fail
  refine (small_any i h _).mono ?_
  rintro e w' ⟨⟨s, rfl, hs⟩, rfl⟩
  go_wp2_with fail
  go_ret
  exact ⟨⟨s, rfl, hs⟩, rfl⟩
theorem itoa1_any (i : Nat) (h : i < 100) (w : World) : Calls Tryz.prog 67 #[.int .i64 i] w fun e w' => (∃ s : ByteArray, e = .returned (.string s) ∧ s.data.toList = dec2 i) ∧ w = w' := by
  go_enter Tryz.func67, Tryz.ntmps67
  go_wp2_with fail
  refine (fmtint_any i h _).mono ?_
  rintro e w' ⟨⟨s, rfl, hs⟩, rfl⟩
  go_wp2_with fail
  go_ret
  exact ⟨⟨s, rfl, hs⟩, rfl⟩
theorem itoa_any (i : Nat) (h : i < 100) (w : World) : Calls Tryz.prog 46 #[.int .i64 i] w fun e w' => (∃ s : ByteArray, e = .returned (.string s) ∧ s.data.toList = dec2 i) ∧ w = w' := by
  go_enter Tryz.func46, Tryz.ntmps46
  go_wp2_with fail
  refine (itoa1_any i h _).mono ?_
  rintro e w' ⟨⟨s, rfl, hs⟩, rfl⟩
  go_wp2_with fail
  go_ret
  exact ⟨⟨s, rfl, hs⟩, rfl⟩
theorem theld_num_any (i : Nat) (t : Int) (h : i < 100) (ht : 100 ≤ t) (w : World) : Calls Tryz.prog 45 #[.int .i64 i, .int .i64 t] w fun e w' => (∃ s : ByteArray, e = .returned (.string s) ∧ s.data.toList = dec2 i) ∧ w = w' := by
  have h1 : max (i : Int) 0 = (i : Int) := by omega
  have h2 : min (i : Int) t = (i : Int) := by omega
  go_enter Tryz.func45, Tryz.ntmps45
  go_wp2_with fail
  refine (itoa_any i h _).mono ?_
  rintro e w' ⟨⟨s, rfl, hs⟩, rfl⟩
  go_wp2_with fail
  go_ret
  exact ⟨⟨s, rfl, hs⟩, rfl⟩
def tmpOf (a b c : Nat) : ByteArray := ⟨([116, 109, 112, 47] ++ dec2 a ++ [46] ++ dec2 b ++ [46] ++ dec2 c).toArray⟩
theorem ba_ext {a b : ByteArray} (h : a.data.toList = b.data.toList) : a = b := by
  cases a; cases b
  simp only at h
  rw [Array.toList_inj.1 h]
theorem dec2_len (i : Nat) : (dec2 i).length ≤ 2 := by unfold dec2; split <;> simp
set_option maxRecDepth 100000 in
set_option maxHeartbeats 2000000 in
theorem temp_any (a b c : Nat) (ha : a < 100) (hb : b < 100) (hc : c < 100) (w : World) : Calls Tryz.prog 22 #[.int .i64 a, .int .i64 b, .int .i64 c] w fun e w' => e = .returned (.string (tmpOf a b c)) ∧ w = w' := by
  have l1 := dec2_len a
  have l2 := dec2_len b
  have l3 := dec2_len c
  go_enter Tryz.func22, Tryz.ntmps22
  go_wp2_with fail
  refine (theld_num_any a 999 ha (by decide) _).mono ?_
  rintro e w' ⟨⟨s1, rfl, hs1⟩, rfl⟩
  have z1 : s1.size ≤ 2 := by rw [← hs1] at l1; simpa using l1
  have H1 := Lib.hid hs1
  clear hs1
  go_wp2_with fail
  refine (theld_num_any b 99999 hb (by decide) _).mono ?_
  rintro e w' ⟨⟨s2, rfl, hs2⟩, rfl⟩
  have z2 : s2.size ≤ 2 := by rw [← hs2] at l2; simpa using l2
  have H2 := Lib.hid hs2
  clear hs2
  go_wp2_with fail
  refine (theld_num_any c 99999 hc (by decide) _).mono ?_
  rintro e w' ⟨⟨s3, rfl, hs3⟩, rfl⟩
  have z3 : s3.size ≤ 2 := by rw [← hs3] at l3; simpa using l3
  have H3 := Lib.hid hs3
  clear hs3
  go_wp2_with fail
  go_ret
  exact ⟨congrArg (fun s => Ending.returned (Value.string s)) (ba_ext (by unfold tmpOf; simp [H1.out, H2.out, H3.out])), rfl⟩
theorem tmp_size (a b c : Nat) : (tmpOf a b c).size ≤ 1000 := by
  have l1 := dec2_len a
  have l2 := dec2_len b
  have l3 := dec2_len c
  show (tmpOf a b c).data.size ≤ 1000
  unfold tmpOf
  simp; omega
theorem tmp_ne (a b c : Nat) : (tmpOf a b c).data.toList ≠ nmC.data.toList := by
  intro h
  unfold tmpOf nmC at h
  simp at h
theorem tmp_neL (a b c : Nat) : (tmpOf a b c).data.toList ≠ nmLk.data.toList := by
  intro h
  unfold tmpOf nmLk at h
  simp at h
theorem dec2_letters : ∀ i, i < 100 → (dec2 i).all (fun c => letterB c.toNat) = true := by decide +kernel
theorem dec2_pos (i : Nat) : 1 ≤ (dec2 i).length := by unfold dec2; split <;> simp
theorem tmp_slash (l : List UInt8) : Lib.indexByte (116 :: 109 :: 112 :: 47 :: l) 47 = 3 := by rfl
theorem tmp_ok (a b c : Nat) (ha : a < 100) (hb : b < 100) (hc : c < 100) : fileB (tmpOf a b c) = true := by
  have l1 := dec2_len a
  have l2 := dec2_len b
  have l3 := dec2_len c
  have p1 := dec2_pos a
  have hs : slash (tmpOf a b c) = 3 := by
    unfold slash tmpOf
    have := tmp_slash (dec2 a ++ [46] ++ dec2 b ++ [46] ++ dec2 c)
    simpa using this
  have hcut : cutS (tmpOf a b c) = (⟨#[116, 109, 112]⟩, ⟨(dec2 a ++ [46] ++ dec2 b ++ [46] ++ dec2 c).toArray⟩, true) := by
    unfold cutS
    rw [hs, if_neg (by decide)]
    refine Prod.ext ?_ (Prod.ext ?_ rfl)
    · refine ba_ext ?_
      unfold tmpOf
      simp
    · refine ba_ext ?_
      unfold tmpOf
      rw [ByteArray.data_extract]
      simp [ByteArray.size, Nat.add_assoc]
      exact List.take_of_length_le (by simp; omega)
  unfold fileB
  rw [hcut]
  have h1 : okB ⟨#[116, 109, 112]⟩ = true := by kernel_rfl
  have h2 : okB ⟨(dec2 a ++ [46] ++ dec2 b ++ [46] ++ dec2 c).toArray⟩ = true := by
    unfold okB
    have q : letterB 46 = true := by decide
    simp only [List.all_append, dec2_letters a ha, dec2_letters b hb, dec2_letters c hc, ByteArray.size, List.size_toArray, List.length_append, Bool.and_true, Bool.true_and, List.all_cons, List.all_nil, List.length_cons, List.length_nil]
    simp [q]
    omega
  rw [h1, h2]
  rfl
end Go.Proofs.YtahdeighocmijaaGreatDoor
