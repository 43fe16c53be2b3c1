/- The library's functions: what they answer here. -/
import Derived.Test.YtkbgedaogfcdnaaDoorReptE
import Derived.Test.YtkbgedaogfcdnaaDoorShelf
import Derived.Lib.SlicesS
import Derived.Lib.AppendIntMem
import Derived.Lib.SmallJoins
namespace Go.Proofs.YtkbgedaogfcdnaaDoor
set_option linter.unusedSimpArgs false
set_option linter.unusedVariables false
open Go.RowKit Go.Shelf
open Crc (Bytes)
theorem itoa_env (n : Int) (h0 : -9223372036854775808 ≤ n) (h1 : n ≤ 9223372036854775807) (w : World) (h : Env w) :
    Calls Tryd.prog 29 #[.int .i64 n] w fun e w' => e = .returned (.string (T (Rep.dec n))) ∧ Below w.heap.size w w' := by
  refine (Tryd.strconv_Itoa n h0 h1 w h.tab).mono ?_
  rintro e w' ⟨rfl, k, os, rfl⟩
  exact ⟨by rw [Rep.dec_eq n h0 h1]; rfl, Lib.below_grow _ w (Nat.le_refl _) k os⟩
theorem SS.spot {w : World} {A : Option Addr} {n : Nat} {l : List (List UInt8)} (h : SS w A n l) (h0 : 0 < n) : ∃ b o, A = some ⟨b, o, none⟩ ∧ b < w.heap.size ∧ ∀ (j : Nat) (hj : j < l.length), w.cell? ⟨b, o + j, none⟩ = some (.string (T l[j])) := by
  obtain ⟨ad, h1, rfl, hc⟩ := h.get h0
  obtain ⟨b, o, sp⟩ := ad
  have hsp : sp = none := by
    have e : (Addr.add ⟨b, o, sp⟩ 0) = ⟨b, o, sp⟩ := rfl
    rw [e] at hc
    cases sp with
    | none => rfl
    | some q =>
      exfalso
      unfold World.cell? at hc
      split at hc
      · simp at hc
      · cases hc
  subst hsp
  refine ⟨b, o, rfl, World.block_lt_of_cell? _ _ hc, fun j hj => ?_⟩
  have hn := h.len
  obtain ⟨ad2, h2, e2, hc2⟩ := h.get (k := j) (by omega)
  obtain rfl := Option.some.inj e2
  rw [← hc2]
  unfold Addr.add
  by_cases hj0 : j = 0
  · subst hj0; rfl
  · rw [if_neg hj0]
theorem map_T (l : List (List UInt8)) : (l.map T).map (·.data.toList) = l := by
  rw [List.map_map]
  conv => rhs; rw [← List.map_id l]
  refine List.map_congr_left fun x _ => ?_
  exact T_data x
theorem getD_T (l : List (List UInt8)) {j : Nat} (hj : j < l.length) : (l.map T).getD j ByteArray.empty = T l[j] := by
  rw [List.getD_eq_getElem?_getD, List.getElem?_map, List.getElem?_eq_getElem hj]
  rfl
theorem join_any {w : World} (A : Option Addr) (n c : Nat) (l : List (List UInt8)) (sep : List UInt8) (h : SS w A n l) (hc : n ≤ c) (hl : (Lib.join l sep).length ≤ 140737488355328) (hn : n ≤ 140737488355328) :
    Calls Tryd.prog 30 #[.slice A n c, .string (T sep)] w fun e w' => e = .returned (.string (T (Lib.join l sep))) ∧ Below w.heap.size w w' := by
  have hlen := h.len
  by_cases h0 : n = 0
  · subst h0
    have := h.eq_nil.2 rfl
    subst this
    refine (Tryd.strings_Join_none A c (T sep) w).mono ?_
    rintro e w' ⟨rfl, rfl⟩
    exact ⟨rfl, Below.refl _ _⟩
  · obtain ⟨b, o, rfl, hb, hcell⟩ := h.spot (by omega)
    have hq := Tryd.strings_Join b o c (l.map T) (T sep) w (fun j x hx => by
      rw [List.getElem?_map, Option.map_eq_some_iff] at hx
      obtain ⟨y, hy, rfl⟩ := hx
      obtain ⟨hj, rfl⟩ := List.getElem?_eq_some_iff.1 hy
      exact hcell j hj) hb (by simp; omega) (by simp; omega) (by rw [map_T, T_data]; exact hl)
    rw [map_T, T_data, List.length_map, hlen] at hq
    exact hq
set_option maxRecDepth 100000 in
set_option maxHeartbeats 1000000 in
theorem sindexb_any (s : ByteArray) (w : World) : Calls Tryd.prog 70 #[.string s, .int .u8 32] w fun e w' => e = .returned (.int .i64 (Lib.indexByte s.data.toList 32)) ∧ w = w' := by
  go_enter Tryd.func70, Tryd.ntmps70
  go_wp2
  rw [run_callFunc_extern Tryd.func85 (by kernel_rfl) (by kernel_rfl) (by kernel_rfl) (e := Extern.BytealgIndexByte.indexByte) (by kernel_rfl), Lib.run_indexByteString]
  simp only [Result.andThen]
  rw [Oper.upon_value]
  go_wp2
  go_ret
  exact ⟨rfl, rfl⟩
set_option maxRecDepth 100000 in
set_option maxHeartbeats 1000000 in
theorem sindex_any (s : ByteArray) (w : World) : Calls Tryd.prog 62 #[.string s, .string ⟨#[32]⟩] w fun e w' => e = .returned (.int .i64 (Lib.indexByte s.data.toList 32)) ∧ w = w' := by
  by_cases h : s = ⟨#[32]⟩
  · subst h
    go_enter Tryd.func62, Tryd.ntmps62
    go_wp2_with (go_at_call 70; refine (sindexb_any _ _).mono ?_; rintro e w' ⟨rfl, rfl⟩)
    go_ret
    exact ⟨rfl, rfl⟩
  · have he : ([32] == s.toList) = false := by
      rw [beq_eq_false_iff_ne]
      intro e
      refine h (ByteArray.ext (Array.toList_inj.1 ?_))
      rw [ByteArray.toList_eq] at e
      exact e.symm
    clear h
    go_enter Tryd.func62, Tryd.ntmps62
    go_wp2_with (go_at_call 70; refine (sindexb_any _ _).mono ?_; rintro e w' ⟨rfl, rfl⟩)
    go_ret
    exact ⟨rfl, rfl⟩
theorem ssindex_any (s : ByteArray) (w : World) : Calls Tryd.prog 49 #[.string s, .string ⟨#[32]⟩] w fun e w' => e = .returned (.int .i64 (Lib.indexB s ⟨#[32]⟩)) ∧ w' = w := by
  have hq : Lib.indexB s ⟨#[32]⟩ = Lib.indexByte s.data.toList 32 := Lib.index_one _ _
  rw [hq]
  go_enter Tryd.func49, Tryd.ntmps49
  go_wp2_with fail
  refine (sindex_any s _).mono ?_
  rintro e w' ⟨rfl, rfl⟩
  go_wp2_with fail
  go_ret
  exact ⟨rfl, rfl⟩
theorem rd_pieces (w : World) (l : List (List UInt8)) (e : TypeId) : Rd (w.alloc (.cells (Lib.cellsOf (l.map T) l.length) e)) 1 (some ⟨w.heap.size, 0, none⟩) l.length (l.map sv) := by
  have h1 : Lib.cellsOf (l.map T) l.length = (l.map sv).toArray := by
    have := Lib.cellsOf_full (l.map T)
    rw [List.length_map] at this
    rw [this, List.map_map]
    rfl
  rw [h1]
  have := Rd.lit w (l.map sv).toArray e (0, 0) 1 l.length (by simp)
  simpa using this
set_option maxRecDepth 100000 in
theorem gsplit_any (l : List UInt8) (w : World) (hl : l.length ≤ 100000) :
    Calls Tryd.prog 35 #[.string (T l), .string ⟨#[32]⟩, .int .i64 0, .int .i64 (-1)] w fun e w' => e = .returned (.slice (some ⟨w.heap.size, 0, none⟩) (Rep.words l).length (Rep.words l).length) ∧ SS w' (some ⟨w.heap.size, 0, none⟩) (Rep.words l).length (Rep.words l) ∧ Below w.heap.size w w' := by
  have h1 : 1 ≤ (⟨#[32]⟩ : ByteArray).size := by decide
  have hle := Lib.countB_le ⟨#[32]⟩ h1 _ (T l) (Nat.le_refl _)
  have hsz := T_size l
  have hlen := Lib.splitB_all ⟨#[32]⟩ h1 0 _ (T l) rfl
  have hw := Rep.split_words (T l)
  rw [T_data] at hw
  have hsp : Lib.splitB ⟨#[32]⟩ 0 (Lib.countB (T l) ⟨#[32]⟩) (T l) = (Rep.words l).map T := by
    rw [← hw, List.map_map]
    conv => lhs; rw [← List.map_id (Lib.splitB ⟨#[32]⟩ 0 (Lib.countB (T l) ⟨#[32]⟩) (T l))]
    refine List.map_congr_left fun x _ => ?_
    exact (T_of x).symm
  have hn : Lib.countB (T l) ⟨#[32]⟩ + 1 = (Rep.words l).length := by rw [← hlen, hsp, List.length_map]
  have hc := Any.strings_genSplit_core (P := Tryd.prog) Tryd.lays221 (by kernel_rfl) (T l) ⟨#[32]⟩ 0 (-1) (Lib.countB (T l) ⟨#[32]⟩ + 1) w (by omega) h1 (Nat.zero_le _)
    (fun x c _ => ssindex_any x _)
    (by
      refine (Tryd.strings_Count_one (T l) 32 w).mono ?_
      rintro e w' ⟨rfl, rfl⟩
      refine ⟨?_, rfl⟩
      show _ = Ending.returned (Value.int .i64 ((Lib.count (T l).data.toList [32] : Nat) : Int))
      rw [Lib.count_one]
      rfl)
    (by decide) (by decide) (by rw [if_pos (by decide)]; omega)
  rw [Nat.add_sub_cancel, hsp, List.length_map] at hc
  refine hc.mono ?_
  rintro e w' ⟨rfl, rfl⟩
  rw [hn]
  exact ⟨rfl, ⟨rd_pieces w (Rep.words l) _, by omega⟩, (Below.refl _ _).alloc (Nat.le_refl _) _⟩
theorem split_any (l : List UInt8) (w : World) (hl : l.length ≤ 100000) :
    Calls Tryd.prog 20 #[.string (T l), .string ⟨#[32]⟩] w fun e w' => e = .returned (.slice (some ⟨w.heap.size, 0, none⟩) (Rep.words l).length (Rep.words l).length) ∧ SS w' (some ⟨w.heap.size, 0, none⟩) (Rep.words l).length (Rep.words l) ∧ Below w.heap.size w w' := by
  go_enter Tryd.func20, Tryd.ntmps20
  go_wp2_with fail
  refine (gsplit_any l _ hl).mono ?_
  rintro e w' ⟨rfl, h1, h2⟩
  have H := Lib.hid (And.intro h1 h2)
  clear h1 h2
  go_wp2_with fail
  go_ret
  exact ⟨rfl, H.out⟩
theorem idx_any {w : World} (A : Option Addr) (n c : Nat) (l : List (List UInt8)) (x : List UInt8) (h : SS w A n l) :
    Calls Tryd.prog 31 #[.slice A n c, .string (T x)] w fun e w' => e = .returned (.int .i64 (Lib.idxOfS (l.map T) (T x))) ∧ w = w' := by
  have hlen := h.len
  by_cases h0 : n = 0
  · subst h0
    have := h.eq_nil.2 rfl
    subst this
    refine (Tryd.slices_Index_string_empty A c (T x) w).mono ?_
    rintro e w' ⟨rfl, rfl⟩
    exact ⟨rfl, rfl⟩
  · obtain ⟨b, o, rfl, hb, hcell⟩ := h.spot (by omega)
    have hle := h.le
    refine (Tryd.slices_Index_string b o n c (l.map T) (T x) w (by simp; omega) (by omega) (fun j hj => ?_)).mono ?_
    · have hj' : j < l.length := by simpa using hj
      rw [hcell j hj', getD_T l hj']
    · rintro e w' ⟨rfl, rfl⟩
      rw [List.take_of_length_le (by simp; omega)]
      exact ⟨rfl, rfl⟩
theorem equal_nil {w : World} (A : Option Addr) (n c : Nat) (l : List (List UInt8)) (h : SS w A n l) :
    Calls Tryd.prog 52 #[.slice A n c, .slice none 0 0] w fun e w' => e = .returned (.bool (decide (l = []))) ∧ w = w' := by
  have hle := h.le
  have hnil := h.eq_nil
  by_cases h0 : n = 0
  · subst h0
    have hl0 := hnil.2 rfl
    subst hl0
    refine (Tryd.slices_Equal_string_empty A none c 0 0 w (by decide)).mono ?_
    rintro e w' ⟨rfl, rfl⟩
    exact ⟨rfl, rfl⟩
  · have hd : decide (l = []) = false := decide_eq_false (fun e => h0 (hnil.1 e))
    rw [hd]
    have e1 : ((n : Int) == 0) = false := by rw [beq_eq_false_iff_ne]; omega
    clear hd hnil h
    go_enter Tryd.func52, Tryd.ntmps52
    go_wp2_with fail
    go_ret
    exact ⟨rfl, rfl⟩
theorem sclone_any {w : World} (A : Option Addr) (n c : Nat) (l : List (List UInt8)) (h : SS w A n l) (hn : n ≤ 100000) :
    Calls Tryd.prog 46 #[.slice A n c] w fun e w' => (∃ A' c', e = .returned (.slice A' n c') ∧ Own w' w.heap.size 9 1 A' n c' (l.map sv)) ∧ Below w.heap.size w w' := by
  have hlen := h.len
  have hle := h.le
  have fin : ∀ v' w', w'.ownsRow w.heap.size 9 1 v' n (l.map sv) → (∃ A' c', Ending.returned v' = .returned (.slice A' n c') ∧ Own w' w.heap.size 9 1 A' n c' (l.map sv)) := by
    intro v' w' ho
    have ho' := ho
    obtain ⟨hl1, ho2⟩ := ho
    rcases ho2 with ⟨rfl, rfl⟩ | ⟨b, c', cur, rfl, h1, h2, h3, h4, h5, h6⟩
    · have := h.eq_nil.2 rfl
      subst this
      exact ⟨none, 0, rfl, Own.nil _ _ _ _⟩
    · exact ⟨some ⟨b, 0, none⟩, c', rfl, ⟨ho'⟩⟩
  by_cases h0 : n = 0
  · subst h0
    have := h.eq_nil.2 rfl
    subst this
    cases A with
    | none =>
      refine (Tryd.slices_Clone_string_nil 0 c w).mono ?_
      rintro e w' ⟨rfl, rfl⟩
      exact ⟨⟨none, 0, rfl, Own.nil _ _ _ _⟩, Below.refl _ _⟩
    | some ad =>
      refine (Tryd.slices_Clone_string_zero ad c w).mono ?_
      rintro e w' ⟨v', rfl, ho, _, hb⟩
      exact ⟨fin v' w' ho, hb⟩
  · obtain ⟨b, o, rfl, hb, hcell⟩ := h.spot (by omega)
    refine (Tryd.slices_Clone_string b o n c (l.map T) w (by simp; omega) (by omega) (fun j hj => ?_)).mono ?_
    · have hj' : j < l.length := by simpa using hj
      rw [hcell j hj', getD_T l hj']
    · rintro e w' ⟨v', rfl, ho, _, hb⟩
      rw [List.take_of_length_le (by simp; omega), List.map_map] at ho
      exact ⟨fin v' w' ho, hb⟩
theorem atoi_env (l : List UInt8) (w : World) (h : Env w) (hl : l.length ≤ 100000) :
    Calls Tryd.prog 45 #[.string (T l)] w fun e w' => (∃ v er, e = .returned (.tuple #[.int .i64 v, er]) ∧ ((Lib.atoiAll l = .ok v ∧ er = .nilIface) ∨ ((∀ n, Lib.atoiAll l ≠ .ok n) ∧ ∃ t p, er = .iface t p))) ∧ Below w.heap.size w w' := by
  have hsz := T_size l
  cases ha : Lib.atoiAll l with
  | ok v =>
    refine (Tryd.strconv_Atoi_ok (T l) (by omega) v (by rw [T_data]; exact ha) w).mono ?_
    rintro e w' ⟨rfl, hw⟩
    refine ⟨⟨v, _, rfl, .inl ⟨rfl, rfl⟩⟩, ?_⟩
    rcases hw with rfl | ⟨t, rfl⟩
    · exact Below.refl _ _
    · exact Go.Joins.below_bytesWorld _ w 5 t (Nat.le_refl _)
  | range =>
    obtain ⟨tp, p, hv⟩ := h.rng
    refine (Tryd.strconv_Atoi_range_var (T l) (by omega) (by rw [T_data]; exact ha) tp p w hv).mono ?_
    rintro e w' ⟨N, rfl, _, _, hb⟩
    exact ⟨⟨_, _, rfl, .inr ⟨(fun n e => by cases e), ⟨_, _, rfl⟩⟩⟩, hb⟩
  | _ =>
    obtain ⟨tp, p, hv⟩ := h.syn
    refine (Tryd.strconv_Atoi_syntax_var (T l) (by omega) (by rw [T_data, ha]; exact ⟨(fun v e => by cases e), (fun e => by cases e)⟩) tp p w hv).mono ?_
    rintro e w' ⟨N, rfl, _, _, hb⟩
    exact ⟨⟨_, _, rfl, .inr ⟨(fun n e => by cases e), ⟨_, _, rfl⟩⟩⟩, hb⟩
theorem ibyte16_any (c : UInt8) (w : World) : Calls Tryd.prog 56 #[.string (T Rep.dig16), .int .u8 c.toNat] w fun e w' => e = .returned (.int .i64 (Lib.indexByte Rep.dig16 c)) ∧ w = w' := by
  refine (Tryd.strings_IndexByte (T Rep.dig16) (c.toNat : Int) w).mono ?_
  rintro e w' ⟨rfl, rfl⟩
  rw [T_data]
  refine ⟨?_, rfl⟩
  rw [Int.toNat_natCast, Nat.toUInt8_eq, UInt8.ofNat_toNat]
end Go.Proofs.YtkbgedaogfcdnaaDoor
