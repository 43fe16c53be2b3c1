/- Texts of events and tellings: words, numbers, hex, options; what is read is what was told (plain). -/
import Derived.Lib.Join
import Derived.Lib.AtoiAll
import Derived.Lib.ItoaNum
import Derived.Lib.SplitLaws
namespace Go.Proofs.YtkbgedaogfcdnaaDoor
namespace Rep
set_option linter.unusedSimpArgs false
set_option linter.unusedVariables false
open Go

/-! Words. -/
def words : List UInt8 → List (List UInt8)
  | [] => [[]]
  | c :: r => if c = 32 then [] :: words r else (c :: (words r).headD []) :: (words r).tail
theorem words_app : ∀ (p r : List UInt8), 32 ∉ p → words (p ++ 32 :: r) = p :: words r
  | [], r, _ => by simp [words]
  | c :: p, r, h => by
    have hc : c ≠ 32 := fun e => h (by simp [e])
    have ih := words_app p r (fun hm => h (List.mem_cons_of_mem _ hm))
    rw [List.cons_append, words, if_neg hc, ih]
    rfl
theorem words_one : ∀ (p : List UInt8), 32 ∉ p → words p = [p]
  | [], _ => rfl
  | c :: p, h => by
    have hc : c ≠ 32 := fun e => h (by simp [e])
    rw [words, if_neg hc, words_one p (fun hm => h (List.mem_cons_of_mem _ hm))]
    rfl
theorem words_join : ∀ (r : List (List UInt8)) (x : List UInt8), (∀ w ∈ x :: r, 32 ∉ w) → words (Lib.join (x :: r) [32]) = x :: r
  | [], x, h => by rw [Lib.join_one]; exact words_one x (h x (by simp))
  | y :: r, x, h => by
    have e : Lib.join (x :: y :: r) [32] = x ++ 32 :: Lib.join (y :: r) [32] := by
      rw [Lib.join_cons, Lib.join_cons]; simp [Lib.joinTail]
    rw [e, words_app x _ (h x (by simp)), words_join r y (fun w hw => h w (List.mem_cons_of_mem _ hw))]
theorem index_nil : Lib.index [] [32] = -1 := rfl
theorem index_hit (l : List UInt8) : Lib.index (32 :: l) [32] = 0 := by rw [Lib.index]; simp [List.isPrefixOf]
theorem index_ne (c : UInt8) (l : List UInt8) (h : c ≠ 32) : Lib.index (c :: l) [32] = if Lib.index l [32] == -1 then -1 else Lib.index l [32] + 1 := by
  have hp : ([32] : List UInt8).isPrefixOf (c :: l) = false := by simp [List.isPrefixOf, Ne.symm h]
  rw [Lib.index, hp]; simp
theorem splitK_words : ∀ (l : List UInt8) (k : Nat), l.count 32 ≤ k → Lib.splitK [32] 0 k l = words l
  | [], 0, _ => rfl
  | [], k + 1, _ => by rw [Lib.splitK, index_nil]; rfl
  | c :: l, k, h => by
    by_cases hc : c = 32
    · subst hc
      rw [List.count_cons_self] at h
      obtain ⟨j, rfl⟩ : ∃ j, k = j + 1 := ⟨k - 1, by omega⟩
      rw [Lib.splitK, index_hit, words, if_pos rfl, ← splitK_words l j (by omega)]
      simp
    · rw [List.count_cons_of_ne (by simpa using hc)] at h
      have ih := splitK_words l k h
      rw [words, if_neg hc, ← ih]
      cases k with
      | zero => rfl
      | succ k =>
        rw [Lib.splitK, Lib.splitK, index_ne c l hc]
        by_cases hi : Lib.index l [32] = -1
        · rw [hi]; rfl
        · have hge := Lib.index_ge l [32]
          obtain ⟨j, hj⟩ : ∃ j : Nat, Lib.index l [32] = j := ⟨(Lib.index l [32]).toNat, by omega⟩
          rw [hj]
          have e1 : (((j : Nat) : Int) == -1) = false := by rw [beq_eq_false_iff_ne]; omega
          have e2 : ((((j : Nat) : Int) + 1) == -1) = false := by rw [beq_eq_false_iff_ne]; omega
          have e3 : (((j : Nat) : Int) + 1).toNat = j + 1 := by omega
          simp [e1, e2, e3]
theorem split_words (s : ByteArray) : (Lib.splitB ⟨#[32]⟩ 0 (Lib.countB s ⟨#[32]⟩) s).map (·.data.toList) = words s.data.toList := by
  rw [Lib.splitB_data]
  refine splitK_words _ _ ?_
  show _ ≤ Lib.count _ _
  rw [show (⟨#[32]⟩ : ByteArray).data.toList = [32] from rfl, Lib.count_one]
  exact Nat.le_refl _

/-! Numbers. -/
def digs : Nat → Nat → List UInt8
  | 0, _ => []
  | f + 1, u => if u < 10 then [UInt8.ofNat (48 + u)] else digs f (u / 10) ++ [UInt8.ofNat (48 + u % 10)]
theorem digs_eq : ∀ (f u : Nat), u < 10 ^ (f + 1) → digs (f + 1) u = Lib.decDigits u
  | 0, u, h => by rw [digs, if_pos (by simpa using h), Lib.decDigits, dif_pos (by simpa using h)]
  | f + 1, u, h => by
    rw [digs, Lib.decDigits]
    by_cases hu : u < 10
    · rw [if_pos hu, dif_pos hu]
    · rw [if_neg hu, dif_neg hu, digs_eq f (u / 10) (by rw [Nat.pow_succ] at h; omega)]
def dec (n : Int) : List UInt8 := if n < 0 then 45 :: digs 20 n.natAbs else digs 20 n.toNat
theorem dec_eq (n : Int) (h0 : -9223372036854775808 ≤ n) (h1 : n ≤ 9223372036854775807) : Lib.itoa n = dec n := by
  unfold Lib.itoa dec
  rw [digs_eq 19 _ (by omega), digs_eq 19 _ (by omega)]
theorem dec_nat (u : Nat) (h : u < 100000000000000000000) : dec u = Lib.decDigits u := by
  unfold dec
  rw [if_neg (by omega), digs_eq 19 _ (by omega)]
  rfl
theorem digit_mem (u : Nat) : ∀ c ∈ Lib.decDigits u, 48 ≤ c.toNat ∧ c.toNat ≤ 57 := by
  induction u using Nat.strongRecOn with
  | _ u ih =>
    intro c hc
    have one : ∀ d, d < 10 → 48 ≤ (UInt8.ofNat (48 + d)).toNat ∧ (UInt8.ofNat (48 + d)).toNat ≤ 57 := fun d hd => by
      rw [UInt8.toNat_ofNat']
      omega
    rw [Lib.decDigits] at hc
    by_cases hu : u < 10
    · rw [dif_pos hu] at hc
      have : c = UInt8.ofNat (48 + u) := by simpa using hc
      rw [this]; exact one u hu
    · rw [dif_neg hu] at hc
      rcases List.mem_append.1 hc with hc | hc
      · exact ih (u / 10) (by omega) c hc
      · have : c = UInt8.ofNat (48 + u % 10) := by simpa using hc
        rw [this]; exact one _ (by omega)
theorem digits_ne (u : Nat) : Lib.decDigits u ≠ [] := by
  rw [Lib.decDigits]
  by_cases hu : u < 10
  · rw [dif_pos hu]; simp
  · rw [dif_neg hu]; simp
theorem parse_app : ∀ (l r : List UInt8) (acc v : Nat), Lib.parseUint10 acc l = .ok v → Lib.parseUint10 acc (l ++ r) = Lib.parseUint10 v r
  | [], r, acc, v, h => by
    simp only [Lib.parseUint10] at h
    injection h with h
    subst h
    rfl
  | c :: l, r, acc, v, h => by
    rw [List.cons_append, Lib.parseUint10]
    rw [Lib.parseUint10] at h
    split at h
    · split at h
      · cases h
      · split at h
        · cases h
        · rename_i h1 h2 h3
          rw [if_pos h1, if_neg h2, if_neg h3]
          exact parse_app l r _ v h
    · cases h
theorem parse_dec (u : Nat) (h : u < 1000000000000000000) : Lib.parseUint10 0 (Lib.decDigits u) = .ok u := by
  induction u using Nat.strongRecOn with
  | _ u ih =>
    have one : ∀ d, d < 10 → (UInt8.ofNat (48 + d)).toNat = 48 + d := fun d hd => by rw [UInt8.toNat_ofNat']; omega
    rw [Lib.decDigits]
    by_cases hu : u < 10
    · rw [dif_pos hu, Lib.parseUint10, one u hu, if_pos (by omega), if_neg (by omega), if_neg (by omega), Lib.parseUint10]
      congr 1
      omega
    · rw [dif_neg hu, parse_app _ _ _ _ (ih (u / 10) (by omega) (by omega)), Lib.parseUint10, one _ (by omega), if_pos (by omega), if_neg (by omega), if_neg (by omega), Lib.parseUint10]
      congr 1
      omega
def numP (l : List UInt8) : Option Int :=
  match Lib.atoiAll l with
  | .ok n => if n < 0 ∨ dec n ≠ l ∨ 9 < l.length then none else some n
  | _ => none
theorem dec_len (u k : Nat) (h : u < 10 ^ (k + 1)) : (Lib.decDigits u).length ≤ k + 1 := by
  induction k generalizing u with
  | zero => rw [Lib.decDigits, dif_pos (by simpa using h)]; simp
  | succ k ih =>
    rw [Lib.decDigits]
    by_cases hu : u < 10
    · rw [dif_pos hu]; simp
    · rw [dif_neg hu, List.length_append]
      have := ih (u / 10) (by rw [Nat.pow_succ] at h; omega)
      simpa using this
theorem num_dec (n : Int) (h0 : 0 ≤ n) (h1 : n ≤ 999999999) : numP (dec n) = some n := by
  obtain ⟨u, rfl⟩ : ∃ u : Nat, n = u := ⟨n.toNat, by omega⟩
  have hd := dec_nat u (by omega)
  have ha : Lib.atoiAll (Lib.decDigits u) = .ok (u : Int) := by
    have hne := digits_ne u
    have hm := digit_mem u
    have hp := parse_dec u (by omega)
    revert hne hm hp
    cases Lib.decDigits u with
    | nil => intro h; exact absurd rfl h
    | cons c r =>
      intro _ hm hp
      have hc := hm c (by simp)
      unfold Lib.atoiAll
      simp only
      rw [if_neg (by omega), Lib.parseMag, if_neg (by simp), hp]
      simp only
      rw [if_neg (by omega), if_neg (by omega), if_neg (by omega)]
  have hl := dec_len u 8 (by omega)
  unfold numP
  rw [hd, ha]
  simp only
  rw [if_neg]
  rw [hd]
  intro h
  rcases h with h | h | h
  · omega
  · exact h rfl
  · omega
theorem num_some {l : List UInt8} {n : Int} (h : numP l = some n) : 0 ≤ n ∧ n ≤ 999999999 ∧ dec n = l := by
  unfold numP at h
  split at h
  · split at h
    · cases h
    · rename_i m hm hc
      injection h with h
      subst h
      have h0 : 0 ≤ m := by omega
      have hd : dec m = l := Classical.byContradiction fun e => hc (.inr (.inl e))
      have hl : l.length ≤ 9 := by omega
      refine ⟨h0, ?_, hd⟩
      obtain ⟨u, rfl⟩ : ∃ u : Nat, m = u := ⟨m.toNat, by omega⟩
      have hb : u < 9223372036854775808 := by
        unfold Lib.atoiAll at hm
        split at hm
        · cases hm
        · rename_i c r
          simp only at hm
          split at hm
          · cases hm
          · cases hm
          · split at hm
            · cases hm
            · split at hm
              · cases hm
              · rename_i v _ h1 h2
                injection hm with hm
                by_cases hneg : c.toNat = 45
                · rw [if_pos hneg] at hm; omega
                · rw [if_neg hneg] at hm
                  omega
      rw [dec_nat u (by omega)] at hd
      have h3 := Lib.lt_pow_nDigits u
      rw [← Lib.decDigits_length, hd] at h3
      have h4 : 10 ^ l.length ≤ 10 ^ 9 := Nat.pow_le_pow_right (by decide) hl
      omega
  · cases h
theorem dec_sp (n : Int) (h0 : 0 ≤ n) (h1 : n ≤ 999999999) : (32 : UInt8) ∉ dec n := by
  obtain ⟨u, rfl⟩ : ∃ u : Nat, n = u := ⟨n.toNat, by omega⟩
  rw [dec_nat u (by omega)]
  intro h
  have := digit_mem u _ h
  revert this
  decide
theorem dec_ne (n : Int) (h0 : 0 ≤ n) (h1 : n ≤ 999999999) : dec n ≠ [] := by
  obtain ⟨u, rfl⟩ : ∃ u : Nat, n = u := ⟨n.toNat, by omega⟩
  rw [dec_nat u (by omega)]
  exact digits_ne u

/-! Hex. -/
def hx (x : Nat) : UInt8 := if x < 10 then UInt8.ofNat (48 + x) else UInt8.ofNat (87 + x)
def dig16 : List UInt8 := [48, 49, 50, 51, 52, 53, 54, 55, 56, 57, 97, 98, 99, 100, 101, 102]
def hexL (l : List Int) : List UInt8 := l.flatMap fun x => [hx (x.toNat / 16), hx (x.toNat % 16)]
def hexT (l : List Int) : List UInt8 := if l = [] then [45] else hexL l
def nib (c : UInt8) : Nat := (Lib.indexByte dig16 c).toNat
def unhexP : List UInt8 → List Int
  | a :: b :: r => ((nib a * 16 + nib b : Nat) : Int) :: unhexP r
  | _ => []
theorem nib_hx : ∀ x, x < 16 → nib (hx x) = x := by decide +kernel
theorem hx_ok : ∀ x, x < 16 → hx x ≠ 32 ∧ hx x ≠ 45 := by decide +kernel
theorem nib_lt : ∀ k : Nat, k < 256 → nib (UInt8.ofNat k) < 16 := by decide +kernel
theorem unhex_hex : ∀ (l : List Int), (∀ x ∈ l, 0 ≤ x ∧ x ≤ 255) → unhexP (hexL l) = l
  | [], _ => rfl
  | x :: l, h => by
    have hx' := h x (by simp)
    have ih := unhex_hex l (fun y hy => h y (List.mem_cons_of_mem _ hy))
    have e : hexL (x :: l) = hx (x.toNat / 16) :: hx (x.toNat % 16) :: hexL l := rfl
    rw [e, unhexP, ih, nib_hx _ (by omega), nib_hx _ (by omega)]
    congr 1
    omega
theorem hexL_sp : ∀ (l : List Int), (∀ x ∈ l, 0 ≤ x ∧ x ≤ 255) → ∀ c ∈ hexL l, c ≠ 32 ∧ c ≠ 45
  | [], _, c, hc => by simp [hexL] at hc
  | x :: l, h, c, hc => by
    have hx' := h x (by simp)
    have e : hexL (x :: l) = hx (x.toNat / 16) :: hx (x.toNat % 16) :: hexL l := rfl
    rw [e] at hc
    rcases List.mem_cons.1 hc with rfl | hc
    · exact hx_ok _ (by omega)
    rcases List.mem_cons.1 hc with rfl | hc
    · exact hx_ok _ (by omega)
    exact hexL_sp l (fun y hy => h y (List.mem_cons_of_mem _ hy)) c hc
theorem hexL_len (l : List Int) : (hexL l).length = 2 * l.length := by
  induction l with
  | nil => rfl
  | cons x l ih =>
    have e : hexL (x :: l) = hx (x.toNat / 16) :: hx (x.toNat % 16) :: hexL l := rfl
    rw [e]; simp only [List.length_cons, ih]; omega
theorem hexT_sp (l : List Int) (h : ∀ x ∈ l, 0 ≤ x ∧ x ≤ 255) : (32 : UInt8) ∉ hexT l := by
  unfold hexT
  split
  · decide
  · intro hm; exact (hexL_sp l h _ hm).1 rfl
theorem unhexP_by : ∀ (l : List UInt8), ∀ x ∈ unhexP l, 0 ≤ x ∧ x ≤ 255
  | [], x, hx => by simp [unhexP] at hx
  | [a], x, hx => by simp [unhexP] at hx
  | a :: b :: r, x, hx => by
    rw [unhexP] at hx
    rcases List.mem_cons.1 hx with rfl | hx
    · have ha := nib_lt a.toNat a.toNat_lt
      have hb := nib_lt b.toNat b.toNat_lt
      rw [UInt8.ofNat_toNat] at ha hb
      omega
    · exact unhexP_by r x hx
theorem unhexP_len : ∀ (l : List UInt8), (unhexP l).length = l.length / 2
  | [] => rfl
  | [a] => by simp [unhexP]
  | a :: b :: r => by rw [unhexP, List.length_cons, unhexP_len r, List.length_cons, List.length_cons]; omega

/-! Names, options. -/
def letterL (c : UInt8) : Bool := decide (97 ≤ c.toNat ∧ c.toNat ≤ 122) || decide (48 ≤ c.toNat ∧ c.toNat ≤ 57) || decide (c.toNat = 46) || decide (c.toNat = 45) || decide (c.toNat = 95)
def okL (l : List UInt8) : Bool := l.all letterL && decide (1 ≤ l.length) && decide (l.length ≤ 16)
theorem ok_sp {l : List UInt8} (h : okL l = true) : (32 : UInt8) ∉ l := by
  unfold okL at h
  simp only [Bool.and_eq_true, decide_eq_true_eq, List.all_eq_true] at h
  intro hm
  have := h.1.1 _ hm
  revert this
  decide
theorem ok_ne {l : List UInt8} (h : okL l = true) : l ≠ [] := by
  unfold okL at h
  simp only [Bool.and_eq_true, decide_eq_true_eq] at h
  intro e
  rw [e] at h
  simp at h
def wDry : List UInt8 := [100, 114, 121]
def wFast : List UInt8 := [102, 97, 115, 116]
def wClean : List UInt8 := [99, 108, 101, 97, 110]
def wTo : List UInt8 := [116, 111]
structure Op where
  dry : Bool
  fast : Bool
  clean : Bool
  names : List (List UInt8)
  deriving DecidableEq
def op0 : Op := ⟨false, false, false, []⟩
def Op.words (o : Op) : List (List UInt8) := (if o.dry then [wDry] else []) ++ (if o.fast then [wFast] else []) ++ (if o.clean then [wClean] else []) ++ (if o.names = [] then [] else wTo :: o.names)
def Op.good (o : Op) : Bool := decide (o.names.length ≤ 8) && o.names.all okL
def Op.text (o : Op) : List UInt8 := if o.good then Lib.join o.words [32] else []
def optLoop : List (List UInt8) → Op → Op
  | [], o => o
  | x :: r, o => if x = wTo then { o with names := r } else optLoop r (if x = wDry then { o with dry := true } else if x = wFast then { o with fast := true } else if x = wClean then { o with clean := true } else o)
def optParse (s : List UInt8) : Option Op :=
  let o := optLoop (if s = [] then [] else words s) op0
  if o.text = s then some o else none
theorem words_sp {o : Op} (h : o.good = true) : ∀ w ∈ o.words, (32 : UInt8) ∉ w ∧ w ≠ [] := by
  intro w hw
  unfold Op.good at h
  simp only [Bool.and_eq_true, decide_eq_true_eq, List.all_eq_true] at h
  unfold Op.words at hw
  simp only [List.mem_append] at hw
  rcases hw with ((hw | hw) | hw) | hw
  · split at hw
    · have : w = wDry := by simpa using hw
      subst this; decide
    · cases hw
  · split at hw
    · have : w = wFast := by simpa using hw
      subst this; decide
    · cases hw
  · split at hw
    · have : w = wClean := by simpa using hw
      subst this; decide
    · cases hw
  · split at hw
    · cases hw
    · rcases List.mem_cons.1 hw with rfl | hw
      · decide
      · exact ⟨ok_sp (h.2 w hw), ok_ne (h.2 w hw)⟩
theorem loop_words (o : Op) : optLoop o.words op0 = o := by
  obtain ⟨d, f, c, l⟩ := o
  have n1 : wDry ≠ wTo := by decide
  have n2 : wFast ≠ wTo := by decide
  have n3 : wClean ≠ wTo := by decide
  have n4 : wFast ≠ wDry := by decide
  have n5 : wClean ≠ wDry := by decide
  have n6 : wClean ≠ wFast := by decide
  by_cases hl : l = []
  · subst hl
    cases d <;> cases f <;> cases c <;> simp [Op.words, optLoop, op0, n1, n2, n3, n4, n5, n6]
  · cases d <;> cases f <;> cases c <;> simp [Op.words, optLoop, op0, hl, n1, n2, n3, n4, n5, n6]
theorem text_words {o : Op} (h : o.good = true) : (if o.text = [] then [] else words o.text) = o.words := by
  unfold Op.text
  rw [if_pos h]
  have hw := words_sp h
  cases he : o.words with
  | nil => rfl
  | cons x r =>
    rw [he] at hw
    have hne : Lib.join (x :: r) [32] ≠ [] := by
      rw [Lib.join_cons]
      intro e
      exact (hw x (by simp)).2 (List.append_eq_nil_iff.1 e).1
    rw [if_neg hne]
    exact words_join r x fun w hm => (hw w hm).1
theorem opt_text {o : Op} (h : o.good = true) : optParse o.text = some o := by
  unfold optParse
  rw [text_words h, loop_words, if_pos rfl]

/-! Events. -/
structure Ev where
  kind : Int
  who : Int
  n : Int
  name : List UInt8
  bytes : List Int
  o : Op
  deriving DecidableEq
def ev0 : Ev := ⟨0, 0, 0, [], [], op0⟩
def wStart : List UInt8 := [115, 116, 97, 114, 116]
def wStep : List UInt8 := [115, 116, 101, 112]
def wKill : List UInt8 := [107, 105, 108, 108]
def wCut : List UInt8 := [99, 117, 116]
def wTick : List UInt8 := [116, 105, 99, 107]
def wEdit : List UInt8 := [101, 100, 105, 116]
def wRemove : List UInt8 := [114, 101, 109, 111, 118, 101]
def wRoom : List UInt8 := [114, 111, 111, 109]
def startT (e : Ev) : List UInt8 := if e.o.text ≠ [] then wStart ++ 32 :: dec e.who ++ 32 :: e.o.text else if e.o ≠ op0 then [] else wStart ++ 32 :: dec e.who
def evT (e : Ev) : List UInt8 :=
  if e.kind = 1 then startT e
  else if e.kind = 2 then wStep ++ 32 :: dec e.who
  else if e.kind = 3 then wKill ++ 32 :: dec e.who
  else if e.kind = 4 then wCut ++ 32 :: dec e.n
  else if e.kind = 5 then wTick ++ 32 :: dec e.n
  else if e.kind = 6 then (if okL e.name then wEdit ++ 32 :: e.name ++ 32 :: hexT e.bytes else [])
  else if e.kind = 7 then (if okL e.name then wRemove ++ 32 :: e.name else [])
  else if e.kind = 8 then wRoom ++ 32 :: dec e.n
  else []
def kindNo (w : List UInt8) : Int := if w = wStart then 1 else if w = wStep then 2 else if w = wKill then 3 else if w = wCut then 4 else if w = wTick then 5 else if w = wEdit then 6 else if w = wRemove then 7 else if w = wRoom then 8 else 0
def bytesOf : List (List UInt8) → List Int
  | y :: _ => if y = [45] then [] else unhexP y
  | [] => []
def readP : List (List UInt8) → Ev × Bool
  | [] => (ev0, false)
  | [w] => ({ ev0 with kind := kindNo w }, false)
  | w :: x :: r =>
    if kindNo w = 6 then ({ ev0 with kind := 6, name := x, bytes := bytesOf r }, true)
    else if kindNo w = 7 then ({ ev0 with kind := 7, name := x }, true)
    else if kindNo w = 1 then ({ ev0 with kind := 1, who := (numP x).getD 0, o := (optParse (Lib.join r [32])).getD op0 }, (numP x).isSome && (optParse (Lib.join r [32])).isSome)
    else if kindNo w = 2 then ({ ev0 with kind := 2, who := (numP x).getD 0 }, (numP x).isSome)
    else if kindNo w = 3 then ({ ev0 with kind := 3, who := (numP x).getD 0 }, (numP x).isSome)
    else ({ ev0 with kind := kindNo w, n := (numP x).getD 0 }, (numP x).isSome)
def parseP (s : List UInt8) : Option Ev := if (readP (words s)).2 = true ∧ s ≠ [] ∧ evT (readP (words s)).1 = s then some (readP (words s)).1 else none
def only (e : Ev) : Ev :=
  if e.kind = 1 then { ev0 with kind := e.kind, who := e.who, o := e.o }
  else if e.kind = 2 ∨ e.kind = 3 then { ev0 with kind := e.kind, who := e.who }
  else if e.kind = 4 ∨ e.kind = 5 ∨ e.kind = 8 then { ev0 with kind := e.kind, n := e.n }
  else if e.kind = 6 then { ev0 with kind := e.kind, name := e.name, bytes := e.bytes }
  else if e.kind = 7 then { ev0 with kind := e.kind, name := e.name }
  else { ev0 with kind := e.kind }
structure Canon (e : Ev) : Prop where
  one : only e = e
  kind : 1 ≤ e.kind ∧ e.kind ≤ 8
  who : 0 ≤ e.who ∧ e.who ≤ 999999999
  n : 0 ≤ e.n ∧ e.n ≤ 999999999
  name : e.kind = 6 ∨ e.kind = 7 → okL e.name = true
  by_ : ∀ x ∈ e.bytes, 0 ≤ x ∧ x ≤ 255
  o : e.o.good = true
theorem two_words (a b : List UInt8) (h : (32 : UInt8) ∉ a) (h2 : (32 : UInt8) ∉ b) : words (a ++ 32 :: b) = [a, b] := by
  rw [words_app a b h, words_one b h2]
theorem parse_ev {e : Ev} (h : Canon e) : parseP (evT e) = some e := by
  have key : readP (words (evT e)) = (e, true) ∧ evT e ≠ [] := by
    obtain ⟨kind, who, n, name, bytes, o⟩ := e
    obtain ⟨h1, h2, h3, h4, h5, h6, h7⟩ := h
    simp only at h2 h3 h4 h5 h6 h7
    have hnw := num_dec who h3.1 h3.2
    have hnn := num_dec n h4.1 h4.2
    have sw := dec_sp who h3.1 h3.2
    have sn := dec_sp n h4.1 h4.2
    have hk : kind = 1 ∨ kind = 2 ∨ kind = 3 ∨ kind = 4 ∨ kind = 5 ∨ kind = 6 ∨ kind = 7 ∨ kind = 8 := by omega
    rcases hk with rfl | rfl | rfl | rfl | rfl | rfl | rfl | rfl
    · simp only [only, if_pos rfl, ev0, Ev.mk.injEq] at h1
      obtain ⟨-, -, rfl, rfl, rfl, -⟩ := h1
      have ht : evT ⟨1, who, 0, [], [], o⟩ = wStart ++ 32 :: dec who ++ (if o.text = [] then [] else 32 :: o.text) := by
        have hs : evT ⟨1, who, 0, [], [], o⟩ = (if o.text ≠ [] then wStart ++ 32 :: dec who ++ 32 :: o.text else if o ≠ op0 then [] else wStart ++ 32 :: dec who) := rfl
        rw [hs]
        by_cases ho : o.text = []
        · have : o = op0 := by
            have := opt_text h7
            rw [ho] at this
            have h0 : optParse [] = some op0 := by decide
            rw [h0] at this
            injection this with this
            exact this.symm
          rw [if_neg (fun h => h ho), if_neg (fun h => h this), if_pos ho, List.append_nil]
        · rw [if_pos ho, if_neg ho]
      refine ⟨?_, by rw [ht]; simp [wStart]⟩
      rw [ht]
      by_cases ho : o.text = []
      · have e0 : o = op0 := by
          have := opt_text h7
          rw [ho] at this
          have h0 : optParse [] = some op0 := by decide
          rw [h0] at this
          injection this with this
          exact this.symm
        rw [if_pos ho, List.append_nil, two_words wStart _ (by decide) sw]
        have k1 : kindNo wStart = 1 := by decide
        simp only [readP, k1, hnw]
        rw [e0]
        have j0 : optParse (Lib.join [] [32]) = some op0 := by decide
        simp [j0, ev0]
      · rw [if_neg ho, List.append_assoc, List.cons_append, words_app wStart _ (by decide), words_app (dec who) _ sw]
        have k1 : kindNo wStart = 1 := by decide
        have hw := text_words h7
        rw [if_neg ho] at hw
        have hj : Lib.join (words o.text) [32] = o.text := by
          rw [hw]; unfold Op.text; rw [if_pos h7]
        simp only [readP, k1, hnw, hj, opt_text h7]
        simp [ev0]
    · simp only [only, ev0, Ev.mk.injEq] at h1
      simp at h1
      obtain ⟨rfl, rfl, rfl, rfl⟩ := h1
      have ht : evT ⟨2, who, 0, [], [], op0⟩ = wStep ++ 32 :: dec who := rfl
      refine ⟨?_, by rw [ht]; simp [wStep]⟩
      rw [ht, two_words wStep _ (by decide) sw]
      have k1 : kindNo wStep = 2 := by decide
      simp only [readP, k1, hnw]
      rfl
    · simp only [only, ev0, Ev.mk.injEq] at h1
      simp at h1
      obtain ⟨rfl, rfl, rfl, rfl⟩ := h1
      have ht : evT ⟨3, who, 0, [], [], op0⟩ = wKill ++ 32 :: dec who := rfl
      refine ⟨?_, by rw [ht]; simp [wKill]⟩
      rw [ht, two_words wKill _ (by decide) sw]
      have k1 : kindNo wKill = 3 := by decide
      simp only [readP, k1, hnw]
      rfl
    · simp only [only, ev0, Ev.mk.injEq] at h1
      simp at h1
      obtain ⟨rfl, rfl, rfl, rfl⟩ := h1
      have ht : evT ⟨4, 0, n, [], [], op0⟩ = wCut ++ 32 :: dec n := rfl
      refine ⟨?_, by rw [ht]; simp [wCut]⟩
      rw [ht, two_words wCut _ (by decide) sn]
      have k1 : kindNo wCut = 4 := by decide
      simp only [readP, k1, hnn]
      rfl
    · simp only [only, ev0, Ev.mk.injEq] at h1
      simp at h1
      obtain ⟨rfl, rfl, rfl, rfl⟩ := h1
      have ht : evT ⟨5, 0, n, [], [], op0⟩ = wTick ++ 32 :: dec n := rfl
      refine ⟨?_, by rw [ht]; simp [wTick]⟩
      rw [ht, two_words wTick _ (by decide) sn]
      have k1 : kindNo wTick = 5 := by decide
      simp only [readP, k1, hnn]
      rfl
    · simp only [only, ev0, Ev.mk.injEq] at h1
      simp at h1
      obtain ⟨rfl, rfl, rfl⟩ := h1
      have hok := h5 (.inl rfl)
      have ht : evT ⟨6, 0, 0, name, bytes, op0⟩ = wEdit ++ 32 :: name ++ 32 :: hexT bytes := by
        have : evT ⟨6, 0, 0, name, bytes, op0⟩ = if okL name then wEdit ++ 32 :: name ++ 32 :: hexT bytes else [] := rfl
        rw [this, if_pos hok]
      refine ⟨?_, by rw [ht]; simp [wEdit]⟩
      rw [ht, List.append_assoc, List.cons_append, words_app wEdit _ (by decide), two_words name _ (ok_sp hok) (hexT_sp bytes h6)]
      have k1 : kindNo wEdit = 6 := by decide
      have hb : bytesOf [hexT bytes] = bytes := by
        unfold bytesOf hexT
        by_cases hb : bytes = []
        · subst hb; rfl
        · rw [if_neg hb]
          show (if hexL bytes = [45] then [] else unhexP (hexL bytes)) = bytes
          rw [if_neg, unhex_hex bytes h6]
          intro e
          have := hexL_sp bytes h6 45 (by rw [e]; simp)
          exact this.2 rfl
      simp only [readP, k1, hb]
      rfl
    · simp only [only, ev0, Ev.mk.injEq] at h1
      simp at h1
      obtain ⟨rfl, rfl, rfl, rfl⟩ := h1
      have hok := h5 (.inr rfl)
      have ht : evT ⟨7, 0, 0, name, [], op0⟩ = wRemove ++ 32 :: name := by
        have : evT ⟨7, 0, 0, name, [], op0⟩ = if okL name then wRemove ++ 32 :: name else [] := rfl
        rw [this, if_pos hok]
      refine ⟨?_, by rw [ht]; simp [wRemove]⟩
      rw [ht, two_words wRemove _ (by decide) (ok_sp hok)]
      have k1 : kindNo wRemove = 7 := by decide
      simp only [readP, k1]
      rfl
    · simp only [only, ev0, Ev.mk.injEq] at h1
      simp at h1
      obtain ⟨rfl, rfl, rfl, rfl⟩ := h1
      have ht : evT ⟨8, 0, n, [], [], op0⟩ = wRoom ++ 32 :: dec n := rfl
      refine ⟨?_, by rw [ht]; simp [wRoom]⟩
      rw [ht, two_words wRoom _ (by decide) sn]
      have k1 : kindNo wRoom = 8 := by decide
      simp only [readP, k1, hnn]
      rfl
  unfold parseP
  rw [key.1, if_pos ⟨rfl, key.2, rfl⟩]
theorem kindNo_bd (w : List UInt8) : 0 ≤ kindNo w ∧ kindNo w ≤ 8 := by
  unfold kindNo
  repeat' split
  all_goals decide
theorem getD_bd (l : List UInt8) : 0 ≤ (numP l).getD 0 ∧ (numP l).getD 0 ≤ 999999999 := by
  cases h : numP l with
  | none => simp
  | some n => have := num_some h; exact ⟨this.1, this.2.1⟩
def RO (p : Ev × Bool) : Prop := (0 ≤ p.1.who ∧ p.1.who ≤ 999999999) ∧ (0 ≤ p.1.n ∧ p.1.n ≤ 999999999) ∧ (0 ≤ p.1.kind ∧ p.1.kind ≤ 8) ∧ (p.1.kind ≠ 0 → only p.1 = p.1)
theorem read_only : ∀ (ws : List (List UInt8)), RO (readP ws)
  | [] => ⟨by decide, by decide, by decide, fun h => absurd rfl h⟩
  | [w] => by
    have hk := kindNo_bd w
    have e : readP [w] = (⟨kindNo w, 0, 0, [], [], op0⟩, false) := rfl
    rw [e]
    refine ⟨(by decide : (0 : Int) ≤ 0 ∧ (0 : Int) ≤ 999999999), (by decide : (0 : Int) ≤ 0 ∧ (0 : Int) ≤ 999999999), hk, fun _ => ?_⟩
    simp only [only, ev0]
    repeat' split
    all_goals rfl
  | w :: x :: r => by
    have hk := kindNo_bd w
    have hg := getD_bd x
    have z : (0 : Int) ≤ 0 ∧ (0 : Int) ≤ 999999999 := by decide
    by_cases h6 : kindNo w = 6
    · have e : readP (w :: x :: r) = (⟨6, 0, 0, x, bytesOf r, op0⟩, true) := by simp only [readP, if_pos h6]; rfl
      rw [e]
      exact ⟨z, z, (by decide : (0 : Int) ≤ 6 ∧ (6 : Int) ≤ 8), fun _ => rfl⟩
    by_cases h7 : kindNo w = 7
    · have e : readP (w :: x :: r) = (⟨7, 0, 0, x, [], op0⟩, true) := by simp only [readP, if_neg h6, if_pos h7]; rfl
      rw [e]
      exact ⟨z, z, (by decide : (0 : Int) ≤ 7 ∧ (7 : Int) ≤ 8), fun _ => rfl⟩
    by_cases h1 : kindNo w = 1
    · have e : readP (w :: x :: r) = (⟨1, (numP x).getD 0, 0, [], [], (optParse (Lib.join r [32])).getD op0⟩, (numP x).isSome && (optParse (Lib.join r [32])).isSome) := by simp only [readP, if_neg h6, if_neg h7, if_pos h1]; rfl
      rw [e]
      exact ⟨hg, z, (by decide : (0 : Int) ≤ 1 ∧ (1 : Int) ≤ 8), fun _ => rfl⟩
    by_cases h2 : kindNo w = 2
    · have e : readP (w :: x :: r) = (⟨2, (numP x).getD 0, 0, [], [], op0⟩, (numP x).isSome) := by simp only [readP, if_neg h6, if_neg h7, if_neg h1, if_pos h2]; rfl
      rw [e]
      exact ⟨hg, z, (by decide : (0 : Int) ≤ 2 ∧ (2 : Int) ≤ 8), fun _ => rfl⟩
    by_cases h3 : kindNo w = 3
    · have e : readP (w :: x :: r) = (⟨3, (numP x).getD 0, 0, [], [], op0⟩, (numP x).isSome) := by simp only [readP, if_neg h6, if_neg h7, if_neg h1, if_neg h2, if_pos h3]; rfl
      rw [e]
      exact ⟨hg, z, (by decide : (0 : Int) ≤ 3 ∧ (3 : Int) ≤ 8), fun _ => rfl⟩
    have e : readP (w :: x :: r) = (⟨kindNo w, 0, (numP x).getD 0, [], [], op0⟩, (numP x).isSome) := by simp only [readP, if_neg h6, if_neg h7, if_neg h1, if_neg h2, if_neg h3]; rfl
    rw [e]
    refine ⟨z, hg, hk, fun h0 => ?_⟩
    have h0 : kindNo w ≠ 0 := h0
    simp only [only, ev0]
    rw [if_neg h1, if_neg (by omega), if_pos (by omega)]
theorem parse_some {s : List UInt8} {e : Ev} (h : parseP s = some e) : evT e = s ∧ s ≠ [] ∧ only e = e ∧ (0 ≤ e.who ∧ e.who ≤ 999999999) ∧ (0 ≤ e.n ∧ e.n ≤ 999999999) := by
  unfold parseP at h
  split at h
  · rename_i hc
    injection h with h
    have hr := read_only (words s)
    unfold RO at hr
    rw [h] at hr hc
    obtain ⟨h1, h2, h3⟩ := hc
    refine ⟨h3, h2, hr.2.2.2 ?_, hr.1, hr.2.1⟩
    intro h0
    apply h2
    rw [← h3]
    unfold evT
    rw [h0]
    rfl
  · cases h

/-! Tellings. -/
structure To where
  phase : Int
  passes : Int
  errno : Int
  made : List (List UInt8)
  failed : List (List UInt8)
  fk : Int
  fl : Int
  fc : Int
  deriving DecidableEq
def namesT (l : List (List UInt8)) : List UInt8 := if l = [] then [45] else Lib.join l [44]
end Rep
end Go.Proofs.YtkbgedaogfcdnaaDoor
