/- Plain mathematics of the sum of bytes (CRC-32, reflected): it is linear, and a turn within four bytes is told. -/
import Derived.Laws.Entries
namespace Go.Proofs.YtkbgedaogfcdnaaDoor.Crc
open Go

def poly : Nat := 3988292384
def ones : Nat := 4294967295
def step (c : Nat) : Nat := if c % 2 = 1 then (c / 2) ^^^ poly else c / 2
def steps : Nat → Nat → Nat
  | 0, c => c
  | n + 1, c => steps n (step c)
def crcN (c : Nat) (l : List Int) : Nat := l.foldl (fun c x => steps 8 (c ^^^ x.toNat)) c
def sum (l : List Int) : Int := ((crcN ones l ^^^ ones : Nat) : Int)
def Bytes (l : List Int) : Prop := ∀ x ∈ l, 0 ≤ x ∧ x ≤ 255

theorem poly_lt : poly < 2 ^ 32 := by decide
theorem ones_lt : ones < 2 ^ 32 := by decide

theorem step_lt {c : Nat} (h : c < 2 ^ 32) : step c < 2 ^ 32 := by
  unfold step
  split
  · exact Nat.xor_lt_two_pow (by omega) poly_lt
  · omega
theorem steps_lt (n : Nat) : ∀ {c : Nat}, c < 2 ^ 32 → steps n c < 2 ^ 32 := by
  induction n with
  | zero => intro c h; exact h
  | succ n ih => intro c h; exact ih (step_lt h)

theorem xor_assoc4 (a b c d : Nat) : (a ^^^ b) ^^^ (c ^^^ d) = (a ^^^ c) ^^^ (b ^^^ d) := by
  rw [Nat.xor_assoc, Nat.xor_assoc, ← Nat.xor_assoc b c d, Nat.xor_comm b c, Nat.xor_assoc c b d]

theorem xor_mod2 (a b : Nat) : (a ^^^ b) % 2 = (a % 2 + b % 2) % 2 := by
  have h := Nat.testBit_xor a b 0
  simp only [Nat.testBit_zero] at h
  generalize a ^^^ b = x at h ⊢
  rcases Nat.mod_two_eq_zero_or_one a with ha | ha <;> rcases Nat.mod_two_eq_zero_or_one b with hb | hb <;> simp [ha, hb] at h <;> omega

theorem step_xor (a b : Nat) : step (a ^^^ b) = step a ^^^ step b := by
  have h := xor_mod2 a b
  have hd : (a ^^^ b) / 2 = a / 2 ^^^ b / 2 := Nat.xor_div_two
  unfold step
  rw [hd]
  rcases Nat.mod_two_eq_zero_or_one a with ha | ha <;> rcases Nat.mod_two_eq_zero_or_one b with hb | hb
  · rw [if_neg (by omega), if_neg (by omega), if_neg (by omega)]
  · rw [if_pos (by omega), if_neg (by omega), if_pos (by omega), Nat.xor_assoc]
  · rw [if_pos (by omega), if_pos (by omega), if_neg (by omega), Nat.xor_assoc, Nat.xor_comm (b / 2) poly, Nat.xor_assoc]
  · rw [if_neg (by omega), if_pos (by omega), if_pos (by omega), xor_assoc4, Nat.xor_self, Nat.xor_zero]
theorem steps_xor (n : Nat) : ∀ a b, steps n (a ^^^ b) = steps n a ^^^ steps n b := by
  induction n with
  | zero => intro a b; rfl
  | succ n ih => intro a b; simp only [steps, step_xor, ih]
theorem step_zero : step 0 = 0 := by decide
theorem steps_zero (n : Nat) : steps n 0 = 0 := by
  induction n with
  | zero => rfl
  | succ n ih => simp only [steps, step_zero, ih]
theorem step_inj0 {c : Nat} (h : c < 2 ^ 32) (hz : step c = 0) : c = 0 := by
  unfold step at hz
  split at hz
  · rename_i h1
    have he : c / 2 = poly := by
      have := congrArg (· ^^^ poly) hz
      simpa [Nat.xor_assoc] using this
    have : poly ≥ 2 ^ 31 := by decide
    omega
  · omega
theorem steps_inj0 (n : Nat) : ∀ {c : Nat}, c < 2 ^ 32 → steps n c = 0 → c = 0 := by
  induction n with
  | zero => intro c _ h; exact h
  | succ n ih => intro c h hz; exact step_inj0 h (ih (step_lt h) hz)
theorem xor_eq_zero' {a b : Nat} (h : a ^^^ b = 0) : a = b := by
  have := congrArg (· ^^^ b) h
  simpa [Nat.xor_assoc] using this
theorem steps_inj (n : Nat) {a b : Nat} (ha : a < 2 ^ 32) (hb : b < 2 ^ 32) (h : steps n a = steps n b) : a = b := by
  have : steps n (a ^^^ b) = 0 := by rw [steps_xor, h, Nat.xor_self]
  exact xor_eq_zero' (steps_inj0 n (Nat.xor_lt_two_pow ha hb) this)
theorem steps_shl (n : Nat) : ∀ y, steps n (y * 2 ^ n) = y := by
  induction n with
  | zero => intro y; simp [steps]
  | succ n ih =>
    intro y
    simp only [steps]
    have : step (y * 2 ^ (n + 1)) = y * 2 ^ n := by
      unfold step
      have e : y * 2 ^ (n + 1) = 2 * (y * 2 ^ n) := by rw [Nat.pow_succ]; ac_rfl
      rw [if_neg (by omega)]
      omega
    rw [this, ih]

theorem byte_nat {x : Int} (h : 0 ≤ x ∧ x ≤ 255) : x.toNat < 2 ^ 8 := by
  have : (2 : Nat) ^ 8 = 256 := by decide
  omega
theorem byte_nat32 {x : Int} (h : 0 ≤ x ∧ x ≤ 255) : x.toNat < 2 ^ 32 := by
  have : (2 : Nat) ^ 32 = 4294967296 := by decide
  omega
theorem crcN_cons (c : Nat) (x : Int) (l : List Int) : crcN c (x :: l) = crcN (steps 8 (c ^^^ x.toNat)) l := rfl
theorem crcN_append (c : Nat) (l m : List Int) : crcN c (l ++ m) = crcN (crcN c l) m := by simp [crcN, List.foldl_append]
theorem crcN_lt : ∀ (l : List Int) {c : Nat}, c < 2 ^ 32 → Bytes l → crcN c l < 2 ^ 32
  | [], _, h, _ => h
  | x :: l, c, h, hb => by
    rw [crcN_cons]
    exact crcN_lt l (steps_lt 8 (Nat.xor_lt_two_pow h (byte_nat32 (hb x (by simp))))) fun y hy => hb y (by simp [hy])

/-- what is laid on one another -/
def xorB (x y : Int) : Int := ((x.toNat ^^^ y.toNat : Nat) : Int)
theorem xorB_toNat (x y : Int) : (xorB x y).toNat = x.toNat ^^^ y.toNat := by simp [xorB]
theorem xorB_byte {x y : Int} (hx : 0 ≤ x ∧ x ≤ 255) (hy : 0 ≤ y ∧ y ≤ 255) : 0 ≤ xorB x y ∧ xorB x y ≤ 255 := by
  have := Nat.xor_lt_two_pow (byte_nat hx) (byte_nat hy)
  have h8 : (2 : Nat) ^ 8 = 256 := by decide
  unfold xorB
  omega

theorem crcN_xor : ∀ (l m : List Int) (c d : Nat), l.length = m.length → crcN c l ^^^ crcN d m = crcN (c ^^^ d) (List.zipWith xorB l m)
  | [], [], c, d, _ => rfl
  | x :: l, y :: m, c, d, h => by
    rw [crcN_cons, crcN_cons, crcN_xor l m _ _ (by simpa using h), List.zipWith_cons_cons, crcN_cons, ← steps_xor, xorB_toNat, xor_assoc4]
  | [], _ :: _, _, _, h => by simp at h
  | _ :: _, [], _, _, h => by simp at h

theorem crcN_zeros (n : Nat) : ∀ c, crcN c (List.replicate n 0) = steps (8 * n) c := by
  induction n with
  | zero => intro c; rfl
  | succ n ih =>
    intro c
    rw [List.replicate_succ, crcN_cons, ih]
    have : (c ^^^ Int.toNat 0) = c := by simp
    rw [this, show 8 * (n + 1) = 8 * n + 8 from by omega]
    have add : ∀ a b c, steps (a + b) c = steps a (steps b c) := by
      intro a b
      induction b with
      | zero => intro c; rfl
      | succ b ihb => intro c; rw [show a + (b + 1) = (a + b) + 1 from rfl]; simp only [steps]; rw [ihb]
    rw [add]
theorem crcN_zero_zeros (n : Nat) : crcN 0 (List.replicate n 0) = 0 := by rw [crcN_zeros, steps_zero]
theorem crcN_zeros_inj (n : Nat) {c : Nat} (h : c < 2 ^ 32) (hz : crcN c (List.replicate n 0) = 0) : c = 0 := by
  rw [crcN_zeros] at hz; exact steps_inj0 _ h hz

/-- at most four bytes that end at nought begin below 2^(8n); from nought they are noughts. -/
theorem short : ∀ (t : List Int), t.length ≤ 4 → Bytes t → ∀ c, c < 2 ^ 32 → crcN c t = 0 → c < 2 ^ (8 * t.length) ∧ (c = 0 → ∀ x ∈ t, x = 0)
  | [], _, _, c, _, h => ⟨by simp only [crcN, List.foldl_nil] at h; simp [h], fun _ x hx => by cases hx⟩
  | x :: t, hl, hb, c, hc, h => by
    simp only [List.length_cons] at hl
    have hx := hb x (by simp)
    have hc' : c ^^^ x.toNat < 2 ^ 32 := Nat.xor_lt_two_pow hc (byte_nat32 hx)
    rw [crcN_cons] at h
    obtain ⟨h1, h2⟩ := short t (by omega) (fun y hy => hb y (by simp [hy])) _ (steps_lt 8 hc') h
    generalize hy : steps 8 (c ^^^ x.toNat) = y at h1 h2
    have hp : 2 ^ (8 * t.length) ≤ 2 ^ 24 := Nat.pow_le_pow_right (by decide) (by omega)
    have h24 : (2 : Nat) ^ 24 * 2 ^ 8 = 2 ^ 32 := by decide
    have h8 : (2 : Nat) ^ 8 = 256 := by decide
    have hy32 : y * 2 ^ 8 < 2 ^ 32 := by
      rw [← h24]; exact Nat.mul_lt_mul_of_pos_right (Nat.lt_of_lt_of_le h1 hp) (by decide)
    have e : c ^^^ x.toNat = y * 2 ^ 8 := steps_inj 8 hc' hy32 (by rw [hy, steps_shl])
    have ec : c = y * 2 ^ 8 ^^^ x.toNat := by rw [← e, Nat.xor_assoc, Nat.xor_self, Nat.xor_zero]
    have hxn := byte_nat hx
    have es : 2 ^ (8 * t.length) * 2 ^ 8 = 2 ^ (8 * (t.length + 1)) := by rw [← Nat.pow_add]; congr 1
    refine ⟨?_, ?_⟩
    · rw [List.length_cons, ec, ← es]
      have ha : y * 2 ^ 8 < 2 ^ (8 * t.length) * 2 ^ 8 := Nat.mul_lt_mul_of_pos_right h1 (by decide)
      have hb' : x.toNat < 2 ^ (8 * t.length) * 2 ^ 8 := Nat.lt_of_lt_of_le hxn (by have := Nat.two_pow_pos (8 * t.length); exact Nat.le_mul_of_pos_left _ this)
      rw [es] at ha hb' ⊢
      exact Nat.xor_lt_two_pow ha hb'
    · intro h0
      rw [h0, Nat.zero_xor] at e
      have hy0 : y = 0 := by
        rw [h8] at e hxn
        omega
      rw [hy0] at e
      intro z hz
      rcases List.mem_cons.1 hz with rfl | hz
      · omega
      · exact h2 hy0 z hz

/-- The sums of two rows of one length part just if, of noughts, a short turn, and noughts, the turn is one. -/
theorem turn_told (a b : List Int) (hl : a.length = b.length) (p q : Nat) (t : List Int) (ht : t.length ≤ 4) (hbt : Bytes t)
    (he : List.zipWith xorB a b = List.replicate p 0 ++ (t ++ List.replicate q 0)) : sum a = sum b ↔ ∀ x ∈ t, x = 0 := by
  have hx := crcN_xor a b ones ones hl
  rw [Nat.xor_self, he, crcN_append, crcN_append, crcN_zero_zeros] at hx
  have hs : sum a = sum b ↔ crcN ones a ^^^ crcN ones b = 0 := by
    unfold sum
    constructor
    · intro h
      have h' : crcN ones a ^^^ ones = crcN ones b ^^^ ones := by exact_mod_cast h
      have := congrArg (· ^^^ ones) h'
      simp only [Nat.xor_assoc, Nat.xor_self, Nat.xor_zero] at this
      rw [this, Nat.xor_self]
    · intro h
      rw [xor_eq_zero' h]
  rw [hs, hx]
  constructor
  · intro h
    have h0 := crcN_zeros_inj q (crcN_lt t (by decide) hbt) h
    exact (short t ht hbt 0 (by decide) h0).2 rfl
  · intro h
    have : t = List.replicate t.length 0 := List.eq_replicate_iff.2 ⟨rfl, h⟩
    rw [this, crcN_zero_zeros, crcN_zero_zeros]

theorem sum_xor3 (a b c : List Int) (h1 : a.length = b.length) (h2 : b.length = c.length) :
    sum (List.zipWith xorB (List.zipWith xorB a b) c) = ((((sum a).toNat ^^^ (sum b).toNat) ^^^ (sum c).toNat : Nat) : Int) := by
  have e1 := crcN_xor a b ones ones h1
  have e2 := crcN_xor (List.zipWith xorB a b) c (ones ^^^ ones) ones (by simp [h1, h2])
  rw [← e1] at e2
  rw [Nat.xor_self, Nat.zero_xor] at e2
  simp only [sum, Int.toNat_natCast]
  rw [← e2]
  congr 1
  generalize crcN ones a = x
  generalize crcN ones b = y
  generalize crcN ones c = z
  rw [xor_assoc4 x ones y ones, Nat.xor_self, Nat.xor_zero, ← Nat.xor_assoc]

/-! ### Go's own spelling -/
theorem bits_xor32 (a b : Nat) (ha : a < 2 ^ 32) (hb : b < 2 ^ 32) : Go.bits .xor .u32 a b = ((a ^^^ b : Nat) : Int) := by
  have hw : ∀ n : Int, 0 ≤ n → n < 4294967296 → IntKind.u32.wrap n = n := by
    intro n h1 h2
    simp [IntKind.wrap, IntKind.bits, IntKind.signed]
    omega
  have hx := Nat.xor_lt_two_pow ha hb
  have h32 : (2 : Nat) ^ 32 = 4294967296 := by decide
  have ha' : a % 2 ^ IntKind.u32.bits = a := Nat.mod_eq_of_lt ha
  have hb' : b % 2 ^ IntKind.u32.bits = b := Nat.mod_eq_of_lt hb
  simp only [Go.bits, BitVec.ofInt_natCast, BitVec.toNat_xor, BitVec.toNat_ofNat, ha', hb']
  exact hw _ (by omega) (by omega)
theorem bits_xor8 (a b : Int) (ha : 0 ≤ a ∧ a ≤ 255) (hb : 0 ≤ b ∧ b ≤ 255) : Go.bits .xor .u8 a b = xorB a b := by
  obtain ⟨a, rfl⟩ := Int.eq_ofNat_of_zero_le ha.1
  obtain ⟨b, rfl⟩ := Int.eq_ofNat_of_zero_le hb.1
  have hw : ∀ n : Int, 0 ≤ n → n < 256 → IntKind.u8.wrap n = n := by
    intro n h1 h2
    simp [IntKind.wrap, IntKind.bits, IntKind.signed]
    omega
  have h8 : (2 : Nat) ^ 8 = 256 := by decide
  have hx := Nat.xor_lt_two_pow (n := 8) (show a < 2 ^ 8 by omega) (show b < 2 ^ 8 by omega)
  have ha' : a % 2 ^ IntKind.u8.bits = a := Nat.mod_eq_of_lt (show a < 2 ^ 8 by omega)
  have hb' : b % 2 ^ IntKind.u8.bits = b := Nat.mod_eq_of_lt (show b < 2 ^ 8 by omega)
  simp only [Go.bits, BitVec.ofInt_natCast, BitVec.toNat_xor, BitVec.toNat_ofNat, xorB, Int.toNat_natCast, ha', hb']
  exact hw _ (by omega) (by omega)
theorem bits_and32 (a : Nat) (ha : a < 2 ^ 32) : Go.bits .and .u32 a 1 = ((a % 2 : Nat) : Int) := by
  have hw : ∀ n : Int, 0 ≤ n → n < 4294967296 → IntKind.u32.wrap n = n := by
    intro n h1 h2
    simp [IntKind.wrap, IntKind.bits, IntKind.signed]
    omega
  have h1 : (1 : Int) = ((1 : Nat) : Int) := rfl
  rw [h1]
  have ha' : a % 2 ^ IntKind.u32.bits = a := Nat.mod_eq_of_lt ha
  have hb' : 1 % 2 ^ IntKind.u32.bits = 1 := by decide
  simp only [Go.bits, BitVec.ofInt_natCast, BitVec.toNat_and, BitVec.toNat_ofNat, ha', hb', Nat.and_one_is_mod]
  exact hw _ (by omega) (by omega)

theorem sum_abc : sum [49, 50, 51, 52, 53, 54, 55, 56, 57] = 3421780262 := by decide +kernel
theorem sum_nil : sum [] = 0 := by decide +kernel
theorem sum_a : sum [97] = 3904355907 := by decide +kernel
end Go.Proofs.YtkbgedaogfcdnaaDoor.Crc
