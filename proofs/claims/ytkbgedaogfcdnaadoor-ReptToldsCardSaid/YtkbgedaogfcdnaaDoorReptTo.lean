/- ReptTolds's closure: the telling of a number. -/
import Derived.Test.YtkbgedaogfcdnaaDoorReptAw
import Derived.Test.YtkbgedaogfcdnaaDoorLast
namespace Go.Proofs.YtkbgedaogfcdnaaDoor
set_option linter.unusedSimpArgs false
set_option linter.unusedVariables false
open Go.RowKit
open Crc (Bytes)
theorem and_mod (m q : Nat) (M : Int) (hM : M = ((2 ^ m - 1 : Nat) : Int)) (hm : m < 62) (hq : q < 4611686018427387904) : Go.bits .and .i64 (q : Int) M = ((q % 2 ^ m : Nat) : Int) := by
  subst hM
  have hp : (2 : Nat) ^ m < 2 ^ 62 := Nat.pow_lt_pow_right (by decide) hm
  have h62 : (2 : Nat) ^ 62 = 4611686018427387904 := by decide
  have hpos : 0 < 2 ^ m := Nat.two_pow_pos m
  have e : Go.bits .and .i64 (q : Int) ((2 ^ m - 1 : Nat) : Int) = IntKind.i64.wrap ((BitVec.ofInt IntKind.i64.bits (q : Int) &&& BitVec.ofInt IntKind.i64.bits ((2 ^ m - 1 : Nat) : Int)).toNat : Int) := rfl
  have h : (BitVec.ofInt IntKind.i64.bits (q : Int) &&& BitVec.ofInt IntKind.i64.bits ((2 ^ m - 1 : Nat) : Int)).toNat = q % 2 ^ m := by
    rw [BitVec.toNat_and, BitVec.ofInt_natCast, BitVec.ofInt_natCast, BitVec.toNat_ofNat, BitVec.toNat_ofNat]
    rw [Nat.mod_eq_of_lt (by show q < 2 ^ 64; omega), Nat.mod_eq_of_lt (by show 2 ^ m - 1 < 2 ^ 64; omega), Nat.and_two_pow_sub_one_eq_mod]
  have hlt : q % 2 ^ m < 2 ^ m := Nat.mod_lt _ hpos
  rw [e, h, IntKind.wrap_i64]
  omega
/-- The letter that a number's bit is. -/
def ltr (p j : Nat) : List UInt8 := if p / 2 ^ j % 2 = 0 then [97] else [98]
def madeL (p k : Nat) : List (List UInt8) := (List.range k).map fun i => ltr p (15 + i)
def failL (p k : Nat) : List (List UInt8) := (List.range k).map fun i => ltr p (18 + i)
theorem madeL_succ (p k : Nat) : (madeL p k).map sv ++ [sv (ltr p (15 + k))] = (madeL p (k + 1)).map sv := by
  unfold madeL
  rw [List.range_succ]
  simp
theorem madeL_succ1 (p k : Nat) : madeL p k ++ [ltr p (15 + k)] = madeL p (k + 1) := by
  unfold madeL
  rw [List.range_succ]
  simp
theorem failL_succ1 (p k : Nat) : failL p k ++ [ltr p (18 + k)] = failL p (k + 1) := by
  unfold failL
  rw [List.range_succ]
  simp
theorem failL_succ (p k : Nat) : (failL p k).map sv ++ [sv (ltr p (18 + k))] = (failL p (k + 1)).map sv := by
  unfold failL
  rw [List.range_succ]
  simp
theorem u64_small (x : Int) (h0 : 0 ≤ x) (h1 : x ≤ 1000) : IntKind.u64.wrap x = x := by
  obtain ⟨y, rfl⟩ : ∃ y : Nat, x = y := ⟨x.toNat, by omega⟩
  have : ∀ y : Nat, y ≤ 1000 → IntKind.u64.wrap (y : Int) = y := by decide +kernel
  exact this y (by omega)
theorem rd_one {w : World} {g : Nat} (e : TypeId) (hg : g = w.heap.size) (x : List UInt8) : Rd (w.alloc (.cells #[.string (T x)] e)) 1 (some ⟨g, 0, none⟩) 1 ([x].map sv) := by
  subst hg
  exact Rd.lit w #[.string (T x)] e (0, 0) 1 1 rfl
theorem results_cell1 {fn : Func} {p : Tmp} {ty : TypeId} (h : fn.results = #[.cell p ty]) (tmps : Array Value) (P : Program) (w : World) :
    (results fn tmps).run P w = ((asAddr (tmps.getD p undef)).run P w).andThen fun a w₁ => (loadVar ty a).run P w₁ := by
  simp only [results, h]
  simp [Sem.run_bind, Result.andThen]
def zeroT : List Value := [.int .i64 0, .int .i64 0, .int .i64 0, .slice none 0 0, .slice none 0 0, .int .i64 0, .int .i64 0, .int .i64 0]
set_option maxRecDepth 100000 in
set_option maxHeartbeats 4000000 in
theorem of_any (p : Nat) (hp : p < 2097152) (w : World) : Calls Tryd.prog 7 #[.int .i64 p] w fun r w' => ∃ A B n c m d, r = .returned (.agg #[.int .i64 (p % 4 : Nat), .int .i64 (p / 32 % 4 : Nat), .int .i64 (p / 4 % 8 : Nat), .slice A n c, .slice B m d, .int .i64 (p / 128 % 4 : Nat), .int .i64 (p / 512 % 2 : Nat), .int .i64 (p / 1024 % 2 : Nat)]) ∧ SS w' A n (madeL p (p / 2048 % 4)) ∧ n ≤ c ∧ SS w' B m (failL p (p / 8192 % 4)) ∧ m ≤ d ∧ Below w.heap.size w w' := by
  obtain ⟨e2, he2⟩ : ∃ e : Nat, p / 4 % 8 = e := ⟨_, rfl⟩
  have ae2 : Go.bits .and .i64 ((p : Int) / 4) 7 = (e2 : Int) := by
    have := and_mod 3 (p / 4) 7 rfl (by decide) (by omega)
    rw [show (p : Int) / 4 = ((p / 4 : Nat) : Int) by omega, this, ← he2]
  obtain ⟨e3, he3⟩ : ∃ e : Nat, p / 32 % 4 = e := ⟨_, rfl⟩
  have ae3 : Go.bits .and .i64 ((p : Int) / 32) 3 = (e3 : Int) := by
    have := and_mod 2 (p / 32) 3 rfl (by decide) (by omega)
    rw [show (p : Int) / 32 = ((p / 32 : Nat) : Int) by omega, this, ← he3]
  obtain ⟨e4, he4⟩ : ∃ e : Nat, p / 128 % 4 = e := ⟨_, rfl⟩
  have ae4 : Go.bits .and .i64 ((p : Int) / 128) 3 = (e4 : Int) := by
    have := and_mod 2 (p / 128) 3 rfl (by decide) (by omega)
    rw [show (p : Int) / 128 = ((p / 128 : Nat) : Int) by omega, this, ← he4]
  obtain ⟨e5, he5⟩ : ∃ e : Nat, p / 512 % 2 = e := ⟨_, rfl⟩
  have ae5 : Go.bits .and .i64 ((p : Int) / 512) 1 = (e5 : Int) := by
    have := and_mod 1 (p / 512) 1 rfl (by decide) (by omega)
    rw [show (p : Int) / 512 = ((p / 512 : Nat) : Int) by omega, this, ← he5]
  obtain ⟨e6, he6⟩ : ∃ e : Nat, p / 1024 % 2 = e := ⟨_, rfl⟩
  have ae6 : Go.bits .and .i64 ((p : Int) / 1024) 1 = (e6 : Int) := by
    have := and_mod 1 (p / 1024) 1 rfl (by decide) (by omega)
    rw [show (p : Int) / 1024 = ((p / 1024 : Nat) : Int) by omega, this, ← he6]
  obtain ⟨k1, hk1⟩ : ∃ e : Nat, p / 2048 % 4 = e := ⟨_, rfl⟩
  have ak1 : Go.bits .and .i64 ((p : Int) / 2048) 3 = (k1 : Int) := by
    have := and_mod 2 (p / 2048) 3 rfl (by decide) (by omega)
    rw [show (p : Int) / 2048 = ((p / 2048 : Nat) : Int) by omega, this, ← hk1]
  obtain ⟨k2, hk2⟩ : ∃ e : Nat, p / 8192 % 4 = e := ⟨_, rfl⟩
  have ak2 : Go.bits .and .i64 ((p : Int) / 8192) 3 = (k2 : Int) := by
    have := and_mod 2 (p / 8192) 3 rfl (by decide) (by omega)
    rw [show (p : Int) / 8192 = ((p / 8192 : Nat) : Int) by omega, this, ← hk2]
  obtain ⟨e1, he1⟩ : ∃ e : Nat, p % 4 = e := ⟨_, rfl⟩
  have ae1 : Go.bits .and .i64 (p : Int) 3 = (e1 : Int) := by
    have := and_mod 2 p 3 rfl (by decide) (by omega)
    rw [this, ← he1]
  rw [he1, he3, he2, he4, he5, he6, hk1, hk2]
  have k1b : k1 < 4 := by omega
  have k2b : k2 < 4 := by omega
  clear he1 he2 he3 he4 he5 he6 hk1 hk2
  go_enter Tryd.func7, Tryd.ntmps7
  go_upto_region 2 with fail
  obtain ⟨g1, hg1⟩ : ∃ g, g = w.heap.size := ⟨_, rfl⟩
  obtain ⟨g2, hg2⟩ : ∃ g, g = w.heap.size + 1 := ⟨_, rfl⟩
  rw [← hg2, ← hg1]
  refine at_world (fun W => Blk W g1 27 zeroT ∧ Blk W g2 27 [.int .i64 e1, .int .i64 e3, .int .i64 e2, .slice none 0 0, .slice none 0 0, .int .i64 e4, .int .i64 e5, .int .i64 e6] ∧ Below w.heap.size w W) ⟨(blk_new hg1).alloc _, (by refine blk_new ?_; rw [hg2]; simp), by (repeat (first | assumption | exact Below.refl _ _ | (with_reducible apply Below.drew) | (with_reducible apply bl_drewN) | (with_reducible apply bl_alloc) | (with_reducible refine bl_then ?_ (by assumption))))⟩ ?_
  rintro W ⟨hb1, hb2, hbel⟩
  have H1 := Lib.hid hb1
  have H2 := Lib.hid hb2
  have HB := Lib.hid hbel
  have hgg : g1 ≠ g2 := by omega
  have hgw : w.heap.size ≤ g1 := by omega
  have hgw2 : w.heap.size ≤ g2 := by omega
  have hgl := hb2.lt
  have hgl1 := hb1.lt
  have AK1 := Lib.hid ak1
  have AK2 := Lib.hid ak2
  clear hb1 hb2 hbel hg1 hg2 ae1 ae2 ae3 ae4 ae5 ae6 ak1 ak2
  have ak1 := AK1.out
  go_upto_block 0 with fail
  go_cut [4] (fun v wx => ∃ (A1 : Option Addr) (n1 c1 : Nat), Blk wx g1 27 zeroT ∧ Blk wx g2 27 [.int .i64 e1, .int .i64 e3, .int .i64 e2, .slice A1 n1 c1, .slice none 0 0, .int .i64 e4, .int .i64 e5, .int .i64 e6] ∧ Own wx W.heap.size 9 1 A1 n1 c1 ((madeL p k1).map sv) ∧ Below w.heap.size w wx)
  case first =>
    go_wp2_with fail
    go_loopw [4] (fun i wr => ∃ (k : Nat) (A : Option Addr) (d : Nat), k ≤ k1 ∧ i = .int .i64 k ∧ Blk wr g1 27 zeroT ∧ Blk wr g2 27 [.int .i64 e1, .int .i64 e3, .int .i64 e2, .slice A k d, .slice none 0 0, .int .i64 e4, .int .i64 e5, .int .i64 e6] ∧ Own wr W.heap.size 9 1 A k d ((madeL p k).map sv) ∧ Below w.heap.size w wr ∧ W.heap.size ≤ wr.heap.size) (fun i _ => k1 - (intOf i).toNat)
    case atStart => exact ⟨0, none, 0, Nat.zero_le _, rfl, H1.out, H2.out, Own.nil _ _ _ _, HB.out, Nat.le_refl _⟩
    case round =>
      obtain ⟨k, A, d, hk, rfl, hb1, hb2, ho, hbel, hbw⟩ := hrel
      have K1 := Lib.hid hb1
      have K2 := Lib.hid hb2
      have KO := Lib.hid ho
      have KB := Lib.hid hbel
      have KW := Lib.hid hbw
      have d3 : wr.cell? ⟨g2, 3, none⟩ = some (.slice A k d) := hb2.cell 3
      clear hb1 hb2 ho hbel hbw
      by_cases hlt : k < k1
      · obtain ⟨b, hb⟩ : ∃ b : Nat, p / 2 ^ (15 + k) % 2 = b := ⟨_, rfl⟩
        have f1 : IntKind.i64.wrap (15 + (k : Int)) = 15 + (k : Int) := by rw [IntKind.wrap_i64]; omega
        have f2 : IntKind.u64.wrap (15 + (k : Int)) = 15 + (k : Int) := u64_small _ (by omega) (by omega)
        have f3 : (15 + (k : Int)).toNat = 15 + k := by omega
        have hpk : p / 2 ^ (15 + k) ≤ p := Nat.div_le_self _ _
        have f4 : Go.bits .and .i64 ((p : Int) / 2 ^ (15 + k)) 1 = (b : Int) := by
          have := and_mod 1 (p / 2 ^ (15 + k)) 1 rfl (by decide) (by omega)
          rw [show ((p : Int) / 2 ^ (15 + k)) = ((p / 2 ^ (15 + k) : Nat) : Int) by simp, this, ← hb]
        have hb2 : b = 0 ∨ b = 1 := by omega
        have HBt := Lib.hid hb
        have hsz := KB.out.size
        have hWl := KW.out
        have hgl2 := K2.out.lt
        have hne : ∀ j, ob A = some j → j ≠ g1 ∧ j ≠ g2 := fun j hj => by have := (KO.out.blk j hj).1; omega
        have HNE := Lib.hid hne
        have hkA : k ≤ 3 := by omega
        clear hb hpk hne
        go_upto_region 5 with fail
        (refine wp_regionL (S := fun w' => w'.cell? ⟨g2, 3, none⟩ = some (.slice A k d) ∧ Blk w' g1 27 zeroT ∧ Blk w' g2 27 [.int .i64 e1, .int .i64 e3, .int .i64 e2, .slice A k d, .slice none 0 0, .int .i64 e4, .int .i64 e5, .int .i64 e6] ∧ Below w.heap.size w w') [14] (by kernel_rfl) (⟨d3, K1.out.drew, K2.out.drew, KB.out.drew⟩) (fun hHeld => ?_))
        (refine wpL_take (i := 0) (oi := _) (v := ?_) (ops_at rfl) (by kernel_rfl) (by kernel_rfl) (by kernel_rfl) (fun _ _ _ h => h) (by kernel_rfl) (Or.inl ⟨by rfl, ?_⟩) (by assumption) ?_; rotate_left; (focus (intro w hSw; (try dsimp only at hSw); go_simp; (try with_reducible rfl))); (try simp only [Act.put, List.setIfInBounds_toArray, List.set_cons_zero, List.set_cons_succ])); (refine wpL_take (i := 1) (oi := _) (v := ?_) (ops_at rfl) (by kernel_rfl) (by kernel_rfl) (by kernel_rfl) (fun _ _ _ h => h) (by kernel_rfl) (Or.inl ⟨by rfl, ?_⟩) (by assumption) ?_; rotate_left; (focus (intro w hSw; (try dsimp only at hSw); go_simp; (try with_reducible rfl))); (try simp only [Act.put, List.setIfInBounds_toArray, List.set_cons_zero, List.set_cons_succ])); (refine wpL_take (i := 3) (oi := _) (v := ?_) (ops_at rfl) (by kernel_rfl) (by kernel_rfl) (by kernel_rfl) (fun _ _ _ h => h) (by kernel_rfl) (Or.inl ⟨by rfl, ?_⟩) (by assumption) ?_; rotate_left; (focus (intro w hSw; (try dsimp only at hSw); go_simp; (try with_reducible rfl))); (try simp only [Act.put, List.setIfInBounds_toArray, List.set_cons_zero, List.set_cons_succ])); (refine wpL_take (i := 4) (oi := _) (v := ?_) (ops_at rfl) (by kernel_rfl) (by kernel_rfl) (by kernel_rfl) (fun _ _ _ h => h) (by kernel_rfl) (Or.inl ⟨by rfl, ?_⟩) (by assumption) ?_; rotate_left; (focus (intro w hSw; (try dsimp only at hSw); go_simp; (try with_reducible rfl))); (try simp only [Act.put, List.setIfInBounds_toArray, List.set_cons_zero, List.set_cons_succ])); (refine wpL_take (i := 5) (oi := _) (v := ?_) (ops_at rfl) (by kernel_rfl) (by kernel_rfl) (by kernel_rfl) (fun _ _ _ h => h) (by kernel_rfl) (Or.inl ⟨by rfl, ?_⟩) (by assumption) ?_; rotate_left; (focus (intro w hSw; (try dsimp only at hSw); go_simp; (try with_reducible rfl))); (try simp only [Act.put, List.setIfInBounds_toArray, List.set_cons_zero, List.set_cons_succ])); (refine wpL_take (i := 6) (oi := _) (v := ?_) (ops_at rfl) (by kernel_rfl) (by kernel_rfl) (by kernel_rfl) (fun _ _ _ h => h) (by kernel_rfl) (Or.inl ⟨by rfl, ?_⟩) (by assumption) ?_; rotate_left; (focus (intro w hSw; (try dsimp only at hSw); go_simp; (try with_reducible rfl))); (try simp only [Act.put, List.setIfInBounds_toArray, List.set_cons_zero, List.set_cons_succ])); (refine wpL_take (i := 7) (oi := _) (v := ?_) (ops_at rfl) (by kernel_rfl) (by kernel_rfl) (by kernel_rfl) (fun _ _ _ h => h) (by kernel_rfl) (Or.inl ⟨by rfl, ?_⟩) (by assumption) ?_; rotate_left; (focus (intro w hSw; (try dsimp only at hSw); go_simp; (try with_reducible rfl))); (try simp only [Act.put, List.setIfInBounds_toArray, List.set_cons_zero, List.set_cons_succ])); (refine wpL_take (i := 8) (oi := _) (v := ?_) (ops_at rfl) (by kernel_rfl) (by kernel_rfl) (by kernel_rfl) (fun _ _ _ h => h) (by kernel_rfl) (Or.inl ⟨by rfl, ?_⟩) (by assumption) ?_; rotate_left; (focus (intro w hSw; (try dsimp only at hSw); go_simp; (try with_reducible rfl))); (try simp only [Act.put, List.setIfInBounds_toArray, List.set_cons_zero, List.set_cons_succ]))
        clear f1 f2 f3 f4
        (refine wpL_one (i := 2) (by kernel_rfl) (ops_at rfl) (fun K hK => ?_); go_simp; skip; refine hK.out _ _ (⟨((K2.out.alloc _).drew).cell 3, (K1.out.alloc _).drew, (K2.out.alloc _).drew, (KB.out.alloc hsz _).drew⟩) (fun hHeld => ?_); clear hK K; (try simp only [Act.put, List.setIfInBounds_toArray, List.set_cons_zero, List.set_cons_succ]))
        rcases hb2 with rfl | rfl
        · have HL := Lib.hid (show madeL p k ++ [[97]] = madeL p (k + 1) by rw [← madeL_succ1, ltr, HBt.out]; rfl)
          (refine wpL_take (i := 9) (oi := _) (v := ?_) (ops_at rfl) (by kernel_rfl) (by kernel_rfl) (by kernel_rfl) (fun _ _ _ h => h) (by kernel_rfl) (Or.inl ⟨by rfl, ?_⟩) (by assumption) ?_; rotate_left; (focus (intro w hSw; (try dsimp only at hSw); go_simp; (try with_reducible rfl))); (try simp only [Act.put, List.setIfInBounds_toArray, List.set_cons_zero, List.set_cons_succ]))
          (refine wpL_one (i := 10) (by kernel_rfl) (ops_at rfl) (fun K hK => ?_); go_simp; skip; refine hK.out _ _ (hHeld) (fun hHeld => ?_); clear hK K; (try simp only [Act.put, List.setIfInBounds_toArray, List.set_cons_zero, List.set_cons_succ]))
          have hx2 : ∀ o : Obj, ((wr.alloc (Obj.cells #[.string ⟨#[97]⟩, .string ⟨#[98]⟩] 9)).alloc o).heap.size = wr.heap.size + 2 := fun o => by simp
          (refine wpL_one (i := 11) (by kernel_rfl) (ops_at rfl) (fun K hK => ?_); go_simp; skip; refine hK.out _ _ (⟨(((K2.out.alloc _).alloc _).drew).cell 3, ((K1.out.alloc _).alloc _).drew, ((K2.out.alloc _).alloc _).drew, ((KB.out.alloc hsz _).alloc (by simp; omega) _).drew⟩) (fun hHeld => ?_); clear hK K; (try simp only [Act.put, List.setIfInBounds_toArray, List.set_cons_zero, List.set_cons_succ]))
          (refine wpL_one (i := 12) (by kernel_rfl) (ops_at rfl) (fun K hK => ?_); rw [if_pos (by rfl)]; refine wp_app (.tmp 33) (.tmp 43) 23 rfl Tryd.underlying23 strInfo rfl (by decide) rfl ((KO.out.alloc _).alloc _).drew rfl (rd_one (w := wr.alloc (Obj.cells #[.string ⟨#[97]⟩, .string ⟨#[98]⟩] 9)) 9 (by simp) [97]).drew (svs_one [[97]]) (by omega) (by omega) (by simp; omega) rfl (show (madeL p k).map sv ++ [sv [97]] = (madeL p (k + 1)).map sv by rw [← HL.out]; simp) ?_; intro A2 d2 w5 hown5 hg5 _; have X2 := (((K2.out.alloc _).alloc _).drew).keep (hg5.block g2 (by simp; omega) (fun e => (HNE.out _ e.symm).2 rfl)); have X1 := (((K1.out.alloc _).alloc _).drew).keep (hg5.block g1 (by simp; omega) (fun e => (HNE.out _ e.symm).1 rfl)); have XB := ((KB.out.alloc hsz _).alloc (by simp; omega) _).drew.grown hg5 (by simp; omega) (fun j hj => by have := (KO.out.blk j hj).1; omega); refine hK.out _ _ (⟨X2.cell 3, X1, X2, XB⟩) (fun hHeld => ?_); clear hK K; (try simp only [Act.put, List.setIfInBounds_toArray, List.set_cons_zero, List.set_cons_succ]))
          have XO := Lib.hid hown5
          have x3 := X2.frozen 3
          have y3 : w5.cell? ⟨g2, 3, none⟩ = some (.slice A k d) := X2.cell 3
          have XX1 := Lib.hid X1
          have XX2 := Lib.hid X2
          have XXB := Lib.hid XB
          have hWw : W.heap.size ≤ w5.heap.size := by have := hg5.size; simp at this; omega
          clear hown5 hg5 X1 X2 XB
          (refine wpL_take (i := 13) (oi := _) (v := ?_) (ops_at rfl) (by kernel_rfl) (by kernel_rfl) (by kernel_rfl) (fun _ _ _ h => h) (by kernel_rfl) (Or.inl ⟨by rfl, ?_⟩) (by assumption) ?_; rotate_left; (focus (intro w hSw; (try dsimp only at hSw); go_simp; (try with_reducible rfl))); (try simp only [Act.put, List.setIfInBounds_toArray, List.set_cons_zero, List.set_cons_succ]))
          clear hHeld
          (refine wpL_late (i := 14) (by kernel_rfl) (by simp) (ops_at rfl) (fun K hK => ?_); go_simp; skip; refine hK.out _ _ ?_; clear hK K; (try simp only [Act.put, List.setIfInBounds_toArray, List.set_cons_zero, List.set_cons_succ]))
          (refine wpL_done (by kernel_rfl) ?_ _)
          go_wp2_with fail
          refine ⟨⟨k + 1, A2, d2, by omega, by go_num, XX1.out.far hgg _, XX2.out.set_ 3 _, own_set XO.out hgl _, bl_set1 XXB.out hgw2 _, by simpa using hWw⟩, by simp [intOf]; omega⟩
        · have HL := Lib.hid (show madeL p k ++ [[98]] = madeL p (k + 1) by rw [← madeL_succ1, ltr, HBt.out]; rfl)
          (refine wpL_take (i := 9) (oi := _) (v := ?_) (ops_at rfl) (by kernel_rfl) (by kernel_rfl) (by kernel_rfl) (fun _ _ _ h => h) (by kernel_rfl) (Or.inl ⟨by rfl, ?_⟩) (by assumption) ?_; rotate_left; (focus (intro w hSw; (try dsimp only at hSw); go_simp; (try with_reducible rfl))); (try simp only [Act.put, List.setIfInBounds_toArray, List.set_cons_zero, List.set_cons_succ]))
          (refine wpL_one (i := 10) (by kernel_rfl) (ops_at rfl) (fun K hK => ?_); go_simp; skip; refine hK.out _ _ (hHeld) (fun hHeld => ?_); clear hK K; (try simp only [Act.put, List.setIfInBounds_toArray, List.set_cons_zero, List.set_cons_succ]))
          have hx2 : ∀ o : Obj, ((wr.alloc (Obj.cells #[.string ⟨#[97]⟩, .string ⟨#[98]⟩] 9)).alloc o).heap.size = wr.heap.size + 2 := fun o => by simp
          (refine wpL_one (i := 11) (by kernel_rfl) (ops_at rfl) (fun K hK => ?_); go_simp; skip; refine hK.out _ _ (⟨(((K2.out.alloc _).alloc _).drew).cell 3, ((K1.out.alloc _).alloc _).drew, ((K2.out.alloc _).alloc _).drew, ((KB.out.alloc hsz _).alloc (by simp; omega) _).drew⟩) (fun hHeld => ?_); clear hK K; (try simp only [Act.put, List.setIfInBounds_toArray, List.set_cons_zero, List.set_cons_succ]))
          (refine wpL_one (i := 12) (by kernel_rfl) (ops_at rfl) (fun K hK => ?_); rw [if_pos (by rfl)]; refine wp_app (.tmp 33) (.tmp 43) 23 rfl Tryd.underlying23 strInfo rfl (by decide) rfl ((KO.out.alloc _).alloc _).drew rfl (rd_one (w := wr.alloc (Obj.cells #[.string ⟨#[97]⟩, .string ⟨#[98]⟩] 9)) 9 (by simp) [98]).drew (svs_one [[98]]) (by omega) (by omega) (by simp; omega) rfl (show (madeL p k).map sv ++ [sv [98]] = (madeL p (k + 1)).map sv by rw [← HL.out]; simp) ?_; intro A2 d2 w5 hown5 hg5 _; have X2 := (((K2.out.alloc _).alloc _).drew).keep (hg5.block g2 (by simp; omega) (fun e => (HNE.out _ e.symm).2 rfl)); have X1 := (((K1.out.alloc _).alloc _).drew).keep (hg5.block g1 (by simp; omega) (fun e => (HNE.out _ e.symm).1 rfl)); have XB := ((KB.out.alloc hsz _).alloc (by simp; omega) _).drew.grown hg5 (by simp; omega) (fun j hj => by have := (KO.out.blk j hj).1; omega); refine hK.out _ _ (⟨X2.cell 3, X1, X2, XB⟩) (fun hHeld => ?_); clear hK K; (try simp only [Act.put, List.setIfInBounds_toArray, List.set_cons_zero, List.set_cons_succ]))
          have XO := Lib.hid hown5
          have x3 := X2.frozen 3
          have y3 : w5.cell? ⟨g2, 3, none⟩ = some (.slice A k d) := X2.cell 3
          have XX1 := Lib.hid X1
          have XX2 := Lib.hid X2
          have XXB := Lib.hid XB
          have hWw : W.heap.size ≤ w5.heap.size := by have := hg5.size; simp at this; omega
          clear hown5 hg5 X1 X2 XB
          (refine wpL_take (i := 13) (oi := _) (v := ?_) (ops_at rfl) (by kernel_rfl) (by kernel_rfl) (by kernel_rfl) (fun _ _ _ h => h) (by kernel_rfl) (Or.inl ⟨by rfl, ?_⟩) (by assumption) ?_; rotate_left; (focus (intro w hSw; (try dsimp only at hSw); go_simp; (try with_reducible rfl))); (try simp only [Act.put, List.setIfInBounds_toArray, List.set_cons_zero, List.set_cons_succ]))
          clear hHeld
          (refine wpL_late (i := 14) (by kernel_rfl) (by simp) (ops_at rfl) (fun K hK => ?_); go_simp; skip; refine hK.out _ _ ?_; clear hK K; (try simp only [Act.put, List.setIfInBounds_toArray, List.set_cons_zero, List.set_cons_succ]))
          (refine wpL_done (by kernel_rfl) ?_ _)
          go_wp2_with fail
          refine ⟨⟨k + 1, A2, d2, by omega, by go_num, XX1.out.far hgg _, XX2.out.set_ 3 _, own_set XO.out hgl _, bl_set1 XXB.out hgw2 _, by simpa using hWw⟩, by simp [intOf]; omega⟩
      · have hkk : k = k1 := by omega
        subst hkk
        go_wp2_with fail
        go_meet
        exact ⟨A, k, d, K1.out, K2.out, KO.out, KB.out⟩
  case rest =>
  obtain ⟨W1, rfl⟩ : ∃ y : World, y = wc := ⟨_, rfl⟩
  obtain ⟨A1, n1, c1, hb1, hb2, ho1, hbel⟩ := hcut
  have G1 := Lib.hid hb1
  have G2 := Lib.hid hb2
  have GO := Lib.hid ho1
  have GB := Lib.hid hbel
  have hgl2 := hb2.lt
  have hgl12 := hb1.lt
  have hcap1 := ho1.cap
  have hfar1 : ∀ ad, A1 = some ad → 0 < n1 → ad.block ≠ g2 ∧ ad.block ≠ g1 ∧ W.heap.size ≤ ad.block := fun ad h _ => by have := (ho1.blk ad.block (by rw [h]; rfl)).1; omega
  have HF1 := Lib.hid hfar1
  have hn1 : n1 = k1 := by have := ho1.row.1; unfold madeL at this; simpa using this.symm
  have HS1 := Lib.hid (SS.mk ho1.rd (by omega))
  have hlt1 := Lib.hid (fun ad (h : A1 = some ad) (h0 : 0 < n1) => (ho1.blk ad.block (by rw [h]; rfl)).2)
  clear hb1 hb2 ho1 hbel hfar1
  have ak2 := AK2.out
  go_upto_block 2 with fail
  go_cut [5] (fun v wx => ∃ (A B : Option Addr) (n c m d : Nat), Blk wx g1 27 zeroT ∧ Blk wx g2 27 [.int .i64 e1, .int .i64 e3, .int .i64 e2, .slice A n c, .slice B m d, .int .i64 e4, .int .i64 e5, .int .i64 e6] ∧ SS wx A n (madeL p k1) ∧ n ≤ c ∧ SS wx B m (failL p k2) ∧ m ≤ d ∧ (∀ ad, A = some ad → 0 < n → ad.block ≠ g1) ∧ (∀ ad, B = some ad → 0 < m → ad.block ≠ g1) ∧ Below w.heap.size w wx)
  case first =>
    go_wp2_with fail
    go_loopw [5] (fun i wr => ∃ (k : Nat) (A : Option Addr) (d : Nat), k ≤ k2 ∧ i = .int .i64 k ∧ Blk wr g1 27 zeroT ∧ Blk wr g2 27 [.int .i64 e1, .int .i64 e3, .int .i64 e2, .slice A1 n1 c1, .slice A k d, .int .i64 e4, .int .i64 e5, .int .i64 e6] ∧ Own wr W1.heap.size 9 1 A k d ((failL p k).map sv) ∧ Below w.heap.size w wr ∧ W1.heap.size ≤ wr.heap.size ∧ SS wr A1 n1 (madeL p k1)) (fun i _ => k2 - (intOf i).toNat)
    case atStart => exact ⟨0, none, 0, Nat.zero_le _, rfl, G1.out, G2.out, Own.nil _ _ _ _, GB.out, Nat.le_refl _, HS1.out⟩
    case round =>
      obtain ⟨k, A, d, hk, rfl, hb1, hb2, ho, hbel, hbw, hs1⟩ := hrel
      have KS := Lib.hid hs1
      have K1 := Lib.hid hb1
      have K2 := Lib.hid hb2
      have KO := Lib.hid ho
      have KB := Lib.hid hbel
      have KW := Lib.hid hbw
      have d3 : wr.cell? ⟨g2, 4, none⟩ = some (.slice A k d) := hb2.cell 4
      clear hb1 hb2 ho hbel hbw hs1
      by_cases hlt : k < k2
      · obtain ⟨b, hb⟩ : ∃ b : Nat, p / 2 ^ (18 + k) % 2 = b := ⟨_, rfl⟩
        have f1 : IntKind.i64.wrap (18 + (k : Int)) = 18 + (k : Int) := by rw [IntKind.wrap_i64]; omega
        have f2 : IntKind.u64.wrap (18 + (k : Int)) = 18 + (k : Int) := u64_small _ (by omega) (by omega)
        have f3 : (18 + (k : Int)).toNat = 18 + k := by omega
        have hpk : p / 2 ^ (18 + k) ≤ p := Nat.div_le_self _ _
        have f4 : Go.bits .and .i64 ((p : Int) / 2 ^ (18 + k)) 1 = (b : Int) := by
          have := and_mod 1 (p / 2 ^ (18 + k)) 1 rfl (by decide) (by omega)
          rw [show ((p : Int) / 2 ^ (18 + k)) = ((p / 2 ^ (18 + k) : Nat) : Int) by simp, this, ← hb]
        have hb2 : b = 0 ∨ b = 1 := by omega
        have HBt := Lib.hid hb
        have hsz := KB.out.size
        have hWl := KW.out
        have hne : ∀ j, ob A = some j → j ≠ g1 ∧ j ≠ g2 := fun j hj => by have := (KO.out.blk j hj).1; omega
        have HNE := Lib.hid hne
        have hkA : k ≤ 3 := by omega
        clear hb hpk hne
        go_upto_region 9 with fail
        (refine wp_regionL (S := fun w' => w'.cell? ⟨g2, 4, none⟩ = some (.slice A k d) ∧ Blk w' g1 27 zeroT ∧ Blk w' g2 27 [.int .i64 e1, .int .i64 e3, .int .i64 e2, .slice A1 n1 c1, .slice A k d, .int .i64 e4, .int .i64 e5, .int .i64 e6] ∧ Below w.heap.size w w') [14] (by kernel_rfl) (⟨d3, K1.out.drew, K2.out.drew, KB.out.drew⟩) (fun hHeld => ?_))
        (refine wpL_take (i := 0) (oi := _) (v := ?_) (ops_at rfl) (by kernel_rfl) (by kernel_rfl) (by kernel_rfl) (fun _ _ _ h => h) (by kernel_rfl) (Or.inl ⟨by rfl, ?_⟩) (by assumption) ?_; rotate_left; (focus (intro w hSw; (try dsimp only at hSw); go_simp; (try with_reducible rfl))); (try simp only [Act.put, List.setIfInBounds_toArray, List.set_cons_zero, List.set_cons_succ])); (refine wpL_take (i := 1) (oi := _) (v := ?_) (ops_at rfl) (by kernel_rfl) (by kernel_rfl) (by kernel_rfl) (fun _ _ _ h => h) (by kernel_rfl) (Or.inl ⟨by rfl, ?_⟩) (by assumption) ?_; rotate_left; (focus (intro w hSw; (try dsimp only at hSw); go_simp; (try with_reducible rfl))); (try simp only [Act.put, List.setIfInBounds_toArray, List.set_cons_zero, List.set_cons_succ])); (refine wpL_take (i := 3) (oi := _) (v := ?_) (ops_at rfl) (by kernel_rfl) (by kernel_rfl) (by kernel_rfl) (fun _ _ _ h => h) (by kernel_rfl) (Or.inl ⟨by rfl, ?_⟩) (by assumption) ?_; rotate_left; (focus (intro w hSw; (try dsimp only at hSw); go_simp; (try with_reducible rfl))); (try simp only [Act.put, List.setIfInBounds_toArray, List.set_cons_zero, List.set_cons_succ])); (refine wpL_take (i := 4) (oi := _) (v := ?_) (ops_at rfl) (by kernel_rfl) (by kernel_rfl) (by kernel_rfl) (fun _ _ _ h => h) (by kernel_rfl) (Or.inl ⟨by rfl, ?_⟩) (by assumption) ?_; rotate_left; (focus (intro w hSw; (try dsimp only at hSw); go_simp; (try with_reducible rfl))); (try simp only [Act.put, List.setIfInBounds_toArray, List.set_cons_zero, List.set_cons_succ])); (refine wpL_take (i := 5) (oi := _) (v := ?_) (ops_at rfl) (by kernel_rfl) (by kernel_rfl) (by kernel_rfl) (fun _ _ _ h => h) (by kernel_rfl) (Or.inl ⟨by rfl, ?_⟩) (by assumption) ?_; rotate_left; (focus (intro w hSw; (try dsimp only at hSw); go_simp; (try with_reducible rfl))); (try simp only [Act.put, List.setIfInBounds_toArray, List.set_cons_zero, List.set_cons_succ])); (refine wpL_take (i := 6) (oi := _) (v := ?_) (ops_at rfl) (by kernel_rfl) (by kernel_rfl) (by kernel_rfl) (fun _ _ _ h => h) (by kernel_rfl) (Or.inl ⟨by rfl, ?_⟩) (by assumption) ?_; rotate_left; (focus (intro w hSw; (try dsimp only at hSw); go_simp; (try with_reducible rfl))); (try simp only [Act.put, List.setIfInBounds_toArray, List.set_cons_zero, List.set_cons_succ])); (refine wpL_take (i := 7) (oi := _) (v := ?_) (ops_at rfl) (by kernel_rfl) (by kernel_rfl) (by kernel_rfl) (fun _ _ _ h => h) (by kernel_rfl) (Or.inl ⟨by rfl, ?_⟩) (by assumption) ?_; rotate_left; (focus (intro w hSw; (try dsimp only at hSw); go_simp; (try with_reducible rfl))); (try simp only [Act.put, List.setIfInBounds_toArray, List.set_cons_zero, List.set_cons_succ])); (refine wpL_take (i := 8) (oi := _) (v := ?_) (ops_at rfl) (by kernel_rfl) (by kernel_rfl) (by kernel_rfl) (fun _ _ _ h => h) (by kernel_rfl) (Or.inl ⟨by rfl, ?_⟩) (by assumption) ?_; rotate_left; (focus (intro w hSw; (try dsimp only at hSw); go_simp; (try with_reducible rfl))); (try simp only [Act.put, List.setIfInBounds_toArray, List.set_cons_zero, List.set_cons_succ]))
        clear f1 f2 f3 f4
        (refine wpL_one (i := 2) (by kernel_rfl) (ops_at rfl) (fun K hK => ?_); go_simp; skip; refine hK.out _ _ (⟨((K2.out.alloc _).drew).cell 4, (K1.out.alloc _).drew, (K2.out.alloc _).drew, (KB.out.alloc hsz _).drew⟩) (fun hHeld => ?_); clear hK K; (try simp only [Act.put, List.setIfInBounds_toArray, List.set_cons_zero, List.set_cons_succ]))
        rcases hb2 with rfl | rfl
        · have HL := Lib.hid (show failL p k ++ [[97]] = failL p (k + 1) by rw [← failL_succ1, ltr, HBt.out]; rfl)
          (refine wpL_take (i := 9) (oi := _) (v := ?_) (ops_at rfl) (by kernel_rfl) (by kernel_rfl) (by kernel_rfl) (fun _ _ _ h => h) (by kernel_rfl) (Or.inl ⟨by rfl, ?_⟩) (by assumption) ?_; rotate_left; (focus (intro w hSw; (try dsimp only at hSw); go_simp; (try with_reducible rfl))); (try simp only [Act.put, List.setIfInBounds_toArray, List.set_cons_zero, List.set_cons_succ]))
          (refine wpL_one (i := 10) (by kernel_rfl) (ops_at rfl) (fun K hK => ?_); go_simp; skip; refine hK.out _ _ (hHeld) (fun hHeld => ?_); clear hK K; (try simp only [Act.put, List.setIfInBounds_toArray, List.set_cons_zero, List.set_cons_succ]))
          have hx2 : ∀ o : Obj, ((wr.alloc (Obj.cells #[.string ⟨#[97]⟩, .string ⟨#[98]⟩] 9)).alloc o).heap.size = wr.heap.size + 2 := fun o => by simp
          (refine wpL_one (i := 11) (by kernel_rfl) (ops_at rfl) (fun K hK => ?_); go_simp; skip; refine hK.out _ _ (⟨(((K2.out.alloc _).alloc _).drew).cell 4, ((K1.out.alloc _).alloc _).drew, ((K2.out.alloc _).alloc _).drew, ((KB.out.alloc hsz _).alloc (by simp; omega) _).drew⟩) (fun hHeld => ?_); clear hK K; (try simp only [Act.put, List.setIfInBounds_toArray, List.set_cons_zero, List.set_cons_succ]))
          (refine wpL_one (i := 12) (by kernel_rfl) (ops_at rfl) (fun K hK => ?_); rw [if_pos (by rfl)]; refine wp_app (.tmp 54) (.tmp 64) 23 rfl Tryd.underlying23 strInfo rfl (by decide) rfl ((KO.out.alloc _).alloc _).drew rfl (rd_one (w := wr.alloc (Obj.cells #[.string ⟨#[97]⟩, .string ⟨#[98]⟩] 9)) 9 (by simp) [97]).drew (svs_one [[97]]) (by omega) (by omega) (by simp; omega) rfl (show (failL p k).map sv ++ [sv [97]] = (failL p (k + 1)).map sv by rw [← HL.out]; simp) ?_; intro A2 d2 w5 hown5 hg5 _; have X2 := (((K2.out.alloc _).alloc _).drew).keep (hg5.block g2 (by simp; omega) (fun e => (HNE.out _ e.symm).2 rfl)); have X1 := (((K1.out.alloc _).alloc _).drew).keep (hg5.block g1 (by simp; omega) (fun e => (HNE.out _ e.symm).1 rfl)); have XB := ((KB.out.alloc hsz _).alloc (by simp; omega) _).drew.grown hg5 (by simp; omega) (fun j hj => by have := (KO.out.blk j hj).1; omega); refine hK.out _ _ (⟨X2.cell 4, X1, X2, XB⟩) (fun hHeld => ?_); clear hK K; (try simp only [Act.put, List.setIfInBounds_toArray, List.set_cons_zero, List.set_cons_succ]))
          have XO := Lib.hid hown5
          have x3 := X2.frozen 4
          have y3 : w5.cell? ⟨g2, 4, none⟩ = some (.slice A k d) := X2.cell 4
          have XX1 := Lib.hid X1
          have XX2 := Lib.hid X2
          have XXB := Lib.hid XB
          have hWw : W1.heap.size ≤ w5.heap.size := by have := hg5.size; simp at this; omega
          have hma : ∀ ad, A1 = some ad → 0 < n1 → ob A ≠ some ad.block := fun ad h h0 e => by have h1 := (KO.out.blk _ e).1; have h2 := hlt1.out ad h h0; omega
          have XS := Lib.hid (SS.mk (w := w5) (KS.out.rd.keep (by have := hg5.size; simp at this; omega) (fun ad h h0 => (hg5.block ad.block (by have := hlt1.out ad h h0; simp; omega) (fun e => hma ad h h0 e.symm)).trans (((Below.refl wr.heap.size wr).alloc (Nat.le_refl _) _).alloc (by simp) _ |>.drew.block ad.block (by have := hlt1.out ad h h0; omega)))) KS.out.le)
          clear hown5 hg5 X1 X2 XB hma
          (refine wpL_take (i := 13) (oi := _) (v := ?_) (ops_at rfl) (by kernel_rfl) (by kernel_rfl) (by kernel_rfl) (fun _ _ _ h => h) (by kernel_rfl) (Or.inl ⟨by rfl, ?_⟩) (by assumption) ?_; rotate_left; (focus (intro w hSw; (try dsimp only at hSw); go_simp; (try with_reducible rfl))); (try simp only [Act.put, List.setIfInBounds_toArray, List.set_cons_zero, List.set_cons_succ]))
          clear hHeld
          (refine wpL_late (i := 14) (by kernel_rfl) (by simp) (ops_at rfl) (fun K hK => ?_); go_simp; skip; refine hK.out _ _ ?_; clear hK K; (try simp only [Act.put, List.setIfInBounds_toArray, List.set_cons_zero, List.set_cons_succ]))
          (refine wpL_done (by kernel_rfl) ?_ _)
          go_wp2_with fail
          refine ⟨⟨k + 1, A2, d2, by omega, by go_num, XX1.out.far hgg _, XX2.out.set_ 4 _, own_set XO.out hgl2 _, bl_set1 XXB.out hgw2 _, by simpa using hWw, XS.out.setCell (fun ad h h0 => (HF1.out ad h h0).1) _⟩, by simp [intOf]; omega⟩
        · have HL := Lib.hid (show failL p k ++ [[98]] = failL p (k + 1) by rw [← failL_succ1, ltr, HBt.out]; rfl)
          (refine wpL_take (i := 9) (oi := _) (v := ?_) (ops_at rfl) (by kernel_rfl) (by kernel_rfl) (by kernel_rfl) (fun _ _ _ h => h) (by kernel_rfl) (Or.inl ⟨by rfl, ?_⟩) (by assumption) ?_; rotate_left; (focus (intro w hSw; (try dsimp only at hSw); go_simp; (try with_reducible rfl))); (try simp only [Act.put, List.setIfInBounds_toArray, List.set_cons_zero, List.set_cons_succ]))
          (refine wpL_one (i := 10) (by kernel_rfl) (ops_at rfl) (fun K hK => ?_); go_simp; skip; refine hK.out _ _ (hHeld) (fun hHeld => ?_); clear hK K; (try simp only [Act.put, List.setIfInBounds_toArray, List.set_cons_zero, List.set_cons_succ]))
          have hx2 : ∀ o : Obj, ((wr.alloc (Obj.cells #[.string ⟨#[97]⟩, .string ⟨#[98]⟩] 9)).alloc o).heap.size = wr.heap.size + 2 := fun o => by simp
          (refine wpL_one (i := 11) (by kernel_rfl) (ops_at rfl) (fun K hK => ?_); go_simp; skip; refine hK.out _ _ (⟨(((K2.out.alloc _).alloc _).drew).cell 4, ((K1.out.alloc _).alloc _).drew, ((K2.out.alloc _).alloc _).drew, ((KB.out.alloc hsz _).alloc (by simp; omega) _).drew⟩) (fun hHeld => ?_); clear hK K; (try simp only [Act.put, List.setIfInBounds_toArray, List.set_cons_zero, List.set_cons_succ]))
          (refine wpL_one (i := 12) (by kernel_rfl) (ops_at rfl) (fun K hK => ?_); rw [if_pos (by rfl)]; refine wp_app (.tmp 54) (.tmp 64) 23 rfl Tryd.underlying23 strInfo rfl (by decide) rfl ((KO.out.alloc _).alloc _).drew rfl (rd_one (w := wr.alloc (Obj.cells #[.string ⟨#[97]⟩, .string ⟨#[98]⟩] 9)) 9 (by simp) [98]).drew (svs_one [[98]]) (by omega) (by omega) (by simp; omega) rfl (show (failL p k).map sv ++ [sv [98]] = (failL p (k + 1)).map sv by rw [← HL.out]; simp) ?_; intro A2 d2 w5 hown5 hg5 _; have X2 := (((K2.out.alloc _).alloc _).drew).keep (hg5.block g2 (by simp; omega) (fun e => (HNE.out _ e.symm).2 rfl)); have X1 := (((K1.out.alloc _).alloc _).drew).keep (hg5.block g1 (by simp; omega) (fun e => (HNE.out _ e.symm).1 rfl)); have XB := ((KB.out.alloc hsz _).alloc (by simp; omega) _).drew.grown hg5 (by simp; omega) (fun j hj => by have := (KO.out.blk j hj).1; omega); refine hK.out _ _ (⟨X2.cell 4, X1, X2, XB⟩) (fun hHeld => ?_); clear hK K; (try simp only [Act.put, List.setIfInBounds_toArray, List.set_cons_zero, List.set_cons_succ]))
          have XO := Lib.hid hown5
          have x3 := X2.frozen 4
          have y3 : w5.cell? ⟨g2, 4, none⟩ = some (.slice A k d) := X2.cell 4
          have XX1 := Lib.hid X1
          have XX2 := Lib.hid X2
          have XXB := Lib.hid XB
          have hWw : W1.heap.size ≤ w5.heap.size := by have := hg5.size; simp at this; omega
          have hma : ∀ ad, A1 = some ad → 0 < n1 → ob A ≠ some ad.block := fun ad h h0 e => by have h1 := (KO.out.blk _ e).1; have h2 := hlt1.out ad h h0; omega
          have XS := Lib.hid (SS.mk (w := w5) (KS.out.rd.keep (by have := hg5.size; simp at this; omega) (fun ad h h0 => (hg5.block ad.block (by have := hlt1.out ad h h0; simp; omega) (fun e => hma ad h h0 e.symm)).trans (((Below.refl wr.heap.size wr).alloc (Nat.le_refl _) _).alloc (by simp) _ |>.drew.block ad.block (by have := hlt1.out ad h h0; omega)))) KS.out.le)
          clear hown5 hg5 X1 X2 XB hma
          (refine wpL_take (i := 13) (oi := _) (v := ?_) (ops_at rfl) (by kernel_rfl) (by kernel_rfl) (by kernel_rfl) (fun _ _ _ h => h) (by kernel_rfl) (Or.inl ⟨by rfl, ?_⟩) (by assumption) ?_; rotate_left; (focus (intro w hSw; (try dsimp only at hSw); go_simp; (try with_reducible rfl))); (try simp only [Act.put, List.setIfInBounds_toArray, List.set_cons_zero, List.set_cons_succ]))
          clear hHeld
          (refine wpL_late (i := 14) (by kernel_rfl) (by simp) (ops_at rfl) (fun K hK => ?_); go_simp; skip; refine hK.out _ _ ?_; clear hK K; (try simp only [Act.put, List.setIfInBounds_toArray, List.set_cons_zero, List.set_cons_succ]))
          (refine wpL_done (by kernel_rfl) ?_ _)
          go_wp2_with fail
          refine ⟨⟨k + 1, A2, d2, by omega, by go_num, XX1.out.far hgg _, XX2.out.set_ 4 _, own_set XO.out hgl2 _, bl_set1 XXB.out hgw2 _, by simpa using hWw, XS.out.setCell (fun ad h h0 => (HF1.out ad h h0).1) _⟩, by simp [intOf]; omega⟩
      · have hkk : k = k2 := by omega
        subst hkk
        go_wp2_with fail
        go_meet
        exact ⟨A1, A, n1, c1, k, d, K1.out, K2.out, KS.out, hcap1, ⟨KO.out.rd, by omega⟩, KO.out.cap, (fun ad h h0 => (HF1.out ad h h0).2.1), (fun ad h _ => by have := (KO.out.blk ad.block (by rw [h]; rfl)).1; omega), KB.out⟩
  case rest =>
  obtain ⟨W2, rfl⟩ : ∃ y : World, y = wc := ⟨_, rfl⟩
  obtain ⟨A, B, n, c, m, d, hb1, hb2, hsa, hnc, hsb, hmd, hfa, hfb, hbel⟩ := hcut
  have c0 : W2.cell? ⟨g2, 0, none⟩ = some (.int .i64 e1) := hb2.cell 0
  have c1 : W2.cell? ⟨g2, 1, none⟩ = some (.int .i64 e3) := hb2.cell 1
  have c2 : W2.cell? ⟨g2, 2, none⟩ = some (.int .i64 e2) := hb2.cell 2
  have c3 : W2.cell? ⟨g2, 3, none⟩ = some (.slice A n c) := hb2.cell 3
  have c4 : W2.cell? ⟨g2, 4, none⟩ = some (.slice B m d) := hb2.cell 4
  have c5 : W2.cell? ⟨g2, 5, none⟩ = some (.int .i64 e4) := hb2.cell 5
  have c6 : W2.cell? ⟨g2, 6, none⟩ = some (.int .i64 e5) := hb2.cell 6
  have c7 : W2.cell? ⟨g2, 7, none⟩ = some (.int .i64 e6) := hb2.cell 7
  have a0 : W2.cell? ⟨g1, 0, none⟩ = some (.int .i64 0) := hb1.cell 0
  have a1 : W2.cell? ⟨g1, 1, none⟩ = some (.int .i64 0) := hb1.cell 1
  have a2 : W2.cell? ⟨g1, 2, none⟩ = some (.int .i64 0) := hb1.cell 2
  have a3 : W2.cell? ⟨g1, 3, none⟩ = some (.slice none 0 0) := hb1.cell 3
  have a4 : W2.cell? ⟨g1, 4, none⟩ = some (.slice none 0 0) := hb1.cell 4
  have a5 : W2.cell? ⟨g1, 5, none⟩ = some (.int .i64 0) := hb1.cell 5
  have a6 : W2.cell? ⟨g1, 6, none⟩ = some (.int .i64 0) := hb1.cell 6
  have a7 : W2.cell? ⟨g1, 7, none⟩ = some (.int .i64 0) := hb1.cell 7
  have z0 := hb1.frozen 0
  have z1 := hb1.frozen 1
  have z2 := hb1.frozen 2
  have z3 := hb1.frozen 3
  have z4 := hb1.frozen 4
  have z5 := hb1.frozen 5
  have z6 := hb1.frozen 6
  have z7 := hb1.frozen 7
  have SA := Lib.hid hsa
  have SB := Lib.hid hsb
  have FA := Lib.hid hfa
  have FB := Lib.hid hfb
  have LB := Lib.hid hbel
  clear hb1 hb2 hsa hsb hfa hfb hbel G1 G2 GO GB HS1 HF1 hlt1 ak2 AK1 AK2
  go_wp2_with fail
  refine bodyPost_ret (v := .agg #[.int .i64 e1, .int .i64 e3, .int .i64 e2, .slice A n c, .slice B m d, .int .i64 e4, .int .i64 e5, .int .i64 e6]) ?_ rfl ⟨A, B, n, c, m, d, rfl, ((((((((SA.out).setCell FA.out _).setCell FA.out _).setCell FA.out _).setCell FA.out _).setCell FA.out _).setCell FA.out _).setCell FA.out _).setCell FA.out _, hnc, ((((((((SB.out).setCell FB.out _).setCell FB.out _).setCell FB.out _).setCell FB.out _).setCell FB.out _).setCell FB.out _).setCell FB.out _).setCell FB.out _, hmd, bl_set1 (bl_set1 (bl_set1 (bl_set1 (bl_set1 (bl_set1 (bl_set1 (bl_set1 LB.out hgw _) hgw _) hgw _) hgw _) hgw _) hgw _) hgw _) hgw _⟩
  rw [results_cell1 rfl]
  go_simp
end Go.Proofs.YtkbgedaogfcdnaaDoor
