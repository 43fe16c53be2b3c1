/- rept.read. -/
import Derived.Test.YtkbgedaogfcdnaaDoorReptO
namespace Go.Proofs.YtkbgedaogfcdnaaDoor
set_option linter.unusedSimpArgs false
set_option linter.unusedVariables false
open Go.RowKit
open Crc (Bytes)
def kindsL : List (List UInt8) := [[], Rep.wStart, Rep.wStep, Rep.wKill, Rep.wCut, Rep.wTick, Rep.wEdit, Rep.wRemove, Rep.wRoom]
theorem T_ne {a b : List UInt8} (h : a ≠ b) : T a ≠ T b := fun e => h (T_inj e)
theorem idx_step (c x : List UInt8) (l : List ByteArray) (i : Nat) : Lib.idxFromS (T c :: l) (T x) i = if x = c then (i : Int) else Lib.idxFromS l (T x) (i + 1) := by
  by_cases h : x = c
  · subst h
    rw [if_pos rfl, Lib.idxFromS, if_pos rfl]
  · rw [if_neg h, Lib.idxFromS, if_neg (T_ne (fun e => h e.symm))]
theorem idx_kind (x : List UInt8) : max (Lib.idxOfS (kindsL.map T) (T x)) 0 = Rep.kindNo x := by
  unfold Lib.idxOfS kindsL
  simp only [List.map_cons, List.map_nil, idx_step]
  unfold Rep.kindNo
  by_cases h0 : x = []
  · subst h0; decide
  rw [if_neg h0]
  split; rfl
  split; rfl
  split; rfl
  split; rfl
  split; rfl
  split; rfl
  split; rfl
  split; rfl
  rfl
theorem Bs.setCell {w : World} {A : Option Addr} {n : Nat} {l : List Int} (h : Bs w A n l) {p : Addr} (hp : ∀ ad, A = some ad → 0 < n → ad.block ≠ p.block) (u : Value) : Bs (w.setCell p u) A n l := ⟨h.rd.setCell hp u, h.by_, h.le⟩
theorem joinTail_drop (r : List (List UInt8)) (k : Nat) : (Lib.joinTail [32] (r.drop k)).length ≤ (Lib.joinTail [32] r).length := by
  induction r generalizing k with
  | nil => simp
  | cons x r ih =>
    cases k with
    | zero => simp
    | succ k =>
      have := ih k
      rw [List.drop_succ_cons]
      simp only [Lib.joinTail, List.map_cons, List.flatten_cons, List.length_append] at this ⊢
      omega
theorem join_le_tail (r : List (List UInt8)) : (Lib.join r [32]).length ≤ (Lib.joinTail [32] r).length := by
  cases r with
  | nil => simp [Lib.join_nil]
  | cons x r => rw [Lib.join_cons]; simp [Lib.joinTail]
theorem join_drop (x : List UInt8) (r : List (List UInt8)) (k : Nat) : (Lib.join ((x :: r).drop (k + 1)) [32]).length ≤ (Lib.join (x :: r) [32]).length := by
  rw [List.drop_succ_cons, Lib.join_cons, List.length_append]
  have := join_le_tail (r.drop k)
  have := joinTail_drop r k
  omega
theorem kinds_ss (w : World) (g : Nat) (hg : g = w.heap.size) : SS (w.alloc (.cells #[.string ⟨#[]⟩, .string ⟨#[115, 116, 97, 114, 116]⟩, .string ⟨#[115, 116, 101, 112]⟩, .string ⟨#[107, 105, 108, 108]⟩, .string ⟨#[99, 117, 116]⟩, .string ⟨#[116, 105, 99, 107]⟩, .string ⟨#[101, 100, 105, 116]⟩, .string ⟨#[114, 101, 109, 111, 118, 101]⟩, .string ⟨#[114, 111, 111, 109]⟩] 9)) (some ⟨g, 0, none⟩) 9 kindsL := by
  subst hg
  exact ⟨Rd.lit w _ 9 (0, 0) 1 9 rfl, by omega⟩
theorem bl_set9 {B g : Nat} {w W : World} (h : Below B w W) (hg : B ≤ g) (v0 v1 v2 v3 v4 v5 v6 v7 v8 : Value) : Below B w (((((((((W.setCell ⟨g, 0, none⟩ v0).setCell ⟨g, 1, none⟩ v1).setCell ⟨g, 2, none⟩ v2).setCell ⟨g, 3, none⟩ v3).setCell ⟨g, 4, none⟩ v4).setCell ⟨g, 5, none⟩ v5).setCell ⟨g, 6, none⟩ v6).setCell ⟨g, 7, none⟩ v7).setCell ⟨g, 8, none⟩ v8) :=
  bl_set1 (bl_set1 (bl_set1 (bl_set1 (bl_set1 (bl_set1 (bl_set1 (bl_set1 (bl_set1 h hg _) hg _) hg _) hg _) hg _) hg _) hg _) hg _) hg _
theorem SS.set9 {w : World} {A : Option Addr} {n g : Nat} {l : List (List UInt8)} (h : SS w A n l) (hp : ∀ ad, A = some ad → 0 < n → ad.block ≠ g) (v0 v1 v2 v3 v4 v5 v6 v7 v8 : Value) : SS (((((((((w.setCell ⟨g, 0, none⟩ v0).setCell ⟨g, 1, none⟩ v1).setCell ⟨g, 2, none⟩ v2).setCell ⟨g, 3, none⟩ v3).setCell ⟨g, 4, none⟩ v4).setCell ⟨g, 5, none⟩ v5).setCell ⟨g, 6, none⟩ v6).setCell ⟨g, 7, none⟩ v7).setCell ⟨g, 8, none⟩ v8) A n l :=
  ((((((((h.setCell hp _).setCell hp _).setCell hp _).setCell hp _).setCell hp _).setCell hp _).setCell hp _).setCell hp _).setCell hp _
theorem Bs.set9 {w : World} {A : Option Addr} {n g : Nat} {l : List Int} (h : Bs w A n l) (hp : ∀ ad, A = some ad → 0 < n → ad.block ≠ g) (v0 v1 v2 v3 v4 v5 v6 v7 v8 : Value) : Bs (((((((((w.setCell ⟨g, 0, none⟩ v0).setCell ⟨g, 1, none⟩ v1).setCell ⟨g, 2, none⟩ v2).setCell ⟨g, 3, none⟩ v3).setCell ⟨g, 4, none⟩ v4).setCell ⟨g, 5, none⟩ v5).setCell ⟨g, 6, none⟩ v6).setCell ⟨g, 7, none⟩ v7).setCell ⟨g, 8, none⟩ v8) A n l :=
  ((((((((h.setCell hp _).setCell hp _).setCell hp _).setCell hp _).setCell hp _).setCell hp _).setCell hp _).setCell hp _).setCell hp _
theorem bytesOf_cons (y : List UInt8) (r : List (List UInt8)) : Rep.bytesOf (y :: r) = if y = [45] then [] else Rep.unhexP y := rfl
def zero9 : List Value := [.int .i64 0, .int .i64 0, .int .i64 0, .string ⟨#[]⟩, .slice none 0 0, .bool false, .bool false, .bool false, .slice none 0 0]
/-- What rept.read gives. -/
structure ReadOut (w w' : World) (p : Rep.Ev × Bool) (r : Ending) : Prop where
  out : ∃ B bn bc A n c, r = .returned (.tuple #[.agg (evC p.1 (.slice B bn bc) (.slice A n c)).toArray, .bool p.2]) ∧ Bs w' B bn p.1.bytes ∧ bn ≤ bc ∧ SS w' A n p.1.o.names ∧ n ≤ c ∧ (∀ ad, B = some ad → 0 < bn → w.heap.size ≤ ad.block) ∧ (∀ ad, A = some ad → 0 < n → w.heap.size ≤ ad.block)
  bel : Below w.heap.size w w'
set_option maxRecDepth 100000 in
set_option maxHeartbeats 8000000 in
theorem read_any {w : World} (A : Option Addr) (n c : Nat) (x0 : List UInt8) (xs : List (List UInt8)) (h : SS w A n (x0 :: xs)) (hc : n ≤ c) (hE : Env w) (hj : (Lib.join (x0 :: xs) [32]).length ≤ 99999) (hw : ∀ y ∈ x0 :: xs, y.length ≤ 99999) (hn : n ≤ 100000) :
    Calls Tryd.prog 19 #[.slice A n c] w fun r w' => ReadOut w w' (Rep.readP (x0 :: xs)) r := by
  have hlen := h.len
  have H := Lib.hid h
  have HE := Lib.hid hE
  have HL := Lib.hid hlen
  have HJ := Lib.hid hj
  have HW := Lib.hid hw
  have h1 : 1 ≤ n := by rw [← hlen]; simp
  obtain ⟨ad, _, rfl, hc0⟩ := h.get (k := 0) (by omega)
  have hc0 : w.cell? ad = some (.string (T x0)) := hc0
  have HC0 := Lib.hid hc0
  clear h hE hlen hj hw
  go_enter Tryd.func19, Tryd.ntmps19
  go_upto_region 2 with fail
  obtain ⟨g1, hg1⟩ : ∃ g, g = w.heap.size := ⟨_, rfl⟩
  rw [← hg1]
  refine at_world (fun W => Blk W g1 37 zero9 ∧ SS W (some ⟨g1 + 1, 0, none⟩) 9 kindsL ∧ W.cell? ad = some (.string (T x0)) ∧ Below w.heap.size w W) ⟨(blk_new hg1).alloc _, kinds_ss _ _ (by simp; omega), (Below.cell (w := w) (by (repeat (first | assumption | exact Below.refl _ _ | (with_reducible apply Below.drew) | (with_reducible apply bl_drewN) | (with_reducible apply bl_alloc) | (with_reducible refine bl_then ?_ (by assumption))))) (World.block_lt_of_cell? _ _ hc0)).trans hc0, by (repeat (first | assumption | exact Below.refl _ _ | (with_reducible apply Below.drew) | (with_reducible apply bl_drewN) | (with_reducible apply bl_alloc) | (with_reducible refine bl_then ?_ (by assumption))))⟩ ?_
  rintro W ⟨hb1, hk, hc0, hbel⟩
  have G1 := Lib.hid hb1
  have GB := Lib.hid hbel
  have GK := Lib.hid hk
  have hgw : w.heap.size ≤ g1 := by omega
  clear hb1 hk hbel hg1
  have hix := idx_kind x0
  obtain ⟨K, hK⟩ : ∃ K, Rep.kindNo x0 = K := ⟨_, rfl⟩
  rw [hK] at hix
  have HK := Lib.hid hK
  clear hK
  go_upto_region 3 with (go_at_call 31; refine (idx_any _ 9 9 kindsL x0 GK.out).mono ?_; rintro r w1 ⟨rfl, rfl⟩)
  clear hix
  obtain ⟨g2, hg2⟩ : ∃ g, g = W.heap.size := ⟨_, rfl⟩
  rw [← hg2]
  have hg12 : g1 < g2 := by have := G1.out.lt; omega
  refine at_world (fun W2 => Blk W2 g1 37 zero9 ∧ Blk W2 g2 37 [.int .i64 K, .int .i64 0, .int .i64 0, .string ⟨#[]⟩, .slice none 0 0, .bool false, .bool false, .bool false, .slice none 0 0] ∧ SS W2 (some ad) n (x0 :: xs) ∧ Below w.heap.size w W2) ⟨G1.out.alloc _, blk_new hg2, (H.out.below GB.out).below (by (repeat (first | assumption | exact Below.refl _ _ | (with_reducible apply Below.drew) | (with_reducible apply bl_drewN) | (with_reducible apply bl_alloc) | (with_reducible refine bl_then ?_ (by assumption))))), GB.out.alloc GB.out.size _⟩ ?_
  rintro W2 ⟨hb1, hb2, hss, hbel⟩
  have K1 := Lib.hid hb1
  have K2 := Lib.hid hb2
  have KS := Lib.hid hss
  have KB := Lib.hid hbel
  have had : ad.block < w.heap.size := World.block_lt_of_cell? _ _ HC0.out
  clear hb1 hb2 hss hbel hg2 hc0 G1 GB GK
  by_cases h2 : n < 2
  · have c2 : (n : Int) < 2 := by omega
    have hxs : xs = [] := by have := HL.out; cases xs with | nil => rfl | cons a b => simp at this; omega
    have HR := Lib.hid (show Rep.readP (x0 :: xs) = (⟨K, 0, 0, [], [], Rep.op0⟩, false) by rw [hxs, ← HK.out]; rfl)
    clear hxs
    have c0 : W2.cell? ⟨g2, 0, none⟩ = some (.int .i64 K) := K2.out.cell 0
    have c1 : W2.cell? ⟨g2, 1, none⟩ = some (.int .i64 0) := K2.out.cell 1
    have c2 : W2.cell? ⟨g2, 2, none⟩ = some (.int .i64 0) := K2.out.cell 2
    have c3 : W2.cell? ⟨g2, 3, none⟩ = some (.string ⟨#[]⟩) := K2.out.cell 3
    have c4 : W2.cell? ⟨g2, 4, none⟩ = some (.slice none 0 0) := K2.out.cell 4
    have c5 : W2.cell? ⟨g2, 5, none⟩ = some (.bool false) := K2.out.cell 5
    have c6 : W2.cell? ⟨g2, 6, none⟩ = some (.bool false) := K2.out.cell 6
    have c7 : W2.cell? ⟨g2, 7, none⟩ = some (.bool false) := K2.out.cell 7
    have c8 : W2.cell? ⟨g2, 8, none⟩ = some (.slice none 0 0) := K2.out.cell 8
    have a0 : W2.cell? ⟨g1, 0, none⟩ = some (.int .i64 0) := K1.out.cell 0
    have a1 : W2.cell? ⟨g1, 1, none⟩ = some (.int .i64 0) := K1.out.cell 1
    have a2 : W2.cell? ⟨g1, 2, none⟩ = some (.int .i64 0) := K1.out.cell 2
    have a3 : W2.cell? ⟨g1, 3, none⟩ = some (.string ⟨#[]⟩) := K1.out.cell 3
    have a4 : W2.cell? ⟨g1, 4, none⟩ = some (.slice none 0 0) := K1.out.cell 4
    have a5 : W2.cell? ⟨g1, 5, none⟩ = some (.bool false) := K1.out.cell 5
    have a6 : W2.cell? ⟨g1, 6, none⟩ = some (.bool false) := K1.out.cell 6
    have a7 : W2.cell? ⟨g1, 7, none⟩ = some (.bool false) := K1.out.cell 7
    have a8 : W2.cell? ⟨g1, 8, none⟩ = some (.slice none 0 0) := K1.out.cell 8
    have z0 := K1.out.frozen 0
    have z1 := K1.out.frozen 1
    have z2 := K1.out.frozen 2
    have z3 := K1.out.frozen 3
    have z4 := K1.out.frozen 4
    have z5 := K1.out.frozen 5
    have z6 := K1.out.frozen 6
    have z7 := K1.out.frozen 7
    have z8 := K1.out.frozen 8
    go_wp2_with fail
    refine bodyPost_ret (v := .tuple #[.agg #[.int .i64 K, .int .i64 0, .int .i64 0, .string ⟨#[]⟩, .slice none 0 0, .bool false, .bool false, .bool false, .slice none 0 0], .bool false]) ?_ rfl ⟨⟨none, 0, 0, none, 0, 0, by rw [HR.out]; rfl, ?_, Nat.le_refl _, ?_, Nat.le_refl _, (fun ad h => by cases h), (fun ad h => by cases h)⟩, bl_set9 KB.out hgw _ _ _ _ _ _ _ _ _⟩
    · rw [results_cell_tmp rfl]
      go_simp
    · rw [HR.out]
      exact Bs.set9 (Bs.nil _ _) (fun ad h => by cases h) _ _ _ _ _ _ _ _ _
    · rw [HR.out]
      exact SS.set9 (SS.nil _ _) (fun ad h => by cases h) _ _ _ _ _ _ _ _ _
  have c2 : ¬ (n : Int) < 2 := by omega
  obtain ⟨x1, r, rfl⟩ : ∃ x1 r, xs = x1 :: r := by have := HL.out; cases xs with | nil => simp at this; omega | cons a b => exact ⟨a, b, rfl⟩
  have hx1 : W2.cell? ⟨ad.block, ad.off + 1, none⟩ = some (.string (T x1)) := by
    obtain ⟨ad', _, e, hc⟩ := KS.out.get (k := 1) (by omega)
    cases e
    exact hc
  have lx1 : x1.length ≤ 99999 := HW.out x1 (by simp)
  have hga1 : ad.block ≠ g1 := by omega
  have hga2 : ad.block ≠ g2 := by omega
  by_cases k7 : K = 7
  · subst k7
    have HR := Lib.hid (show Rep.readP (x0 :: x1 :: r) = (⟨7, 0, 0, x1, [], Rep.op0⟩, true) by simp only [Rep.readP, HK.out]; rfl)
    have c0 : W2.cell? ⟨g2, 0, none⟩ = some (.int .i64 7) := K2.out.cell 0
    have c1 : W2.cell? ⟨g2, 1, none⟩ = some (.int .i64 0) := K2.out.cell 1
    have c2 : W2.cell? ⟨g2, 2, none⟩ = some (.int .i64 0) := K2.out.cell 2
    have c3 : W2.cell? ⟨g2, 3, none⟩ = some (.string ⟨#[]⟩) := K2.out.cell 3
    have c4 : W2.cell? ⟨g2, 4, none⟩ = some (.slice none 0 0) := K2.out.cell 4
    have c5 : W2.cell? ⟨g2, 5, none⟩ = some (.bool false) := K2.out.cell 5
    have c6 : W2.cell? ⟨g2, 6, none⟩ = some (.bool false) := K2.out.cell 6
    have c7 : W2.cell? ⟨g2, 7, none⟩ = some (.bool false) := K2.out.cell 7
    have c8 : W2.cell? ⟨g2, 8, none⟩ = some (.slice none 0 0) := K2.out.cell 8
    have y3 := K2.out.frozen 3
    go_upto_region 9 with fail
    refine at_world (fun W3 => Blk W3 g1 37 zero9 ∧ Blk W3 g2 37 [.int .i64 7, .int .i64 0, .int .i64 0, .string (T x1), .slice none 0 0, .bool false, .bool false, .bool false, .slice none 0 0] ∧ SS W3 (some ad) n (x0 :: x1 :: r) ∧ Below w.heap.size w W3) ⟨K1.out.far (Nat.ne_of_lt hg12) _, K2.out.set_ 3 _, KS.out.setCell (fun a h _ => by cases h; exact hga2) _, bl_set1 KB.out (by omega) _⟩ ?_
    rintro W3 ⟨hb1, hb2, hss, hbel⟩
    have M1 := Lib.hid hb1
    have M2 := Lib.hid hb2
    have MS := Lib.hid hss
    have MB := Lib.hid hbel
    clear hb1 hb2 hss hbel c0 c1 c3 c4 c5 c6 c7 c8 y3 hx1
    have c0 : W3.cell? ⟨g2, 0, none⟩ = some (.int .i64 7) := M2.out.cell 0
    have c1 : W3.cell? ⟨g2, 1, none⟩ = some (.int .i64 0) := M2.out.cell 1
    have c2 : W3.cell? ⟨g2, 2, none⟩ = some (.int .i64 0) := M2.out.cell 2
    have c3 : W3.cell? ⟨g2, 3, none⟩ = some (.string (T x1)) := M2.out.cell 3
    have c4 : W3.cell? ⟨g2, 4, none⟩ = some (.slice none 0 0) := M2.out.cell 4
    have c5 : W3.cell? ⟨g2, 5, none⟩ = some (.bool false) := M2.out.cell 5
    have c6 : W3.cell? ⟨g2, 6, none⟩ = some (.bool false) := M2.out.cell 6
    have c7 : W3.cell? ⟨g2, 7, none⟩ = some (.bool false) := M2.out.cell 7
    have c8 : W3.cell? ⟨g2, 8, none⟩ = some (.slice none 0 0) := M2.out.cell 8
    have a0 : W3.cell? ⟨g1, 0, none⟩ = some (.int .i64 0) := M1.out.cell 0
    have a1 : W3.cell? ⟨g1, 1, none⟩ = some (.int .i64 0) := M1.out.cell 1
    have a2 : W3.cell? ⟨g1, 2, none⟩ = some (.int .i64 0) := M1.out.cell 2
    have a3 : W3.cell? ⟨g1, 3, none⟩ = some (.string ⟨#[]⟩) := M1.out.cell 3
    have a4 : W3.cell? ⟨g1, 4, none⟩ = some (.slice none 0 0) := M1.out.cell 4
    have a5 : W3.cell? ⟨g1, 5, none⟩ = some (.bool false) := M1.out.cell 5
    have a6 : W3.cell? ⟨g1, 6, none⟩ = some (.bool false) := M1.out.cell 6
    have a7 : W3.cell? ⟨g1, 7, none⟩ = some (.bool false) := M1.out.cell 7
    have a8 : W3.cell? ⟨g1, 8, none⟩ = some (.slice none 0 0) := M1.out.cell 8
    have z0 := M1.out.frozen 0
    have z1 := M1.out.frozen 1
    have z2 := M1.out.frozen 2
    have z3 := M1.out.frozen 3
    have z4 := M1.out.frozen 4
    have z5 := M1.out.frozen 5
    have z6 := M1.out.frozen 6
    have z7 := M1.out.frozen 7
    have z8 := M1.out.frozen 8
    go_wp2_with fail
    refine bodyPost_ret (v := .tuple #[.agg #[.int .i64 7, .int .i64 0, .int .i64 0, .string (T x1), .slice none 0 0, .bool false, .bool false, .bool false, .slice none 0 0], .bool true]) ?_ rfl ⟨⟨none, 0, 0, none, 0, 0, by rw [HR.out]; rfl, ?_, Nat.le_refl _, ?_, Nat.le_refl _, (fun ad h => by cases h), (fun ad h => by cases h)⟩, bl_set9 MB.out hgw _ _ _ _ _ _ _ _ _⟩
    · rw [results_cell_tmp rfl]
      go_simp
    · rw [HR.out]
      exact Bs.set9 (Bs.nil _ _) (fun ad h => by cases h) _ _ _ _ _ _ _ _ _
    · rw [HR.out]
      exact SS.set9 (SS.nil _ _) (fun ad h => by cases h) _ _ _ _ _ _ _ _ _
  by_cases k6 : K = 6
  · subst k6
    have HR0 := Lib.hid (show Rep.readP (x0 :: x1 :: r) = (⟨6, 0, 0, x1, Rep.bytesOf r, Rep.op0⟩, true) by simp only [Rep.readP, HK.out]; rfl)
    have c0 : W2.cell? ⟨g2, 0, none⟩ = some (.int .i64 6) := K2.out.cell 0
    have c1 : W2.cell? ⟨g2, 1, none⟩ = some (.int .i64 0) := K2.out.cell 1
    have c2 : W2.cell? ⟨g2, 2, none⟩ = some (.int .i64 0) := K2.out.cell 2
    have c3 : W2.cell? ⟨g2, 3, none⟩ = some (.string ⟨#[]⟩) := K2.out.cell 3
    have c4 : W2.cell? ⟨g2, 4, none⟩ = some (.slice none 0 0) := K2.out.cell 4
    have c5 : W2.cell? ⟨g2, 5, none⟩ = some (.bool false) := K2.out.cell 5
    have c6 : W2.cell? ⟨g2, 6, none⟩ = some (.bool false) := K2.out.cell 6
    have c7 : W2.cell? ⟨g2, 7, none⟩ = some (.bool false) := K2.out.cell 7
    have c8 : W2.cell? ⟨g2, 8, none⟩ = some (.slice none 0 0) := K2.out.cell 8
    have y3 := K2.out.frozen 3
    go_upto_region 9 with fail
    refine at_world (fun W3 => Blk W3 g1 37 zero9 ∧ Blk W3 g2 37 [.int .i64 6, .int .i64 0, .int .i64 0, .string (T x1), .slice none 0 0, .bool false, .bool false, .bool false, .slice none 0 0] ∧ SS W3 (some ad) n (x0 :: x1 :: r) ∧ Below w.heap.size w W3) ⟨K1.out.far (Nat.ne_of_lt hg12) _, K2.out.set_ 3 _, KS.out.setCell (fun a h _ => by cases h; exact hga2) _, bl_set1 KB.out (by omega) _⟩ ?_
    rintro W3 ⟨hb1, hb2, hss, hbel⟩
    have M1 := Lib.hid hb1
    have M2 := Lib.hid hb2
    have MS := Lib.hid hss
    have MB := Lib.hid hbel
    clear hb1 hb2 hss hbel c0 c1 c3 c4 c5 c6 c7 c8 y3 hx1
    have c0 : W3.cell? ⟨g2, 0, none⟩ = some (.int .i64 6) := M2.out.cell 0
    have c1 : W3.cell? ⟨g2, 1, none⟩ = some (.int .i64 0) := M2.out.cell 1
    have c2 : W3.cell? ⟨g2, 2, none⟩ = some (.int .i64 0) := M2.out.cell 2
    have c3 : W3.cell? ⟨g2, 3, none⟩ = some (.string (T x1)) := M2.out.cell 3
    have c4 : W3.cell? ⟨g2, 4, none⟩ = some (.slice none 0 0) := M2.out.cell 4
    have c5 : W3.cell? ⟨g2, 5, none⟩ = some (.bool false) := M2.out.cell 5
    have c6 : W3.cell? ⟨g2, 6, none⟩ = some (.bool false) := M2.out.cell 6
    have c7 : W3.cell? ⟨g2, 7, none⟩ = some (.bool false) := M2.out.cell 7
    have c8 : W3.cell? ⟨g2, 8, none⟩ = some (.slice none 0 0) := M2.out.cell 8
    have a0 : W3.cell? ⟨g1, 0, none⟩ = some (.int .i64 0) := M1.out.cell 0
    have a1 : W3.cell? ⟨g1, 1, none⟩ = some (.int .i64 0) := M1.out.cell 1
    have a2 : W3.cell? ⟨g1, 2, none⟩ = some (.int .i64 0) := M1.out.cell 2
    have a3 : W3.cell? ⟨g1, 3, none⟩ = some (.string ⟨#[]⟩) := M1.out.cell 3
    have a4 : W3.cell? ⟨g1, 4, none⟩ = some (.slice none 0 0) := M1.out.cell 4
    have a5 : W3.cell? ⟨g1, 5, none⟩ = some (.bool false) := M1.out.cell 5
    have a6 : W3.cell? ⟨g1, 6, none⟩ = some (.bool false) := M1.out.cell 6
    have a7 : W3.cell? ⟨g1, 7, none⟩ = some (.bool false) := M1.out.cell 7
    have a8 : W3.cell? ⟨g1, 8, none⟩ = some (.slice none 0 0) := M1.out.cell 8
    have z0 := M1.out.frozen 0
    have z1 := M1.out.frozen 1
    have z2 := M1.out.frozen 2
    have z3 := M1.out.frozen 3
    have z4 := M1.out.frozen 4
    have z5 := M1.out.frozen 5
    have z6 := M1.out.frozen 6
    have z7 := M1.out.frozen 7
    have z8 := M1.out.frozen 8
    by_cases h3 : n ≤ 2
    · have c9 : ¬ (2 : Int) < (n : Int) := by omega
      have hr : r = [] := by have := HL.out; cases r with | nil => rfl | cons a b => simp at this; omega
      have HR := Lib.hid (show Rep.readP (x0 :: x1 :: r) = (⟨6, 0, 0, x1, [], Rep.op0⟩, true) by rw [HR0.out, hr]; rfl)
      clear hr
      go_wp2_with fail
      refine bodyPost_ret (v := .tuple #[.agg #[.int .i64 6, .int .i64 0, .int .i64 0, .string (T x1), .slice none 0 0, .bool false, .bool false, .bool false, .slice none 0 0], .bool true]) ?_ rfl ⟨⟨none, 0, 0, none, 0, 0, by rw [HR.out]; rfl, ?_, Nat.le_refl _, ?_, Nat.le_refl _, (fun ad h => by cases h), (fun ad h => by cases h)⟩, bl_set9 MB.out hgw _ _ _ _ _ _ _ _ _⟩
      · rw [results_cell_tmp rfl]
        go_simp
      · rw [HR.out]
        exact Bs.set9 (Bs.nil _ _) (fun ad h => by cases h) _ _ _ _ _ _ _ _ _
      · rw [HR.out]
        exact SS.set9 (SS.nil _ _) (fun ad h => by cases h) _ _ _ _ _ _ _ _ _
    have c9 : (2 : Int) < (n : Int) := by omega
    obtain ⟨x2, r2, rfl⟩ : ∃ x2 r2, r = x2 :: r2 := by have := HL.out; cases r with | nil => simp at this; omega | cons a b => exact ⟨a, b, rfl⟩
    have hx2 : W3.cell? ⟨ad.block, ad.off + 2, none⟩ = some (.string (T x2)) := by
      obtain ⟨ad', _, e, hc⟩ := MS.out.get (k := 2) (by omega)
      cases e
      exact hc
    have lx2 : x2.length ≤ 99999 := HW.out x2 (by simp)
    by_cases hm : x2 = [45]
    · have e2 := T_cmp x2 [45] true (decide_eq_true hm)
      have HR := Lib.hid (show Rep.readP (x0 :: x1 :: x2 :: r2) = (⟨6, 0, 0, x1, [], Rep.op0⟩, true) by rw [HR0.out, bytesOf_cons, if_pos hm])
      clear hm
      go_wp2_with fail
      refine bodyPost_ret (v := .tuple #[.agg #[.int .i64 6, .int .i64 0, .int .i64 0, .string (T x1), .slice none 0 0, .bool false, .bool false, .bool false, .slice none 0 0], .bool true]) ?_ rfl ⟨⟨none, 0, 0, none, 0, 0, by rw [HR.out]; rfl, ?_, Nat.le_refl _, ?_, Nat.le_refl _, (fun ad h => by cases h), (fun ad h => by cases h)⟩, bl_set9 MB.out hgw _ _ _ _ _ _ _ _ _⟩
      · rw [results_cell_tmp rfl]
        go_simp
      · rw [HR.out]
        exact Bs.set9 (Bs.nil _ _) (fun ad h => by cases h) _ _ _ _ _ _ _ _ _
      · rw [HR.out]
        exact SS.set9 (SS.nil _ _) (fun ad h => by cases h) _ _ _ _ _ _ _ _ _
    have e2 := T_cmp x2 [45] false (decide_eq_false hm)
    have HR := Lib.hid (show Rep.readP (x0 :: x1 :: x2 :: r2) = (⟨6, 0, 0, x1, Rep.unhexP x2, Rep.op0⟩, true) by rw [HR0.out, bytesOf_cons, if_neg hm])
    clear hm
    have y4 := M2.out.frozen 4
    go_upto_region 10 with fail
    go_wp2_with fail
    refine (unhex_any x2 _ (by omega)).mono ?_
    rintro r w5 ⟨B, bc, rfl, ho, hb5⟩
    have N1 := Lib.hid (M1.out.below hb5)
    have n2 := M2.out.below hb5
    have N2 := Lib.hid n2
    have NBl := Lib.hid (MB.out.trans (hb5.mono MB.out.size))
    have NO := Lib.hid ho
    have y4 := n2.frozen 4
    have c4 : w5.cell? ⟨g2, 4, none⟩ = some (.slice none 0 0) := n2.cell 4
    have hgl2 := M2.out.lt
    clear ho hb5 n2
    go_upto_region 11 with fail
    have hlu := Rep.unhexP_len x2
    obtain ⟨U, hU⟩ : ∃ U, Rep.unhexP x2 = U := ⟨_, rfl⟩
    have HUb := Lib.hid (show ∀ x ∈ U, 0 ≤ x ∧ x ≤ 255 by rw [← hU]; exact Rep.unhexP_by x2)
    rw [hU] at NO HR hlu
    rw [hU]
    obtain ⟨un, hun⟩ : ∃ un, U.length = un := ⟨_, rfl⟩
    rw [hun] at NO hlu
    rw [hun]
    have hul : un ≤ 1000000 := by omega
    clear hU hlu hun
    refine at_world (fun W6 => Blk W6 g1 37 zero9 ∧ Blk W6 g2 37 [.int .i64 6, .int .i64 0, .int .i64 0, .string (T x1), .slice B un bc, .bool false, .bool false, .bool false, .slice none 0 0] ∧ Own W6 W3.heap.size 5 1 B un bc (ints .u8 U) ∧ Below w.heap.size w W6) ⟨N1.out.far (Nat.ne_of_lt hg12) _, N2.out.set_ 4 _, own_set NO.out hgl2 _, bl_set1 NBl.out (by omega) _⟩ ?_
    rintro W6 ⟨hb1, hb2, ho, hbel⟩
    have Q1 := Lib.hid hb1
    have Q2 := Lib.hid hb2
    have QO := Lib.hid ho
    have QB := Lib.hid hbel
    have hbf : ∀ a, B = some a → 0 < un → a.block ≠ g1 := fun a h _ => by have := (ho.blk a.block (by rw [h]; rfl)).1; omega
    have QF := Lib.hid hbf
    have QS := Lib.hid (Bs.mk ho.rd HUb.out (by omega))
    clear hb1 hb2 ho hbel hbf c0 c1 c2 c3 c4 c5 c6 c7 c8 a0 a1 a2 a3 a4 a5 a6 a7 a8 z0 z1 z2 z3 z4 z5 z6 z7 z8 y4 hx2 N1 N2 NO NBl
    have c0 : W6.cell? ⟨g2, 0, none⟩ = some (.int .i64 6) := Q2.out.cell 0
    have c1 : W6.cell? ⟨g2, 1, none⟩ = some (.int .i64 0) := Q2.out.cell 1
    have c2 : W6.cell? ⟨g2, 2, none⟩ = some (.int .i64 0) := Q2.out.cell 2
    have c3 : W6.cell? ⟨g2, 3, none⟩ = some (.string (T x1)) := Q2.out.cell 3
    have c4 : W6.cell? ⟨g2, 4, none⟩ = some (.slice B un bc) := Q2.out.cell 4
    have c5 : W6.cell? ⟨g2, 5, none⟩ = some (.bool false) := Q2.out.cell 5
    have c6 : W6.cell? ⟨g2, 6, none⟩ = some (.bool false) := Q2.out.cell 6
    have c7 : W6.cell? ⟨g2, 7, none⟩ = some (.bool false) := Q2.out.cell 7
    have c8 : W6.cell? ⟨g2, 8, none⟩ = some (.slice none 0 0) := Q2.out.cell 8
    have a0 : W6.cell? ⟨g1, 0, none⟩ = some (.int .i64 0) := Q1.out.cell 0
    have a1 : W6.cell? ⟨g1, 1, none⟩ = some (.int .i64 0) := Q1.out.cell 1
    have a2 : W6.cell? ⟨g1, 2, none⟩ = some (.int .i64 0) := Q1.out.cell 2
    have a3 : W6.cell? ⟨g1, 3, none⟩ = some (.string ⟨#[]⟩) := Q1.out.cell 3
    have a4 : W6.cell? ⟨g1, 4, none⟩ = some (.slice none 0 0) := Q1.out.cell 4
    have a5 : W6.cell? ⟨g1, 5, none⟩ = some (.bool false) := Q1.out.cell 5
    have a6 : W6.cell? ⟨g1, 6, none⟩ = some (.bool false) := Q1.out.cell 6
    have a7 : W6.cell? ⟨g1, 7, none⟩ = some (.bool false) := Q1.out.cell 7
    have a8 : W6.cell? ⟨g1, 8, none⟩ = some (.slice none 0 0) := Q1.out.cell 8
    have z0 := Q1.out.frozen 0
    have z1 := Q1.out.frozen 1
    have z2 := Q1.out.frozen 2
    have z3 := Q1.out.frozen 3
    have z4 := Q1.out.frozen 4
    have z5 := Q1.out.frozen 5
    have z6 := Q1.out.frozen 6
    have z7 := Q1.out.frozen 7
    have z8 := Q1.out.frozen 8
    go_wp2_with fail
    refine bodyPost_ret (v := .tuple #[.agg #[.int .i64 6, .int .i64 0, .int .i64 0, .string (T x1), .slice B un bc, .bool false, .bool false, .bool false, .slice none 0 0], .bool true]) ?_ rfl ⟨⟨B, un, bc, none, 0, 0, by rw [HR.out]; rfl, ?_, QO.out.cap, ?_, Nat.le_refl _, (fun a h _ => by have := (QO.out.blk a.block (by rw [h]; rfl)).1; have := MB.out.size; omega), (fun ad h => by cases h)⟩, bl_set9 QB.out hgw _ _ _ _ _ _ _ _ _⟩
    · rw [results_cell_tmp rfl]
      go_simp
    · rw [HR.out]
      exact Bs.set9 (QS.out) QF.out _ _ _ _ _ _ _ _ _
    · rw [HR.out]
      exact SS.set9 (SS.nil _ _) (fun ad h => by cases h) _ _ _ _ _ _ _ _ _
  by_cases k2 : K = 2
  · subst k2
    have c0 : W2.cell? ⟨g2, 0, none⟩ = some (.int .i64 2) := K2.out.cell 0
    have c1 : W2.cell? ⟨g2, 1, none⟩ = some (.int .i64 0) := K2.out.cell 1
    have c2 : W2.cell? ⟨g2, 2, none⟩ = some (.int .i64 0) := K2.out.cell 2
    have c3 : W2.cell? ⟨g2, 3, none⟩ = some (.string ⟨#[]⟩) := K2.out.cell 3
    have c4 : W2.cell? ⟨g2, 4, none⟩ = some (.slice none 0 0) := K2.out.cell 4
    have c5 : W2.cell? ⟨g2, 5, none⟩ = some (.bool false) := K2.out.cell 5
    have c6 : W2.cell? ⟨g2, 6, none⟩ = some (.bool false) := K2.out.cell 6
    have c7 : W2.cell? ⟨g2, 7, none⟩ = some (.bool false) := K2.out.cell 7
    have c8 : W2.cell? ⟨g2, 8, none⟩ = some (.slice none 0 0) := K2.out.cell 8
    go_wp2_with fail
    refine (rNum_any x1 _ (HE.out.below KB.out) (by omega)).mono ?_
    rintro rr w4 ⟨rfl, hb4⟩
    have M1 := Lib.hid (K1.out.below hb4)
    have M2 := Lib.hid (K2.out.below hb4)
    have MS := Lib.hid (KS.out.below hb4)
    have MB := Lib.hid (KB.out.trans (hb4.mono KB.out.size))
    obtain ⟨v, hv⟩ : ∃ v, (Rep.numP x1).getD 0 = v := ⟨_, rfl⟩
    obtain ⟨okb, hok⟩ : ∃ b, (Rep.numP x1).isSome = b := ⟨_, rfl⟩
    rw [hv, hok]
    have HV := Lib.hid hv
    have HOK := Lib.hid hok
    clear hb4 hv hok c0 c1 c2 c3 c4 c5 c6 c7 c8 hx1
    have c0 : w4.cell? ⟨g2, 0, none⟩ = some (.int .i64 2) := M2.out.cell 0
    have c1 : w4.cell? ⟨g2, 1, none⟩ = some (.int .i64 0) := M2.out.cell 1
    have c2 : w4.cell? ⟨g2, 2, none⟩ = some (.int .i64 0) := M2.out.cell 2
    have c3 : w4.cell? ⟨g2, 3, none⟩ = some (.string ⟨#[]⟩) := M2.out.cell 3
    have c4 : w4.cell? ⟨g2, 4, none⟩ = some (.slice none 0 0) := M2.out.cell 4
    have c5 : w4.cell? ⟨g2, 5, none⟩ = some (.bool false) := M2.out.cell 5
    have c6 : w4.cell? ⟨g2, 6, none⟩ = some (.bool false) := M2.out.cell 6
    have c7 : w4.cell? ⟨g2, 7, none⟩ = some (.bool false) := M2.out.cell 7
    have c8 : w4.cell? ⟨g2, 8, none⟩ = some (.slice none 0 0) := M2.out.cell 8
    have y1 := M2.out.frozen 1
    have HR := Lib.hid (show Rep.readP (x0 :: x1 :: r) = (⟨2, v, 0, [], [], Rep.op0⟩, okb) by simp only [Rep.readP, HK.out]; rw [← HV.out, ← HOK.out]; rfl)
    go_upto_region 23 with fail
    refine at_world (fun W5 => Blk W5 g1 37 zero9 ∧ Blk W5 g2 37 [.int .i64 2, .int .i64 v, .int .i64 0, .string ⟨#[]⟩, .slice none 0 0, .bool false, .bool false, .bool false, .slice none 0 0] ∧ SS W5 (some ad) n (x0 :: x1 :: r) ∧ Below w.heap.size w W5) ⟨M1.out.far (Nat.ne_of_lt hg12) _, M2.out.set_ 1 _, MS.out.setCell (fun a h _ => by cases h; exact hga2) _, bl_set1 MB.out (by omega) _⟩ ?_
    rintro W5 ⟨hb1, hb2, hss, hbel⟩
    have Q1 := Lib.hid hb1
    have Q2 := Lib.hid hb2
    have QS := Lib.hid hss
    have QB := Lib.hid hbel
    clear hb1 hb2 hss hbel c0 c1 c2 c3 c4 c5 c6 c7 c8 y1 M1 M2 MS MB
    have c0 : W5.cell? ⟨g2, 0, none⟩ = some (.int .i64 2) := Q2.out.cell 0
    have c1 : W5.cell? ⟨g2, 1, none⟩ = some (.int .i64 v) := Q2.out.cell 1
    have c2 : W5.cell? ⟨g2, 2, none⟩ = some (.int .i64 0) := Q2.out.cell 2
    have c3 : W5.cell? ⟨g2, 3, none⟩ = some (.string ⟨#[]⟩) := Q2.out.cell 3
    have c4 : W5.cell? ⟨g2, 4, none⟩ = some (.slice none 0 0) := Q2.out.cell 4
    have c5 : W5.cell? ⟨g2, 5, none⟩ = some (.bool false) := Q2.out.cell 5
    have c6 : W5.cell? ⟨g2, 6, none⟩ = some (.bool false) := Q2.out.cell 6
    have c7 : W5.cell? ⟨g2, 7, none⟩ = some (.bool false) := Q2.out.cell 7
    have c8 : W5.cell? ⟨g2, 8, none⟩ = some (.slice none 0 0) := Q2.out.cell 8
    have a0 : W5.cell? ⟨g1, 0, none⟩ = some (.int .i64 0) := Q1.out.cell 0
    have a1 : W5.cell? ⟨g1, 1, none⟩ = some (.int .i64 0) := Q1.out.cell 1
    have a2 : W5.cell? ⟨g1, 2, none⟩ = some (.int .i64 0) := Q1.out.cell 2
    have a3 : W5.cell? ⟨g1, 3, none⟩ = some (.string ⟨#[]⟩) := Q1.out.cell 3
    have a4 : W5.cell? ⟨g1, 4, none⟩ = some (.slice none 0 0) := Q1.out.cell 4
    have a5 : W5.cell? ⟨g1, 5, none⟩ = some (.bool false) := Q1.out.cell 5
    have a6 : W5.cell? ⟨g1, 6, none⟩ = some (.bool false) := Q1.out.cell 6
    have a7 : W5.cell? ⟨g1, 7, none⟩ = some (.bool false) := Q1.out.cell 7
    have a8 : W5.cell? ⟨g1, 8, none⟩ = some (.slice none 0 0) := Q1.out.cell 8
    have z0 := Q1.out.frozen 0
    have z1 := Q1.out.frozen 1
    have z2 := Q1.out.frozen 2
    have z3 := Q1.out.frozen 3
    have z4 := Q1.out.frozen 4
    have z5 := Q1.out.frozen 5
    have z6 := Q1.out.frozen 6
    have z7 := Q1.out.frozen 7
    have z8 := Q1.out.frozen 8
    go_wp2_with fail
    refine bodyPost_ret (v := .tuple #[.agg #[.int .i64 2, .int .i64 v, .int .i64 0, .string ⟨#[]⟩, .slice none 0 0, .bool false, .bool false, .bool false, .slice none 0 0], .bool okb]) ?_ rfl ⟨⟨none, 0, 0, none, 0, 0, by rw [HR.out]; rfl, ?_, Nat.le_refl _, ?_, Nat.le_refl _, (fun ad h => by cases h), (fun ad h => by cases h)⟩, bl_set9 QB.out hgw _ _ _ _ _ _ _ _ _⟩
    · rw [results_cell_tmp rfl]
      go_simp
    · rw [HR.out]
      exact Bs.set9 (Bs.nil _ _) (fun ad h => by cases h) _ _ _ _ _ _ _ _ _
    · rw [HR.out]
      exact SS.set9 (SS.nil _ _) (fun ad h => by cases h) _ _ _ _ _ _ _ _ _
  by_cases k3 : K = 3
  · subst k3
    have c0 : W2.cell? ⟨g2, 0, none⟩ = some (.int .i64 3) := K2.out.cell 0
    have c1 : W2.cell? ⟨g2, 1, none⟩ = some (.int .i64 0) := K2.out.cell 1
    have c2 : W2.cell? ⟨g2, 2, none⟩ = some (.int .i64 0) := K2.out.cell 2
    have c3 : W2.cell? ⟨g2, 3, none⟩ = some (.string ⟨#[]⟩) := K2.out.cell 3
    have c4 : W2.cell? ⟨g2, 4, none⟩ = some (.slice none 0 0) := K2.out.cell 4
    have c5 : W2.cell? ⟨g2, 5, none⟩ = some (.bool false) := K2.out.cell 5
    have c6 : W2.cell? ⟨g2, 6, none⟩ = some (.bool false) := K2.out.cell 6
    have c7 : W2.cell? ⟨g2, 7, none⟩ = some (.bool false) := K2.out.cell 7
    have c8 : W2.cell? ⟨g2, 8, none⟩ = some (.slice none 0 0) := K2.out.cell 8
    go_wp2_with fail
    refine (rNum_any x1 _ (HE.out.below KB.out) (by omega)).mono ?_
    rintro rr w4 ⟨rfl, hb4⟩
    have M1 := Lib.hid (K1.out.below hb4)
    have M2 := Lib.hid (K2.out.below hb4)
    have MS := Lib.hid (KS.out.below hb4)
    have MB := Lib.hid (KB.out.trans (hb4.mono KB.out.size))
    obtain ⟨v, hv⟩ : ∃ v, (Rep.numP x1).getD 0 = v := ⟨_, rfl⟩
    obtain ⟨okb, hok⟩ : ∃ b, (Rep.numP x1).isSome = b := ⟨_, rfl⟩
    rw [hv, hok]
    have HV := Lib.hid hv
    have HOK := Lib.hid hok
    clear hb4 hv hok c0 c1 c2 c3 c4 c5 c6 c7 c8 hx1
    have c0 : w4.cell? ⟨g2, 0, none⟩ = some (.int .i64 3) := M2.out.cell 0
    have c1 : w4.cell? ⟨g2, 1, none⟩ = some (.int .i64 0) := M2.out.cell 1
    have c2 : w4.cell? ⟨g2, 2, none⟩ = some (.int .i64 0) := M2.out.cell 2
    have c3 : w4.cell? ⟨g2, 3, none⟩ = some (.string ⟨#[]⟩) := M2.out.cell 3
    have c4 : w4.cell? ⟨g2, 4, none⟩ = some (.slice none 0 0) := M2.out.cell 4
    have c5 : w4.cell? ⟨g2, 5, none⟩ = some (.bool false) := M2.out.cell 5
    have c6 : w4.cell? ⟨g2, 6, none⟩ = some (.bool false) := M2.out.cell 6
    have c7 : w4.cell? ⟨g2, 7, none⟩ = some (.bool false) := M2.out.cell 7
    have c8 : w4.cell? ⟨g2, 8, none⟩ = some (.slice none 0 0) := M2.out.cell 8
    have y1 := M2.out.frozen 1
    have HR := Lib.hid (show Rep.readP (x0 :: x1 :: r) = (⟨3, v, 0, [], [], Rep.op0⟩, okb) by simp only [Rep.readP, HK.out]; rw [← HV.out, ← HOK.out]; rfl)
    go_upto_region 23 with fail
    refine at_world (fun W5 => Blk W5 g1 37 zero9 ∧ Blk W5 g2 37 [.int .i64 3, .int .i64 v, .int .i64 0, .string ⟨#[]⟩, .slice none 0 0, .bool false, .bool false, .bool false, .slice none 0 0] ∧ SS W5 (some ad) n (x0 :: x1 :: r) ∧ Below w.heap.size w W5) ⟨M1.out.far (Nat.ne_of_lt hg12) _, M2.out.set_ 1 _, MS.out.setCell (fun a h _ => by cases h; exact hga2) _, bl_set1 MB.out (by omega) _⟩ ?_
    rintro W5 ⟨hb1, hb2, hss, hbel⟩
    have Q1 := Lib.hid hb1
    have Q2 := Lib.hid hb2
    have QS := Lib.hid hss
    have QB := Lib.hid hbel
    clear hb1 hb2 hss hbel c0 c1 c2 c3 c4 c5 c6 c7 c8 y1 M1 M2 MS MB
    have c0 : W5.cell? ⟨g2, 0, none⟩ = some (.int .i64 3) := Q2.out.cell 0
    have c1 : W5.cell? ⟨g2, 1, none⟩ = some (.int .i64 v) := Q2.out.cell 1
    have c2 : W5.cell? ⟨g2, 2, none⟩ = some (.int .i64 0) := Q2.out.cell 2
    have c3 : W5.cell? ⟨g2, 3, none⟩ = some (.string ⟨#[]⟩) := Q2.out.cell 3
    have c4 : W5.cell? ⟨g2, 4, none⟩ = some (.slice none 0 0) := Q2.out.cell 4
    have c5 : W5.cell? ⟨g2, 5, none⟩ = some (.bool false) := Q2.out.cell 5
    have c6 : W5.cell? ⟨g2, 6, none⟩ = some (.bool false) := Q2.out.cell 6
    have c7 : W5.cell? ⟨g2, 7, none⟩ = some (.bool false) := Q2.out.cell 7
    have c8 : W5.cell? ⟨g2, 8, none⟩ = some (.slice none 0 0) := Q2.out.cell 8
    have a0 : W5.cell? ⟨g1, 0, none⟩ = some (.int .i64 0) := Q1.out.cell 0
    have a1 : W5.cell? ⟨g1, 1, none⟩ = some (.int .i64 0) := Q1.out.cell 1
    have a2 : W5.cell? ⟨g1, 2, none⟩ = some (.int .i64 0) := Q1.out.cell 2
    have a3 : W5.cell? ⟨g1, 3, none⟩ = some (.string ⟨#[]⟩) := Q1.out.cell 3
    have a4 : W5.cell? ⟨g1, 4, none⟩ = some (.slice none 0 0) := Q1.out.cell 4
    have a5 : W5.cell? ⟨g1, 5, none⟩ = some (.bool false) := Q1.out.cell 5
    have a6 : W5.cell? ⟨g1, 6, none⟩ = some (.bool false) := Q1.out.cell 6
    have a7 : W5.cell? ⟨g1, 7, none⟩ = some (.bool false) := Q1.out.cell 7
    have a8 : W5.cell? ⟨g1, 8, none⟩ = some (.slice none 0 0) := Q1.out.cell 8
    have z0 := Q1.out.frozen 0
    have z1 := Q1.out.frozen 1
    have z2 := Q1.out.frozen 2
    have z3 := Q1.out.frozen 3
    have z4 := Q1.out.frozen 4
    have z5 := Q1.out.frozen 5
    have z6 := Q1.out.frozen 6
    have z7 := Q1.out.frozen 7
    have z8 := Q1.out.frozen 8
    go_wp2_with fail
    refine bodyPost_ret (v := .tuple #[.agg #[.int .i64 3, .int .i64 v, .int .i64 0, .string ⟨#[]⟩, .slice none 0 0, .bool false, .bool false, .bool false, .slice none 0 0], .bool okb]) ?_ rfl ⟨⟨none, 0, 0, none, 0, 0, by rw [HR.out]; rfl, ?_, Nat.le_refl _, ?_, Nat.le_refl _, (fun ad h => by cases h), (fun ad h => by cases h)⟩, bl_set9 QB.out hgw _ _ _ _ _ _ _ _ _⟩
    · rw [results_cell_tmp rfl]
      go_simp
    · rw [HR.out]
      exact Bs.set9 (Bs.nil _ _) (fun ad h => by cases h) _ _ _ _ _ _ _ _ _
    · rw [HR.out]
      exact SS.set9 (SS.nil _ _) (fun ad h => by cases h) _ _ _ _ _ _ _ _ _
  by_cases k1 : K = 1
  · subst k1
    have c0 : W2.cell? ⟨g2, 0, none⟩ = some (.int .i64 1) := K2.out.cell 0
    have c1 : W2.cell? ⟨g2, 1, none⟩ = some (.int .i64 0) := K2.out.cell 1
    have c2 : W2.cell? ⟨g2, 2, none⟩ = some (.int .i64 0) := K2.out.cell 2
    have c3 : W2.cell? ⟨g2, 3, none⟩ = some (.string ⟨#[]⟩) := K2.out.cell 3
    have c4 : W2.cell? ⟨g2, 4, none⟩ = some (.slice none 0 0) := K2.out.cell 4
    have c5 : W2.cell? ⟨g2, 5, none⟩ = some (.bool false) := K2.out.cell 5
    have c6 : W2.cell? ⟨g2, 6, none⟩ = some (.bool false) := K2.out.cell 6
    have c7 : W2.cell? ⟨g2, 7, none⟩ = some (.bool false) := K2.out.cell 7
    have c8 : W2.cell? ⟨g2, 8, none⟩ = some (.slice none 0 0) := K2.out.cell 8
    go_wp2_with fail
    refine (rNum_any x1 _ (HE.out.below KB.out) (by omega)).mono ?_
    rintro rr w4 ⟨rfl, hb4⟩
    have M1 := Lib.hid (K1.out.below hb4)
    have M2 := Lib.hid (K2.out.below hb4)
    have MS := Lib.hid (KS.out.below hb4)
    have MB := Lib.hid (KB.out.trans (hb4.mono KB.out.size))
    obtain ⟨v, hv⟩ : ∃ v, (Rep.numP x1).getD 0 = v := ⟨_, rfl⟩
    obtain ⟨okb, hok⟩ : ∃ b, (Rep.numP x1).isSome = b := ⟨_, rfl⟩
    rw [hv, hok]
    have HV := Lib.hid hv
    have HOK := Lib.hid hok
    clear hb4 hv hok c0 c1 c2 c3 c4 c5 c6 c7 c8 hx1
    have c0 : w4.cell? ⟨g2, 0, none⟩ = some (.int .i64 1) := M2.out.cell 0
    have c1 : w4.cell? ⟨g2, 1, none⟩ = some (.int .i64 0) := M2.out.cell 1
    have c2 : w4.cell? ⟨g2, 2, none⟩ = some (.int .i64 0) := M2.out.cell 2
    have c3 : w4.cell? ⟨g2, 3, none⟩ = some (.string ⟨#[]⟩) := M2.out.cell 3
    have c4 : w4.cell? ⟨g2, 4, none⟩ = some (.slice none 0 0) := M2.out.cell 4
    have c5 : w4.cell? ⟨g2, 5, none⟩ = some (.bool false) := M2.out.cell 5
    have c6 : w4.cell? ⟨g2, 6, none⟩ = some (.bool false) := M2.out.cell 6
    have c7 : w4.cell? ⟨g2, 7, none⟩ = some (.bool false) := M2.out.cell 7
    have c8 : w4.cell? ⟨g2, 8, none⟩ = some (.slice none 0 0) := M2.out.cell 8
    have y1 := M2.out.frozen 1
    go_upto_region 17 with fail
    refine at_world (fun W5 => Blk W5 g1 37 zero9 ∧ Blk W5 g2 37 [.int .i64 1, .int .i64 v, .int .i64 0, .string ⟨#[]⟩, .slice none 0 0, .bool false, .bool false, .bool false, .slice none 0 0] ∧ SS W5 (some ad) n (x0 :: x1 :: r) ∧ Below w.heap.size w W5) ⟨M1.out.far (Nat.ne_of_lt hg12) _, M2.out.set_ 1 _, MS.out.setCell (fun a h _ => by cases h; exact hga2) _, bl_set1 MB.out (by omega) _⟩ ?_
    rintro W5 ⟨hb1, hb2, hss, hbel⟩
    have Q1 := Lib.hid hb1
    have Q2 := Lib.hid hb2
    have QS := Lib.hid hss
    have QB := Lib.hid hbel
    clear hb1 hb2 hss hbel c0 c1 c2 c3 c4 c5 c6 c7 c8 y1 M1 M2 MS MB
    have hsl := fun w => slice_from (P := Tryd.prog) (A := some ad) (kk := .i64) (k := 2) Tryd.underlying23 strS (by omega : 2 ≤ n) hc w
    obtain ⟨A2, hA2⟩ : ∃ A2, (if c = 2 then some ad else (some ad).map (·.add (2 * 1))) = A2 := ⟨_, rfl⟩
    rw [hA2] at hsl
    have hsl : ∀ w : World, (Instr.slice 23 (.slice (some ad) n c) (some (.int .i64 2)) none none).run Tryd.prog w = .ok (.slice A2 (n - 2) (c - 2)) w := hsl
    have hfr := (QS.out.rd.from_ (by omega : 2 ≤ n) hc hA2).1
    rw [Nat.mul_one, ← List.map_drop] at hfr
    have HF := Lib.hid (show SS W5 A2 (n - 2) r from SS.mk hfr (by omega))
    have HJ2 := Lib.hid (show (Lib.join r [32]).length ≤ 99999 from Nat.le_trans (join_drop x0 (x1 :: r) 1) HJ.out)
    clear hA2 hfr
    go_wp2_with fail
    refine (join_any A2 (n - 2) (c - 2) r [32] HF.out (by omega) (by have := HJ2.out; omega) (by omega)).mono ?_
    rintro rr w6 ⟨rfl, hb6⟩
    have R1 := Lib.hid (Q1.out.below hb6)
    have R2 := Lib.hid (Q2.out.below hb6)
    have RB := Lib.hid (QB.out.trans (hb6.mono QB.out.size))
    clear hb6 hsl
    go_wp2_with fail
    refine (oparse_any (Lib.join r [32]) _ HJ2.out).mono ?_
    rintro rr w7 ⟨⟨A3, n3, q3, rfl, hs3, hc3, hf3⟩, hb7⟩
    obtain ⟨o, ho⟩ : ∃ o, (Rep.optParse (Lib.join r [32])).getD Rep.op0 = o := ⟨_, rfl⟩
    obtain ⟨isb, his⟩ : ∃ b, (Rep.optParse (Lib.join r [32])).isSome = b := ⟨_, rfl⟩
    rw [ho] at hs3
    rw [ho, his]
    obtain ⟨od, of_, oc, on⟩ := o
    have HR := Lib.hid (show Rep.readP (x0 :: x1 :: r) = (⟨1, v, 0, [], [], ⟨od, of_, oc, on⟩⟩, okb && isb) by simp only [Rep.readP, HK.out]; rw [← HV.out, ← HOK.out, ← ho, ← his]; rfl)
    have hg8 : g2 < w7.heap.size := Nat.lt_of_lt_of_le R2.out.lt hb7.size
    have S1 := Lib.hid (R1.out.below hb7)
    have S2 := Lib.hid (R2.out.below hb7)
    have SB := Lib.hid (RB.out.trans (hb7.mono RB.out.size))
    have SS3 := Lib.hid hs3
    have hf4 : ∀ a, A3 = some a → 0 < n3 → g2 < a.block := fun a h h0 => by have := hf3 a h h0; have := R2.out.lt; omega
    have SF := Lib.hid hf4
    clear hs3 hf3 hf4 hb7 ho his
    dsimp only [opC]
    have c0 : w7.cell? ⟨g2, 0, none⟩ = some (.int .i64 1) := S2.out.cell 0
    have c1 : w7.cell? ⟨g2, 1, none⟩ = some (.int .i64 v) := S2.out.cell 1
    have c2 : w7.cell? ⟨g2, 2, none⟩ = some (.int .i64 0) := S2.out.cell 2
    have c3 : w7.cell? ⟨g2, 3, none⟩ = some (.string ⟨#[]⟩) := S2.out.cell 3
    have c4 : w7.cell? ⟨g2, 4, none⟩ = some (.slice none 0 0) := S2.out.cell 4
    have c5 : w7.cell? ⟨g2, 5, none⟩ = some (.bool false) := S2.out.cell 5
    have c6 : w7.cell? ⟨g2, 6, none⟩ = some (.bool false) := S2.out.cell 6
    have c7 : w7.cell? ⟨g2, 7, none⟩ = some (.bool false) := S2.out.cell 7
    have c8 : w7.cell? ⟨g2, 8, none⟩ = some (.slice none 0 0) := S2.out.cell 8
    have y5 := S2.out.frozen 5
    have y6 := S2.out.frozen 6
    have y7 := S2.out.frozen 7
    have y8 := S2.out.frozen 8
    go_upto_region 19 with fail
    refine at_world (fun W9 => Blk W9 g1 37 zero9 ∧ Blk W9 g2 37 [.int .i64 1, .int .i64 v, .int .i64 0, .string ⟨#[]⟩, .slice none 0 0, .bool od, .bool of_, .bool oc, .slice A3 n3 q3] ∧ SS W9 A3 n3 on ∧ Below w.heap.size w W9) ⟨?_, ?_, ?_, ?_⟩ ?_
    · exact ((((S1.out.far (Nat.ne_of_lt hg12) _).far (Nat.ne_of_lt hg12) _).far (Nat.ne_of_lt hg12) _).far (Nat.ne_of_lt hg12) _).alloc _
    · exact ((((S2.out.set_ 5 _).set_ 6 _).set_ 7 _).set_ 8 _).alloc _
    · have hp : ∀ a, A3 = some a → 0 < n3 → a.block ≠ g2 := fun a h h0 => Nat.ne_of_gt (SF.out a h h0)
      exact ((((SS3.out.setCell hp _).setCell hp _).setCell hp _).setCell hp _).below ((Below.refl _ _).alloc (Nat.le_refl _) _)
    · have hq : w.heap.size ≤ g2 := by omega
      have hz := bl_set1 (bl_set1 (bl_set1 (bl_set1 SB.out hq (.bool od) (i := 5)) hq (.bool of_) (i := 6)) hq (.bool oc) (i := 7)) hq (.slice A3 n3 q3) (i := 8)
      exact hz.alloc hz.size _
    rintro W9 ⟨hb1, hb2, hss, hbel⟩
    have U1 := Lib.hid hb1
    have U2 := Lib.hid hb2
    have US := Lib.hid hss
    have UB := Lib.hid hbel
    have UF := Lib.hid (show ∀ a, A3 = some a → 0 < n3 → a.block ≠ g1 from fun a h h0 => by have := SF.out a h h0; omega)
    clear hb1 hb2 hss hbel c0 c1 c2 c3 c4 c5 c6 c7 c8 y5 y6 y7 y8 S1 S2 SB SS3
    have c0 : W9.cell? ⟨g2, 0, none⟩ = some (.int .i64 1) := U2.out.cell 0
    have c1 : W9.cell? ⟨g2, 1, none⟩ = some (.int .i64 v) := U2.out.cell 1
    have c2 : W9.cell? ⟨g2, 2, none⟩ = some (.int .i64 0) := U2.out.cell 2
    have c3 : W9.cell? ⟨g2, 3, none⟩ = some (.string ⟨#[]⟩) := U2.out.cell 3
    have c4 : W9.cell? ⟨g2, 4, none⟩ = some (.slice none 0 0) := U2.out.cell 4
    have c5 : W9.cell? ⟨g2, 5, none⟩ = some (.bool od) := U2.out.cell 5
    have c6 : W9.cell? ⟨g2, 6, none⟩ = some (.bool of_) := U2.out.cell 6
    have c7 : W9.cell? ⟨g2, 7, none⟩ = some (.bool oc) := U2.out.cell 7
    have c8 : W9.cell? ⟨g2, 8, none⟩ = some (.slice A3 n3 q3) := U2.out.cell 8
    have a0 : W9.cell? ⟨g1, 0, none⟩ = some (.int .i64 0) := U1.out.cell 0
    have a1 : W9.cell? ⟨g1, 1, none⟩ = some (.int .i64 0) := U1.out.cell 1
    have a2 : W9.cell? ⟨g1, 2, none⟩ = some (.int .i64 0) := U1.out.cell 2
    have a3 : W9.cell? ⟨g1, 3, none⟩ = some (.string ⟨#[]⟩) := U1.out.cell 3
    have a4 : W9.cell? ⟨g1, 4, none⟩ = some (.slice none 0 0) := U1.out.cell 4
    have a5 : W9.cell? ⟨g1, 5, none⟩ = some (.bool false) := U1.out.cell 5
    have a6 : W9.cell? ⟨g1, 6, none⟩ = some (.bool false) := U1.out.cell 6
    have a7 : W9.cell? ⟨g1, 7, none⟩ = some (.bool false) := U1.out.cell 7
    have a8 : W9.cell? ⟨g1, 8, none⟩ = some (.slice none 0 0) := U1.out.cell 8
    have z0 := U1.out.frozen 0
    have z1 := U1.out.frozen 1
    have z2 := U1.out.frozen 2
    have z3 := U1.out.frozen 3
    have z4 := U1.out.frozen 4
    have z5 := U1.out.frozen 5
    have z6 := U1.out.frozen 6
    have z7 := U1.out.frozen 7
    have z8 := U1.out.frozen 8
    cases okb with
    | true =>
      go_wp2_with fail
      refine bodyPost_ret (v := .tuple #[.agg #[.int .i64 1, .int .i64 v, .int .i64 0, .string ⟨#[]⟩, .slice none 0 0, .bool od, .bool of_, .bool oc, .slice A3 n3 q3], .bool isb]) ?_ rfl ⟨⟨none, 0, 0, A3, n3, q3, by rw [HR.out]; rfl, ?_, Nat.le_refl _, ?_, hc3, (fun ad h => by cases h), (fun a h h0 => by have := SF.out a h h0; omega)⟩, bl_set9 UB.out hgw _ _ _ _ _ _ _ _ _⟩
      · rw [results_cell_tmp rfl]
        go_simp
      · rw [HR.out]
        exact Bs.set9 (Bs.nil _ _) (fun ad h => by cases h) _ _ _ _ _ _ _ _ _
      · rw [HR.out]
        exact SS.set9 (US.out) UF.out _ _ _ _ _ _ _ _ _
    | false =>
      go_wp2_with fail
      refine bodyPost_ret (v := .tuple #[.agg #[.int .i64 1, .int .i64 v, .int .i64 0, .string ⟨#[]⟩, .slice none 0 0, .bool od, .bool of_, .bool oc, .slice A3 n3 q3], .bool false]) ?_ rfl ⟨⟨none, 0, 0, A3, n3, q3, by rw [HR.out]; rfl, ?_, Nat.le_refl _, ?_, hc3, (fun ad h => by cases h), (fun a h h0 => by have := SF.out a h h0; omega)⟩, bl_set9 UB.out hgw _ _ _ _ _ _ _ _ _⟩
      · rw [results_cell_tmp rfl]
        go_simp
      · rw [HR.out]
        exact Bs.set9 (Bs.nil _ _) (fun ad h => by cases h) _ _ _ _ _ _ _ _ _
      · rw [HR.out]
        exact SS.set9 (US.out) UF.out _ _ _ _ _ _ _ _ _
  have e7 : (K == 7) = false := by rw [beq_eq_false_iff_ne]; exact k7
  have e6 : (K == 6) = false := by rw [beq_eq_false_iff_ne]; exact k6
  have e1 : (K == 1) = false := by rw [beq_eq_false_iff_ne]; exact k1
  have e2 : (K == 2) = false := by rw [beq_eq_false_iff_ne]; exact k2
  have e3 : (K == 3) = false := by rw [beq_eq_false_iff_ne]; exact k3
  have c0 : W2.cell? ⟨g2, 0, none⟩ = some (.int .i64 K) := K2.out.cell 0
  have c1 : W2.cell? ⟨g2, 1, none⟩ = some (.int .i64 0) := K2.out.cell 1
  have c2 : W2.cell? ⟨g2, 2, none⟩ = some (.int .i64 0) := K2.out.cell 2
  have c3 : W2.cell? ⟨g2, 3, none⟩ = some (.string ⟨#[]⟩) := K2.out.cell 3
  have c4 : W2.cell? ⟨g2, 4, none⟩ = some (.slice none 0 0) := K2.out.cell 4
  have c5 : W2.cell? ⟨g2, 5, none⟩ = some (.bool false) := K2.out.cell 5
  have c6 : W2.cell? ⟨g2, 6, none⟩ = some (.bool false) := K2.out.cell 6
  have c7 : W2.cell? ⟨g2, 7, none⟩ = some (.bool false) := K2.out.cell 7
  have c8 : W2.cell? ⟨g2, 8, none⟩ = some (.slice none 0 0) := K2.out.cell 8
  go_wp2_with fail
  refine (rNum_any x1 _ (HE.out.below KB.out) (by omega)).mono ?_
  rintro rr w4 ⟨rfl, hb4⟩
  have M1 := Lib.hid (K1.out.below hb4)
  have M2 := Lib.hid (K2.out.below hb4)
  have MS := Lib.hid (KS.out.below hb4)
  have MB := Lib.hid (KB.out.trans (hb4.mono KB.out.size))
  obtain ⟨v, hv⟩ : ∃ v, (Rep.numP x1).getD 0 = v := ⟨_, rfl⟩
  obtain ⟨okb, hok⟩ : ∃ b, (Rep.numP x1).isSome = b := ⟨_, rfl⟩
  rw [hv, hok]
  have HV := Lib.hid hv
  have HOK := Lib.hid hok
  clear hb4 hv hok c0 c1 c2 c3 c4 c5 c6 c7 c8 hx1
  have c0 : w4.cell? ⟨g2, 0, none⟩ = some (.int .i64 K) := M2.out.cell 0
  have c1 : w4.cell? ⟨g2, 1, none⟩ = some (.int .i64 0) := M2.out.cell 1
  have c2 : w4.cell? ⟨g2, 2, none⟩ = some (.int .i64 0) := M2.out.cell 2
  have c3 : w4.cell? ⟨g2, 3, none⟩ = some (.string ⟨#[]⟩) := M2.out.cell 3
  have c4 : w4.cell? ⟨g2, 4, none⟩ = some (.slice none 0 0) := M2.out.cell 4
  have c5 : w4.cell? ⟨g2, 5, none⟩ = some (.bool false) := M2.out.cell 5
  have c6 : w4.cell? ⟨g2, 6, none⟩ = some (.bool false) := M2.out.cell 6
  have c7 : w4.cell? ⟨g2, 7, none⟩ = some (.bool false) := M2.out.cell 7
  have c8 : w4.cell? ⟨g2, 8, none⟩ = some (.slice none 0 0) := M2.out.cell 8
  have y2 := M2.out.frozen 2
  have HR := Lib.hid (show Rep.readP (x0 :: x1 :: r) = (⟨K, 0, v, [], [], Rep.op0⟩, okb) by simp only [Rep.readP, HK.out, if_neg k7, if_neg k6, if_neg k1, if_neg k2, if_neg k3]; rw [← HV.out, ← HOK.out]; rfl)
  go_upto_region 23 with fail
  refine at_world (fun W5 => Blk W5 g1 37 zero9 ∧ Blk W5 g2 37 [.int .i64 K, .int .i64 0, .int .i64 v, .string ⟨#[]⟩, .slice none 0 0, .bool false, .bool false, .bool false, .slice none 0 0] ∧ SS W5 (some ad) n (x0 :: x1 :: r) ∧ Below w.heap.size w W5) ⟨M1.out.far (Nat.ne_of_lt hg12) _, M2.out.set_ 2 _, MS.out.setCell (fun a h _ => by cases h; exact hga2) _, bl_set1 MB.out (by omega) _⟩ ?_
  rintro W5 ⟨hb1, hb2, hss, hbel⟩
  have Q1 := Lib.hid hb1
  have Q2 := Lib.hid hb2
  have QS := Lib.hid hss
  have QB := Lib.hid hbel
  clear hb1 hb2 hss hbel c0 c1 c2 c3 c4 c5 c6 c7 c8 y2 M1 M2 MS MB
  have c0 : W5.cell? ⟨g2, 0, none⟩ = some (.int .i64 K) := Q2.out.cell 0
  have c1 : W5.cell? ⟨g2, 1, none⟩ = some (.int .i64 0) := Q2.out.cell 1
  have c2 : W5.cell? ⟨g2, 2, none⟩ = some (.int .i64 v) := Q2.out.cell 2
  have c3 : W5.cell? ⟨g2, 3, none⟩ = some (.string ⟨#[]⟩) := Q2.out.cell 3
  have c4 : W5.cell? ⟨g2, 4, none⟩ = some (.slice none 0 0) := Q2.out.cell 4
  have c5 : W5.cell? ⟨g2, 5, none⟩ = some (.bool false) := Q2.out.cell 5
  have c6 : W5.cell? ⟨g2, 6, none⟩ = some (.bool false) := Q2.out.cell 6
  have c7 : W5.cell? ⟨g2, 7, none⟩ = some (.bool false) := Q2.out.cell 7
  have c8 : W5.cell? ⟨g2, 8, none⟩ = some (.slice none 0 0) := Q2.out.cell 8
  have a0 : W5.cell? ⟨g1, 0, none⟩ = some (.int .i64 0) := Q1.out.cell 0
  have a1 : W5.cell? ⟨g1, 1, none⟩ = some (.int .i64 0) := Q1.out.cell 1
  have a2 : W5.cell? ⟨g1, 2, none⟩ = some (.int .i64 0) := Q1.out.cell 2
  have a3 : W5.cell? ⟨g1, 3, none⟩ = some (.string ⟨#[]⟩) := Q1.out.cell 3
  have a4 : W5.cell? ⟨g1, 4, none⟩ = some (.slice none 0 0) := Q1.out.cell 4
  have a5 : W5.cell? ⟨g1, 5, none⟩ = some (.bool false) := Q1.out.cell 5
  have a6 : W5.cell? ⟨g1, 6, none⟩ = some (.bool false) := Q1.out.cell 6
  have a7 : W5.cell? ⟨g1, 7, none⟩ = some (.bool false) := Q1.out.cell 7
  have a8 : W5.cell? ⟨g1, 8, none⟩ = some (.slice none 0 0) := Q1.out.cell 8
  have z0 := Q1.out.frozen 0
  have z1 := Q1.out.frozen 1
  have z2 := Q1.out.frozen 2
  have z3 := Q1.out.frozen 3
  have z4 := Q1.out.frozen 4
  have z5 := Q1.out.frozen 5
  have z6 := Q1.out.frozen 6
  have z7 := Q1.out.frozen 7
  have z8 := Q1.out.frozen 8
  go_wp2_with fail
  refine bodyPost_ret (v := .tuple #[.agg #[.int .i64 K, .int .i64 0, .int .i64 v, .string ⟨#[]⟩, .slice none 0 0, .bool false, .bool false, .bool false, .slice none 0 0], .bool okb]) ?_ rfl ⟨⟨none, 0, 0, none, 0, 0, by rw [HR.out]; rfl, ?_, Nat.le_refl _, ?_, Nat.le_refl _, (fun ad h => by cases h), (fun ad h => by cases h)⟩, bl_set9 QB.out hgw _ _ _ _ _ _ _ _ _⟩
  · rw [results_cell_tmp rfl]
    go_simp
  · rw [HR.out]
    exact Bs.set9 (Bs.nil _ _) (fun ad h => by cases h) _ _ _ _ _ _ _ _ _
  · rw [HR.out]
    exact SS.set9 (SS.nil _ _) (fun ad h => by cases h) _ _ _ _ _ _ _ _ _
end Go.Proofs.YtkbgedaogfcdnaaDoor
