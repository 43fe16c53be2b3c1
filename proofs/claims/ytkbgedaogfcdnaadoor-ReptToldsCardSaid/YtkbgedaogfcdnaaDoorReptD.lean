/- optn.Same with none; rept.start. -/
import Derived.Test.YtkbgedaogfcdnaaDoorReptC
namespace Go.Proofs.YtkbgedaogfcdnaaDoor
set_option linter.unusedSimpArgs false
set_option linter.unusedVariables false
open Go.RowKit
open Crc (Bytes)
set_option maxRecDepth 100000 in
set_option maxHeartbeats 2000000 in
theorem same0_any {w : World} (o : Rep.Op) (A : Option Addr) (n c : Nat) (h : SS w A n o.names) :
    Calls Tryd.prog 38 #[.agg (opC o (.slice A n c)).toArray, .agg #[.bool false, .bool false, .bool false, .slice none 0 0]] w fun e w' => e = .returned (.bool (decide (o = Rep.op0))) ∧ Below w.heap.size w w' := by
  obtain ⟨dry, fast, clean, names⟩ := o
  have H := Lib.hid h
  clear h
  simp only at H
  unfold opC
  cases dry with
  | true =>
    have HD := Lib.hid (show decide ((⟨true, fast, clean, names⟩ : Rep.Op) = Rep.op0) = false by apply decide_eq_false; intro e; cases e)
    rw [HD.out]
    go_enter Tryd.func38, Tryd.ntmps38
    go_wp2_with fail
    go_ret
    exact ⟨rfl, by (repeat (first | assumption | exact Below.refl _ _ | (with_reducible apply Below.drew) | (with_reducible apply bl_drewN) | (with_reducible apply bl_alloc) | (with_reducible refine bl_then ?_ (by assumption))))⟩
  | false =>
  cases fast with
  | true =>
    have HD := Lib.hid (show decide ((⟨false, true, clean, names⟩ : Rep.Op) = Rep.op0) = false by apply decide_eq_false; intro e; cases e)
    rw [HD.out]
    go_enter Tryd.func38, Tryd.ntmps38
    go_wp2_with fail
    go_ret
    exact ⟨rfl, by (repeat (first | assumption | exact Below.refl _ _ | (with_reducible apply Below.drew) | (with_reducible apply bl_drewN) | (with_reducible apply bl_alloc) | (with_reducible refine bl_then ?_ (by assumption))))⟩
  | false =>
  cases clean with
  | true =>
    have HD := Lib.hid (show decide ((⟨false, false, true, names⟩ : Rep.Op) = Rep.op0) = false by apply decide_eq_false; intro e; cases e)
    rw [HD.out]
    go_enter Tryd.func38, Tryd.ntmps38
    go_wp2_with fail
    go_ret
    exact ⟨rfl, by (repeat (first | assumption | exact Below.refl _ _ | (with_reducible apply Below.drew) | (with_reducible apply bl_drewN) | (with_reducible apply bl_alloc) | (with_reducible refine bl_then ?_ (by assumption))))⟩
  | false =>
    have HD := Lib.hid (show decide ((⟨false, false, false, names⟩ : Rep.Op) = Rep.op0) = decide (names = []) by
      apply decide_eq_decide.2
      constructor
      · intro e; cases e; rfl
      · intro e; rw [e]; rfl)
    rw [HD.out]
    clear HD
    go_enter Tryd.func38, Tryd.ntmps38
    go_wp2_with fail
    refine (equal_nil A n c names (H.out.below (by (repeat (first | assumption | exact Below.refl _ _ | (with_reducible apply Below.drew) | (with_reducible apply bl_drewN) | (with_reducible apply bl_alloc) | (with_reducible refine bl_then ?_ (by assumption))))))).mono ?_
    rintro e w' ⟨rfl, rfl⟩
    go_wp2_with fail
    go_ret
    exact ⟨rfl, by (repeat (first | assumption | exact Below.refl _ _ | (with_reducible apply Below.drew) | (with_reducible apply bl_drewN) | (with_reducible apply bl_alloc) | (with_reducible refine bl_then ?_ (by assumption))))⟩
/-- An event's cells. -/
def evC (e : Rep.Ev) (b n : Value) : List Value := [.int .i64 e.kind, .int .i64 e.who, .int .i64 e.n, .string (T e.name), b, .bool e.o.dry, .bool e.o.fast, .bool e.o.clean, n]
/-- What is known of an event's rows, and of its numbers. -/
structure EvIn (w : World) (e : Rep.Ev) (B A : Option Addr) (bn bc n c : Nat) : Prop where
  by_ : Bs w B bn e.bytes
  cap : bn ≤ bc
  small : bn ≤ 1000000
  ss : SS w A n e.o.names
  short : Short e.o.names
  name : e.name.length ≤ 1048576
  kind : In e.kind
  who : In e.who
  num : In e.n
theorem EvIn.below {w w' : World} {e : Rep.Ev} {B A : Option Addr} {bn bc n c : Nat} (h : EvIn w e B A bn bc n c) (hb : Below w.heap.size w w') : EvIn w' e B A bn bc n c :=
  ⟨h.by_.below hb, h.cap, h.small, h.ss.below hb, h.short, h.name, h.kind, h.who, h.num⟩
set_option maxRecDepth 100000 in
set_option maxHeartbeats 2000000 in
theorem start_any {w : World} (e : Rep.Ev) (B A : Option Addr) (bn bc n c : Nat) (h : EvIn w e B A bn bc n c) (hE : Env w) :
    Calls Tryd.prog 22 #[.agg (evC e (.slice B bn bc) (.slice A n c)).toArray] w fun r w' => r = .returned (.string (T (Rep.startT e))) ∧ Below w.heap.size w w' := by
  have H := Lib.hid h
  have HE := Lib.hid hE
  have z1 := dec_size e.who
  have z2 := text_len e.o
  have z3 := T_size e.o.text
  have hem := T_empty e.o.text
  clear h hE
  unfold evC
  go_enter Tryd.func22, Tryd.ntmps22
  go_upto_region 1 with fail
  obtain ⟨g, hg⟩ : ∃ g, g = w.heap.size := ⟨_, rfl⟩
  rw [← hg]
  refine at_world (fun W => Blk W g 37 [.int .i64 e.kind, .int .i64 e.who, .int .i64 e.n, .string (T e.name), .slice B bn bc, .bool e.o.dry, .bool e.o.fast, .bool e.o.clean, .slice A n c] ∧ Below w.heap.size w W) ⟨blk_new hg, by (repeat (first | assumption | exact Below.refl _ _ | (with_reducible apply Below.drew) | (with_reducible apply bl_drewN) | (with_reducible apply bl_alloc) | (with_reducible refine bl_then ?_ (by assumption))))⟩ ?_
  rintro W ⟨hb, hbel⟩
  have HB := Lib.hid hb
  have HBel := Lib.hid hbel
  have c5 : W.cell? ⟨g, 5, none⟩ = some (.bool e.o.dry) := hb.cell 5
  have c6 : W.cell? ⟨g, 6, none⟩ = some (.bool e.o.fast) := hb.cell 6
  have c7 : W.cell? ⟨g, 7, none⟩ = some (.bool e.o.clean) := hb.cell 7
  have c8 : W.cell? ⟨g, 8, none⟩ = some (.slice A n c) := hb.cell 8
  clear hb hbel hg
  go_wp2_with fail
  refine (print_any e.o A n c (H.out.ss.below HBel.out) H.out.short).mono ?_
  rintro r w1 ⟨rfl, hb1⟩
  have c5 : w1.cell? ⟨g, 5, none⟩ = some (.bool e.o.dry) := (HB.out.below hb1).cell 5
  have c6 : w1.cell? ⟨g, 6, none⟩ = some (.bool e.o.fast) := (HB.out.below hb1).cell 6
  have c7 : w1.cell? ⟨g, 7, none⟩ = some (.bool e.o.clean) := (HB.out.below hb1).cell 7
  have c8 : w1.cell? ⟨g, 8, none⟩ = some (.slice A n c) := (HB.out.below hb1).cell 8
  have c1 : w1.cell? ⟨g, 1, none⟩ = some (.int .i64 e.who) := (HB.out.below hb1).cell 1
  have HB1 := Lib.hid (HB.out.below hb1)
  have HBe1 := Lib.hid (HBel.out.trans (hb1.mono HBel.out.size))
  have hi := H.out.who
  clear hb1 HB
  by_cases ht : e.o.text = []
  · have HT := Lib.hid ht
    have e1 : (T e.o.text).toList.isEmpty = true := by rw [hem]; exact decide_eq_true ht
    clear hem ht
    go_wp2_with fail
    refine (same0_any e.o A n c (H.out.ss.below HBe1.out)).mono ?_
    rintro r w2 ⟨rfl, hb2⟩
    have c1 : w2.cell? ⟨g, 1, none⟩ = some (.int .i64 e.who) := (HB1.out.below hb2).cell 1
    have HBe2 := Lib.hid (HBe1.out.trans (hb2.mono HBe1.out.size))
    clear hb2
    by_cases ho : e.o = Rep.op0
    · have hd : decide (e.o = Rep.op0) = true := decide_eq_true ho
      have HO := Lib.hid (show Rep.startT e = Rep.wStart ++ 32 :: Rep.dec e.who by
        unfold Rep.startT
        rw [if_neg (fun h => h HT.out), if_neg (fun h => h ho)])
      rw [hd]
      clear ho hd
      go_wp2_with fail
      refine (rnum_any e.who hi.1 hi.2 _ (HE.out.below HBe2.out)).mono ?_
      rintro r w3 ⟨rfl, hb3⟩
      have HBe3 := Lib.hid (HBe2.out.trans (hb3.mono HBe2.out.size))
      clear hb3
      go_wp2_with fail
      go_ret
      exact ⟨congrArg (fun s => Ending.returned (Value.string s)) (by rw [HO.out]; exact ba_ext (by simp [T, Rep.wStart])), HBe3.out⟩
    · have hd : decide (e.o = Rep.op0) = false := decide_eq_false ho
      have HO := Lib.hid (show Rep.startT e = [] by
        unfold Rep.startT
        rw [if_neg (fun h => h HT.out), if_pos ho])
      rw [hd]
      clear ho hd
      go_wp2_with fail
      go_ret
      exact ⟨by rw [HO.out]; rfl, HBe2.out⟩
  · have HO := Lib.hid (show Rep.startT e = Rep.wStart ++ 32 :: Rep.dec e.who ++ 32 :: e.o.text by
      unfold Rep.startT
      rw [if_pos ht])
    have e1 : (T e.o.text).toList.isEmpty = false := by rw [hem]; exact decide_eq_false ht
    clear hem ht
    go_wp2_with fail
    refine (rnum_any e.who hi.1 hi.2 _ (HE.out.below HBe1.out)).mono ?_
    rintro r w3 ⟨rfl, hb3⟩
    have HBe3 := Lib.hid (HBe1.out.trans (hb3.mono HBe1.out.size))
    clear hb3
    go_wp2_with fail
    go_ret
    exact ⟨congrArg (fun s => Ending.returned (Value.string s)) (by rw [HO.out]; exact ba_ext (by simp [T, Rep.wStart])), HBe3.out⟩
end Go.Proofs.YtkbgedaogfcdnaaDoor
