/- rept.Event. -/
import Derived.Test.YtkbgedaogfcdnaaDoorReptD
namespace Go.Proofs.YtkbgedaogfcdnaaDoor
set_option linter.unusedSimpArgs false
set_option linter.unusedVariables false
open Go.RowKit
open Crc (Bytes)
theorem evT_eq (kind who n : Int) (name : List UInt8) (bytes : List Int) (o : Rep.Op) : Rep.evT ⟨kind, who, n, name, bytes, o⟩ =
    (if kind = 1 then Rep.startT ⟨kind, who, n, name, bytes, o⟩ else if kind = 2 then Rep.wStep ++ 32 :: Rep.dec who else if kind = 3 then Rep.wKill ++ 32 :: Rep.dec who else if kind = 4 then Rep.wCut ++ 32 :: Rep.dec n else if kind = 5 then Rep.wTick ++ 32 :: Rep.dec n else if kind = 6 then (if Rep.okL name then Rep.wEdit ++ 32 :: name ++ 32 :: Rep.hexT bytes else []) else if kind = 7 then (if Rep.okL name then Rep.wRemove ++ 32 :: name else []) else if kind = 8 then Rep.wRoom ++ 32 :: Rep.dec n else []) := rfl
theorem hexT_len (l : List Int) : (Rep.hexT l).length ≤ 2 * l.length + 1 := by
  unfold Rep.hexT
  split
  · simp
  · rw [Rep.hexL_len]; omega
/-- An event in its box. -/
structure EvAt (w : World) (g : Nat) (kind who n : Int) (name : List UInt8) (b : Value) (o : Rep.Op) (ns : Value) : Prop where
  blk : Blk w g 37 [.int .i64 kind, .int .i64 who, .int .i64 n, .string (T name), b, .bool o.dry, .bool o.fast, .bool o.clean, ns]
set_option maxRecDepth 100000 in
set_option maxHeartbeats 2000000 in
theorem event1 {w : World} (who n : Int) (name : List UInt8) (bytes : List Int) (o : Rep.Op) (B A : Option Addr) (bn bc m c : Nat) (h : EvIn w ⟨1, who, n, name, bytes, o⟩ B A bn bc m c) (hE : Env w) :
    Calls Tryd.prog 12 #[.agg (evC ⟨1, who, n, name, bytes, o⟩ (.slice B bn bc) (.slice A m c)).toArray] w fun r w' => r = .returned (.string (T (Rep.evT ⟨1, who, n, name, bytes, o⟩))) ∧ Below w.heap.size w w' := by
  have H := Lib.hid h
  have HE := Lib.hid hE
  have z1 := dec_size who
  have z2 := dec_size n
  have z3 := T_size name
  have z4 := h.name
  have hi1 := h.who
  have hi2 := h.num
  simp only at z4 hi1 hi2
  clear h hE
  unfold evC
  go_enter Tryd.func12, Tryd.ntmps12
  go_upto_region 1 with fail
  obtain ⟨g, hg⟩ : ∃ g, g = w.heap.size := ⟨_, rfl⟩
  rw [← hg]
  refine at_world (fun W => EvAt W g 1 who n name (.slice B bn bc) o (.slice A m c) ∧ Below w.heap.size w W) ⟨⟨blk_new hg⟩, by (repeat (first | assumption | exact Below.refl _ _ | (with_reducible apply Below.drew) | (with_reducible apply bl_drewN) | (with_reducible apply bl_alloc) | (with_reducible refine bl_then ?_ (by assumption))))⟩ ?_
  rintro W ⟨hb, hbel⟩
  have HB := Lib.hid hb
  have HBel := Lib.hid hbel
  have c0 : W.cell? ⟨g, 0, none⟩ = some (.int .i64 1) := hb.blk.cell 0
  have c1 : W.cell? ⟨g, 1, none⟩ = some (.int .i64 who) := hb.blk.cell 1
  have c2 : W.cell? ⟨g, 2, none⟩ = some (.int .i64 n) := hb.blk.cell 2
  have c3 : W.cell? ⟨g, 3, none⟩ = some (.string (T name)) := hb.blk.cell 3
  have c4 : W.cell? ⟨g, 4, none⟩ = some (.slice B bn bc) := hb.blk.cell 4
  have c5 : W.cell? ⟨g, 5, none⟩ = some (.bool o.dry) := hb.blk.cell 5
  have c6 : W.cell? ⟨g, 6, none⟩ = some (.bool o.fast) := hb.blk.cell 6
  have c7 : W.cell? ⟨g, 7, none⟩ = some (.bool o.clean) := hb.blk.cell 7
  have c8 : W.cell? ⟨g, 8, none⟩ = some (.slice A m c) := hb.blk.cell 8
  clear hb hbel hg
  go_wp2_with fail
  refine (start_any ⟨1, who, n, name, bytes, o⟩ B A bn bc m c (H.out.below HBel.out) (HE.out.below HBel.out)).mono ?_
  rintro r w1 ⟨rfl, hb1⟩
  have HB1 := Lib.hid (HBel.out.trans (hb1.mono HBel.out.size))
  clear hb1
  go_wp2_with fail
  go_ret
  exact ⟨rfl, HB1.out⟩
set_option maxRecDepth 100000 in
set_option maxHeartbeats 2000000 in
theorem event2 {w : World} (who n : Int) (name : List UInt8) (bytes : List Int) (o : Rep.Op) (B A : Option Addr) (bn bc m c : Nat) (h : EvIn w ⟨2, who, n, name, bytes, o⟩ B A bn bc m c) (hE : Env w) :
    Calls Tryd.prog 12 #[.agg (evC ⟨2, who, n, name, bytes, o⟩ (.slice B bn bc) (.slice A m c)).toArray] w fun r w' => r = .returned (.string (T (Rep.evT ⟨2, who, n, name, bytes, o⟩))) ∧ Below w.heap.size w w' := by
  have H := Lib.hid h
  have HE := Lib.hid hE
  have z1 := dec_size who
  have z2 := dec_size n
  have z3 := T_size name
  have z4 := h.name
  have hi1 := h.who
  have hi2 := h.num
  simp only at z4 hi1 hi2
  clear h hE
  unfold evC
  go_enter Tryd.func12, Tryd.ntmps12
  go_upto_region 1 with fail
  obtain ⟨g, hg⟩ : ∃ g, g = w.heap.size := ⟨_, rfl⟩
  rw [← hg]
  refine at_world (fun W => EvAt W g 2 who n name (.slice B bn bc) o (.slice A m c) ∧ Below w.heap.size w W) ⟨⟨blk_new hg⟩, by (repeat (first | assumption | exact Below.refl _ _ | (with_reducible apply Below.drew) | (with_reducible apply bl_drewN) | (with_reducible apply bl_alloc) | (with_reducible refine bl_then ?_ (by assumption))))⟩ ?_
  rintro W ⟨hb, hbel⟩
  have HB := Lib.hid hb
  have HBel := Lib.hid hbel
  have c0 : W.cell? ⟨g, 0, none⟩ = some (.int .i64 2) := hb.blk.cell 0
  have c1 : W.cell? ⟨g, 1, none⟩ = some (.int .i64 who) := hb.blk.cell 1
  have c2 : W.cell? ⟨g, 2, none⟩ = some (.int .i64 n) := hb.blk.cell 2
  have c3 : W.cell? ⟨g, 3, none⟩ = some (.string (T name)) := hb.blk.cell 3
  have c4 : W.cell? ⟨g, 4, none⟩ = some (.slice B bn bc) := hb.blk.cell 4
  have c5 : W.cell? ⟨g, 5, none⟩ = some (.bool o.dry) := hb.blk.cell 5
  have c6 : W.cell? ⟨g, 6, none⟩ = some (.bool o.fast) := hb.blk.cell 6
  have c7 : W.cell? ⟨g, 7, none⟩ = some (.bool o.clean) := hb.blk.cell 7
  have c8 : W.cell? ⟨g, 8, none⟩ = some (.slice A m c) := hb.blk.cell 8
  clear hb hbel hg
  go_wp2_with fail
  refine (rnum_any who hi1.1 hi1.2 _ (HE.out.below HBel.out)).mono ?_
  rintro r w1 ⟨rfl, hb1⟩
  have HB1 := Lib.hid (HBel.out.trans (hb1.mono HBel.out.size))
  clear hb1
  go_wp2_with fail
  go_ret
  exact ⟨congrArg (fun s => Ending.returned (Value.string s)) (show _ = T (Rep.wStep ++ 32 :: Rep.dec who) from ba_ext (by simp [T, Rep.wStep])), HB1.out⟩
set_option maxRecDepth 100000 in
set_option maxHeartbeats 2000000 in
theorem event3 {w : World} (who n : Int) (name : List UInt8) (bytes : List Int) (o : Rep.Op) (B A : Option Addr) (bn bc m c : Nat) (h : EvIn w ⟨3, who, n, name, bytes, o⟩ B A bn bc m c) (hE : Env w) :
    Calls Tryd.prog 12 #[.agg (evC ⟨3, who, n, name, bytes, o⟩ (.slice B bn bc) (.slice A m c)).toArray] w fun r w' => r = .returned (.string (T (Rep.evT ⟨3, who, n, name, bytes, o⟩))) ∧ Below w.heap.size w w' := by
  have H := Lib.hid h
  have HE := Lib.hid hE
  have z1 := dec_size who
  have z2 := dec_size n
  have z3 := T_size name
  have z4 := h.name
  have hi1 := h.who
  have hi2 := h.num
  simp only at z4 hi1 hi2
  clear h hE
  unfold evC
  go_enter Tryd.func12, Tryd.ntmps12
  go_upto_region 1 with fail
  obtain ⟨g, hg⟩ : ∃ g, g = w.heap.size := ⟨_, rfl⟩
  rw [← hg]
  refine at_world (fun W => EvAt W g 3 who n name (.slice B bn bc) o (.slice A m c) ∧ Below w.heap.size w W) ⟨⟨blk_new hg⟩, by (repeat (first | assumption | exact Below.refl _ _ | (with_reducible apply Below.drew) | (with_reducible apply bl_drewN) | (with_reducible apply bl_alloc) | (with_reducible refine bl_then ?_ (by assumption))))⟩ ?_
  rintro W ⟨hb, hbel⟩
  have HB := Lib.hid hb
  have HBel := Lib.hid hbel
  have c0 : W.cell? ⟨g, 0, none⟩ = some (.int .i64 3) := hb.blk.cell 0
  have c1 : W.cell? ⟨g, 1, none⟩ = some (.int .i64 who) := hb.blk.cell 1
  have c2 : W.cell? ⟨g, 2, none⟩ = some (.int .i64 n) := hb.blk.cell 2
  have c3 : W.cell? ⟨g, 3, none⟩ = some (.string (T name)) := hb.blk.cell 3
  have c4 : W.cell? ⟨g, 4, none⟩ = some (.slice B bn bc) := hb.blk.cell 4
  have c5 : W.cell? ⟨g, 5, none⟩ = some (.bool o.dry) := hb.blk.cell 5
  have c6 : W.cell? ⟨g, 6, none⟩ = some (.bool o.fast) := hb.blk.cell 6
  have c7 : W.cell? ⟨g, 7, none⟩ = some (.bool o.clean) := hb.blk.cell 7
  have c8 : W.cell? ⟨g, 8, none⟩ = some (.slice A m c) := hb.blk.cell 8
  clear hb hbel hg
  go_wp2_with fail
  refine (rnum_any who hi1.1 hi1.2 _ (HE.out.below HBel.out)).mono ?_
  rintro r w1 ⟨rfl, hb1⟩
  have HB1 := Lib.hid (HBel.out.trans (hb1.mono HBel.out.size))
  clear hb1
  go_wp2_with fail
  go_ret
  exact ⟨congrArg (fun s => Ending.returned (Value.string s)) (show _ = T (Rep.wKill ++ 32 :: Rep.dec who) from ba_ext (by simp [T, Rep.wKill])), HB1.out⟩
set_option maxRecDepth 100000 in
set_option maxHeartbeats 2000000 in
theorem event4 {w : World} (who n : Int) (name : List UInt8) (bytes : List Int) (o : Rep.Op) (B A : Option Addr) (bn bc m c : Nat) (h : EvIn w ⟨4, who, n, name, bytes, o⟩ B A bn bc m c) (hE : Env w) :
    Calls Tryd.prog 12 #[.agg (evC ⟨4, who, n, name, bytes, o⟩ (.slice B bn bc) (.slice A m c)).toArray] w fun r w' => r = .returned (.string (T (Rep.evT ⟨4, who, n, name, bytes, o⟩))) ∧ Below w.heap.size w w' := by
  have H := Lib.hid h
  have HE := Lib.hid hE
  have z1 := dec_size who
  have z2 := dec_size n
  have z3 := T_size name
  have z4 := h.name
  have hi1 := h.who
  have hi2 := h.num
  simp only at z4 hi1 hi2
  clear h hE
  unfold evC
  go_enter Tryd.func12, Tryd.ntmps12
  go_upto_region 1 with fail
  obtain ⟨g, hg⟩ : ∃ g, g = w.heap.size := ⟨_, rfl⟩
  rw [← hg]
  refine at_world (fun W => EvAt W g 4 who n name (.slice B bn bc) o (.slice A m c) ∧ Below w.heap.size w W) ⟨⟨blk_new hg⟩, by (repeat (first | assumption | exact Below.refl _ _ | (with_reducible apply Below.drew) | (with_reducible apply bl_drewN) | (with_reducible apply bl_alloc) | (with_reducible refine bl_then ?_ (by assumption))))⟩ ?_
  rintro W ⟨hb, hbel⟩
  have HB := Lib.hid hb
  have HBel := Lib.hid hbel
  have c0 : W.cell? ⟨g, 0, none⟩ = some (.int .i64 4) := hb.blk.cell 0
  have c1 : W.cell? ⟨g, 1, none⟩ = some (.int .i64 who) := hb.blk.cell 1
  have c2 : W.cell? ⟨g, 2, none⟩ = some (.int .i64 n) := hb.blk.cell 2
  have c3 : W.cell? ⟨g, 3, none⟩ = some (.string (T name)) := hb.blk.cell 3
  have c4 : W.cell? ⟨g, 4, none⟩ = some (.slice B bn bc) := hb.blk.cell 4
  have c5 : W.cell? ⟨g, 5, none⟩ = some (.bool o.dry) := hb.blk.cell 5
  have c6 : W.cell? ⟨g, 6, none⟩ = some (.bool o.fast) := hb.blk.cell 6
  have c7 : W.cell? ⟨g, 7, none⟩ = some (.bool o.clean) := hb.blk.cell 7
  have c8 : W.cell? ⟨g, 8, none⟩ = some (.slice A m c) := hb.blk.cell 8
  clear hb hbel hg
  go_wp2_with fail
  refine (rnum_any n hi2.1 hi2.2 _ (HE.out.below HBel.out)).mono ?_
  rintro r w1 ⟨rfl, hb1⟩
  have HB1 := Lib.hid (HBel.out.trans (hb1.mono HBel.out.size))
  clear hb1
  go_wp2_with fail
  go_ret
  exact ⟨congrArg (fun s => Ending.returned (Value.string s)) (show _ = T (Rep.wCut ++ 32 :: Rep.dec n) from ba_ext (by simp [T, Rep.wCut])), HB1.out⟩
set_option maxRecDepth 100000 in
set_option maxHeartbeats 2000000 in
theorem event5 {w : World} (who n : Int) (name : List UInt8) (bytes : List Int) (o : Rep.Op) (B A : Option Addr) (bn bc m c : Nat) (h : EvIn w ⟨5, who, n, name, bytes, o⟩ B A bn bc m c) (hE : Env w) :
    Calls Tryd.prog 12 #[.agg (evC ⟨5, who, n, name, bytes, o⟩ (.slice B bn bc) (.slice A m c)).toArray] w fun r w' => r = .returned (.string (T (Rep.evT ⟨5, who, n, name, bytes, o⟩))) ∧ Below w.heap.size w w' := by
  have H := Lib.hid h
  have HE := Lib.hid hE
  have z1 := dec_size who
  have z2 := dec_size n
  have z3 := T_size name
  have z4 := h.name
  have hi1 := h.who
  have hi2 := h.num
  simp only at z4 hi1 hi2
  clear h hE
  unfold evC
  go_enter Tryd.func12, Tryd.ntmps12
  go_upto_region 1 with fail
  obtain ⟨g, hg⟩ : ∃ g, g = w.heap.size := ⟨_, rfl⟩
  rw [← hg]
  refine at_world (fun W => EvAt W g 5 who n name (.slice B bn bc) o (.slice A m c) ∧ Below w.heap.size w W) ⟨⟨blk_new hg⟩, by (repeat (first | assumption | exact Below.refl _ _ | (with_reducible apply Below.drew) | (with_reducible apply bl_drewN) | (with_reducible apply bl_alloc) | (with_reducible refine bl_then ?_ (by assumption))))⟩ ?_
  rintro W ⟨hb, hbel⟩
  have HB := Lib.hid hb
  have HBel := Lib.hid hbel
  have c0 : W.cell? ⟨g, 0, none⟩ = some (.int .i64 5) := hb.blk.cell 0
  have c1 : W.cell? ⟨g, 1, none⟩ = some (.int .i64 who) := hb.blk.cell 1
  have c2 : W.cell? ⟨g, 2, none⟩ = some (.int .i64 n) := hb.blk.cell 2
  have c3 : W.cell? ⟨g, 3, none⟩ = some (.string (T name)) := hb.blk.cell 3
  have c4 : W.cell? ⟨g, 4, none⟩ = some (.slice B bn bc) := hb.blk.cell 4
  have c5 : W.cell? ⟨g, 5, none⟩ = some (.bool o.dry) := hb.blk.cell 5
  have c6 : W.cell? ⟨g, 6, none⟩ = some (.bool o.fast) := hb.blk.cell 6
  have c7 : W.cell? ⟨g, 7, none⟩ = some (.bool o.clean) := hb.blk.cell 7
  have c8 : W.cell? ⟨g, 8, none⟩ = some (.slice A m c) := hb.blk.cell 8
  clear hb hbel hg
  go_wp2_with fail
  refine (rnum_any n hi2.1 hi2.2 _ (HE.out.below HBel.out)).mono ?_
  rintro r w1 ⟨rfl, hb1⟩
  have HB1 := Lib.hid (HBel.out.trans (hb1.mono HBel.out.size))
  clear hb1
  go_wp2_with fail
  go_ret
  exact ⟨congrArg (fun s => Ending.returned (Value.string s)) (show _ = T (Rep.wTick ++ 32 :: Rep.dec n) from ba_ext (by simp [T, Rep.wTick])), HB1.out⟩
set_option maxRecDepth 100000 in
set_option maxHeartbeats 2000000 in
theorem event8 {w : World} (who n : Int) (name : List UInt8) (bytes : List Int) (o : Rep.Op) (B A : Option Addr) (bn bc m c : Nat) (h : EvIn w ⟨8, who, n, name, bytes, o⟩ B A bn bc m c) (hE : Env w) :
    Calls Tryd.prog 12 #[.agg (evC ⟨8, who, n, name, bytes, o⟩ (.slice B bn bc) (.slice A m c)).toArray] w fun r w' => r = .returned (.string (T (Rep.evT ⟨8, who, n, name, bytes, o⟩))) ∧ Below w.heap.size w w' := by
  have H := Lib.hid h
  have HE := Lib.hid hE
  have z1 := dec_size who
  have z2 := dec_size n
  have z3 := T_size name
  have z4 := h.name
  have hi1 := h.who
  have hi2 := h.num
  simp only at z4 hi1 hi2
  clear h hE
  unfold evC
  go_enter Tryd.func12, Tryd.ntmps12
  go_upto_region 1 with fail
  obtain ⟨g, hg⟩ : ∃ g, g = w.heap.size := ⟨_, rfl⟩
  rw [← hg]
  refine at_world (fun W => EvAt W g 8 who n name (.slice B bn bc) o (.slice A m c) ∧ Below w.heap.size w W) ⟨⟨blk_new hg⟩, by (repeat (first | assumption | exact Below.refl _ _ | (with_reducible apply Below.drew) | (with_reducible apply bl_drewN) | (with_reducible apply bl_alloc) | (with_reducible refine bl_then ?_ (by assumption))))⟩ ?_
  rintro W ⟨hb, hbel⟩
  have HB := Lib.hid hb
  have HBel := Lib.hid hbel
  have c0 : W.cell? ⟨g, 0, none⟩ = some (.int .i64 8) := hb.blk.cell 0
  have c1 : W.cell? ⟨g, 1, none⟩ = some (.int .i64 who) := hb.blk.cell 1
  have c2 : W.cell? ⟨g, 2, none⟩ = some (.int .i64 n) := hb.blk.cell 2
  have c3 : W.cell? ⟨g, 3, none⟩ = some (.string (T name)) := hb.blk.cell 3
  have c4 : W.cell? ⟨g, 4, none⟩ = some (.slice B bn bc) := hb.blk.cell 4
  have c5 : W.cell? ⟨g, 5, none⟩ = some (.bool o.dry) := hb.blk.cell 5
  have c6 : W.cell? ⟨g, 6, none⟩ = some (.bool o.fast) := hb.blk.cell 6
  have c7 : W.cell? ⟨g, 7, none⟩ = some (.bool o.clean) := hb.blk.cell 7
  have c8 : W.cell? ⟨g, 8, none⟩ = some (.slice A m c) := hb.blk.cell 8
  clear hb hbel hg
  go_wp2_with fail
  refine (rnum_any n hi2.1 hi2.2 _ (HE.out.below HBel.out)).mono ?_
  rintro r w1 ⟨rfl, hb1⟩
  have HB1 := Lib.hid (HBel.out.trans (hb1.mono HBel.out.size))
  clear hb1
  go_wp2_with fail
  go_ret
  exact ⟨congrArg (fun s => Ending.returned (Value.string s)) (show _ = T (Rep.wRoom ++ 32 :: Rep.dec n) from ba_ext (by simp [T, Rep.wRoom])), HB1.out⟩
set_option maxRecDepth 100000 in
set_option maxHeartbeats 2000000 in
theorem event7 {w : World} (who n : Int) (name : List UInt8) (bytes : List Int) (o : Rep.Op) (B A : Option Addr) (bn bc m c : Nat) (h : EvIn w ⟨7, who, n, name, bytes, o⟩ B A bn bc m c) (hE : Env w) :
    Calls Tryd.prog 12 #[.agg (evC ⟨7, who, n, name, bytes, o⟩ (.slice B bn bc) (.slice A m c)).toArray] w fun r w' => r = .returned (.string (T (Rep.evT ⟨7, who, n, name, bytes, o⟩))) ∧ Below w.heap.size w w' := by
  have H := Lib.hid h
  have HE := Lib.hid hE
  have z1 := dec_size who
  have z2 := dec_size n
  have z3 := T_size name
  have z4 := h.name
  have hi1 := h.who
  have hi2 := h.num
  simp only at z4 hi1 hi2
  clear h hE
  unfold evC
  go_enter Tryd.func12, Tryd.ntmps12
  go_upto_region 1 with fail
  obtain ⟨g, hg⟩ : ∃ g, g = w.heap.size := ⟨_, rfl⟩
  rw [← hg]
  refine at_world (fun W => EvAt W g 7 who n name (.slice B bn bc) o (.slice A m c) ∧ Below w.heap.size w W) ⟨⟨blk_new hg⟩, by (repeat (first | assumption | exact Below.refl _ _ | (with_reducible apply Below.drew) | (with_reducible apply bl_drewN) | (with_reducible apply bl_alloc) | (with_reducible refine bl_then ?_ (by assumption))))⟩ ?_
  rintro W ⟨hb, hbel⟩
  have HB := Lib.hid hb
  have HBel := Lib.hid hbel
  have c0 : W.cell? ⟨g, 0, none⟩ = some (.int .i64 7) := hb.blk.cell 0
  have c1 : W.cell? ⟨g, 1, none⟩ = some (.int .i64 who) := hb.blk.cell 1
  have c2 : W.cell? ⟨g, 2, none⟩ = some (.int .i64 n) := hb.blk.cell 2
  have c3 : W.cell? ⟨g, 3, none⟩ = some (.string (T name)) := hb.blk.cell 3
  have c4 : W.cell? ⟨g, 4, none⟩ = some (.slice B bn bc) := hb.blk.cell 4
  have c5 : W.cell? ⟨g, 5, none⟩ = some (.bool o.dry) := hb.blk.cell 5
  have c6 : W.cell? ⟨g, 6, none⟩ = some (.bool o.fast) := hb.blk.cell 6
  have c7 : W.cell? ⟨g, 7, none⟩ = some (.bool o.clean) := hb.blk.cell 7
  have c8 : W.cell? ⟨g, 8, none⟩ = some (.slice A m c) := hb.blk.cell 8
  clear hb hbel hg
  go_wp2_with fail
  refine (ok_any (T name) _ (by omega)).mono ?_
  rintro r w1 ⟨rfl, rfl⟩
  rw [okB_T]
  cases hok : Rep.okL name with
  | false =>
    have HO := Lib.hid (show Rep.evT ⟨7, who, n, name, bytes, o⟩ = [] from (evT_eq 7 who n name bytes o).trans (show (if Rep.okL name then Rep.wRemove ++ 32 :: name else []) = [] by rw [hok]; rfl))
    clear hok
    go_wp2_with fail
    go_ret
    exact ⟨by rw [HO.out]; rfl, HBel.out⟩
  | true =>
    have HO := Lib.hid (show Rep.evT ⟨7, who, n, name, bytes, o⟩ = Rep.wRemove ++ 32 :: name from (evT_eq 7 who n name bytes o).trans (show (if Rep.okL name then Rep.wRemove ++ 32 :: name else []) = _ by rw [hok]; rfl))
    clear hok
    go_wp2_with fail
    go_ret
    exact ⟨congrArg (fun s => Ending.returned (Value.string s)) (by rw [HO.out]; exact ba_ext (by simp [T, Rep.wRemove])), HBel.out⟩
set_option maxRecDepth 100000 in
set_option maxHeartbeats 2000000 in
theorem event6 {w : World} (who n : Int) (name : List UInt8) (bytes : List Int) (o : Rep.Op) (B A : Option Addr) (bn bc m c : Nat) (h : EvIn w ⟨6, who, n, name, bytes, o⟩ B A bn bc m c) (hE : Env w) :
    Calls Tryd.prog 12 #[.agg (evC ⟨6, who, n, name, bytes, o⟩ (.slice B bn bc) (.slice A m c)).toArray] w fun r w' => r = .returned (.string (T (Rep.evT ⟨6, who, n, name, bytes, o⟩))) ∧ Below w.heap.size w w' := by
  have H := Lib.hid h
  have HE := Lib.hid hE
  have z1 := dec_size who
  have z2 := dec_size n
  have z3 := T_size name
  have z4 := h.name
  have hi1 := h.who
  have hi2 := h.num
  simp only at z4 hi1 hi2
  clear h hE
  unfold evC
  go_enter Tryd.func12, Tryd.ntmps12
  go_upto_region 1 with fail
  obtain ⟨g, hg⟩ : ∃ g, g = w.heap.size := ⟨_, rfl⟩
  rw [← hg]
  refine at_world (fun W => EvAt W g 6 who n name (.slice B bn bc) o (.slice A m c) ∧ Below w.heap.size w W) ⟨⟨blk_new hg⟩, by (repeat (first | assumption | exact Below.refl _ _ | (with_reducible apply Below.drew) | (with_reducible apply bl_drewN) | (with_reducible apply bl_alloc) | (with_reducible refine bl_then ?_ (by assumption))))⟩ ?_
  rintro W ⟨hb, hbel⟩
  have HB := Lib.hid hb
  have HBel := Lib.hid hbel
  have c0 : W.cell? ⟨g, 0, none⟩ = some (.int .i64 6) := hb.blk.cell 0
  have c1 : W.cell? ⟨g, 1, none⟩ = some (.int .i64 who) := hb.blk.cell 1
  have c2 : W.cell? ⟨g, 2, none⟩ = some (.int .i64 n) := hb.blk.cell 2
  have c3 : W.cell? ⟨g, 3, none⟩ = some (.string (T name)) := hb.blk.cell 3
  have c4 : W.cell? ⟨g, 4, none⟩ = some (.slice B bn bc) := hb.blk.cell 4
  have c5 : W.cell? ⟨g, 5, none⟩ = some (.bool o.dry) := hb.blk.cell 5
  have c6 : W.cell? ⟨g, 6, none⟩ = some (.bool o.fast) := hb.blk.cell 6
  have c7 : W.cell? ⟨g, 7, none⟩ = some (.bool o.clean) := hb.blk.cell 7
  have c8 : W.cell? ⟨g, 8, none⟩ = some (.slice A m c) := hb.blk.cell 8
  clear hb hbel hg
  go_wp2_with fail
  refine (ok_any (T name) _ (by omega)).mono ?_
  rintro r w1 ⟨rfl, rfl⟩
  rw [okB_T]
  cases hok : Rep.okL name with
  | false =>
    have HO := Lib.hid (show Rep.evT ⟨6, who, n, name, bytes, o⟩ = [] from (evT_eq 6 who n name bytes o).trans (show (if Rep.okL name then Rep.wEdit ++ 32 :: name ++ 32 :: Rep.hexT bytes else []) = [] by rw [hok]; rfl))
    clear hok
    go_wp2_with fail
    go_ret
    exact ⟨by rw [HO.out]; rfl, HBel.out⟩
  | true =>
    have HO := Lib.hid (show Rep.evT ⟨6, who, n, name, bytes, o⟩ = Rep.wEdit ++ 32 :: name ++ 32 :: Rep.hexT bytes from (evT_eq 6 who n name bytes o).trans (show (if Rep.okL name then Rep.wEdit ++ 32 :: name ++ 32 :: Rep.hexT bytes else []) = _ by rw [hok]; rfl))
    have z5 := hexT_len bytes
    have z6 := T_size (Rep.hexT bytes)
    have z7 := H.out.by_.len
    have z8 := H.out.small
    simp only at z7 z8
    have Z5 := Lib.hid (show (Rep.hexT bytes).length ≤ 3000000 by omega)
    have z9 : (T (Rep.hexT bytes)).size ≤ 3000000 := by rw [z6]; exact Z5.out
    clear hok z5 z6 z7 z8
    go_upto_region 16 with fail
    have HQ := Lib.hid (fun w' (hb : Below W.heap.size W w') => (⟨(HB.out.blk.below hb).cell 3, (HB.out.blk.below hb).cell 4, hb⟩ : w'.cell? ⟨g, 3, none⟩ = some (.string (T name)) ∧ w'.cell? ⟨g, 4, none⟩ = some (.slice B bn bc) ∧ Below W.heap.size W w'))
    (refine wp_region_held_drew (S := fun w' => w'.cell? ⟨g, 3, none⟩ = some (.string (T name)) ∧ w'.cell? ⟨g, 4, none⟩ = some (.slice B bn bc) ∧ Below W.heap.size W w') (by kernel_rfl) (HQ.out _ (Below.refl _ _).drew) (fun hHeld => ?_))
    (refine wpAnyH_take (i := 0) (oi := _) (v := ?_) (ops_at rfl) (by kernel_rfl) (by kernel_rfl) (by kernel_rfl) (fun _ _ _ h => h) (Or.inl ⟨by rfl, ?_⟩) (by assumption) ?_; rotate_left; (focus (intro w hSw; (try dsimp only at hSw); go_simp; (try first | with_reducible rfl | (rw [if_neg (by omega)])))); (try simp only [Act.put, List.setIfInBounds_toArray, List.set_cons_zero, List.set_cons_succ])); (refine wpAnyH_take (i := 1) (oi := _) (v := ?_) (ops_at rfl) (by kernel_rfl) (by kernel_rfl) (by kernel_rfl) (fun _ _ _ h => h) (Or.inl ⟨by rfl, ?_⟩) (by assumption) ?_; rotate_left; (focus (intro w hSw; (try dsimp only at hSw); go_simp; (try first | with_reducible rfl | (rw [if_neg (by omega)])))); (try simp only [Act.put, List.setIfInBounds_toArray, List.set_cons_zero, List.set_cons_succ])); (refine wpAnyH_take (i := 2) (oi := _) (v := ?_) (ops_at rfl) (by kernel_rfl) (by kernel_rfl) (by kernel_rfl) (fun _ _ _ h => h) (Or.inl ⟨by rfl, ?_⟩) (by assumption) ?_; rotate_left; (focus (intro w hSw; (try dsimp only at hSw); go_simp; (try first | with_reducible rfl | (rw [if_neg (by omega)])))); (try simp only [Act.put, List.setIfInBounds_toArray, List.set_cons_zero, List.set_cons_succ])); (refine wpAnyH_take (i := 3) (oi := _) (v := ?_) (ops_at rfl) (by kernel_rfl) (by kernel_rfl) (by kernel_rfl) (fun _ _ _ h => h) (Or.inl ⟨by rfl, ?_⟩) (by assumption) ?_; rotate_left; (focus (intro w hSw; (try dsimp only at hSw); go_simp; (try first | with_reducible rfl | (rw [if_neg (by omega)])))); (try simp only [Act.put, List.setIfInBounds_toArray, List.set_cons_zero, List.set_cons_succ])); (refine wpAnyH_take (i := 4) (oi := _) (v := ?_) (ops_at rfl) (by kernel_rfl) (by kernel_rfl) (by kernel_rfl) (fun _ _ _ h => h) (Or.inl ⟨by rfl, ?_⟩) (by assumption) ?_; rotate_left; (focus (intro w hSw; (try dsimp only at hSw); go_simp; (try first | with_reducible rfl | (rw [if_neg (by omega)])))); (try simp only [Act.put, List.setIfInBounds_toArray, List.set_cons_zero, List.set_cons_succ])); (refine wpAnyH_take (i := 5) (oi := _) (v := ?_) (ops_at rfl) (by kernel_rfl) (by kernel_rfl) (by kernel_rfl) (fun _ _ _ h => h) (Or.inl ⟨by rfl, ?_⟩) (by assumption) ?_; rotate_left; (focus (intro w hSw; (try dsimp only at hSw); go_simp; (try first | with_reducible rfl | (rw [if_neg (by omega)])))); (try simp only [Act.put, List.setIfInBounds_toArray, List.set_cons_zero, List.set_cons_succ]))
    (refine wpAnyH_ready (rs := [6]) (by kernel_rfl) (by simp) (AllReadyH.cons (ops_at rfl) (fun K hK => ?_) AllReadyH.nil); go_simp; (refine (rhex_any B bn bc bytes (H.out.by_.below (HBel.out.trans ((Below.refl _ _).drew.mono HBel.out.size))) H.out.cap H.out.small).mono ?_; rintro r w1 ⟨rfl, hb1⟩); refine hK.out _ _ (HQ.out _ ((Below.refl _ _).drew.trans hb1)) (fun hHeld => ?_); clear hK K; (try simp only [Act.put, List.setIfInBounds_toArray, List.set_cons_zero, List.set_cons_succ]))
    (refine wpAnyH_take (i := 7) (oi := _) (v := ?_) (ops_at rfl) (by kernel_rfl) (by kernel_rfl) (by kernel_rfl) (fun _ _ _ h => h) (Or.inl ⟨by rfl, ?_⟩) (by assumption) ?_; rotate_left; (focus (intro w hSw; (try dsimp only at hSw); go_simp; (try first | with_reducible rfl | (rw [if_neg (by omega)])))); (try simp only [Act.put, List.setIfInBounds_toArray, List.set_cons_zero, List.set_cons_succ])); (refine wpAnyH_take (i := 8) (oi := _) (v := ?_) (ops_at rfl) (by kernel_rfl) (by kernel_rfl) (by kernel_rfl) (fun _ _ _ h => h) (Or.inl ⟨by rfl, ?_⟩) (by assumption) ?_; rotate_left; (focus (intro w hSw; (try dsimp only at hSw); go_simp; (try first | with_reducible rfl | (rw [if_neg (by omega)])))); (try simp only [Act.put, List.setIfInBounds_toArray, List.set_cons_zero, List.set_cons_succ]))
    (refine wpAnyH_done (by kernel_rfl) ?_ _)
    have HB1 := Lib.hid (HBel.out.trans (hHeld.2.2.mono HBel.out.size))
    clear hHeld hb1
    go_wp2_with fail
    go_ret
    exact ⟨congrArg (fun s => Ending.returned (Value.string s)) (by rw [HO.out]; exact ba_ext (by simp [T, Rep.wEdit])), HB1.out⟩
set_option maxRecDepth 100000 in
set_option maxHeartbeats 2000000 in
theorem event0 {w : World} (kind : Int) (who n : Int) (name : List UInt8) (bytes : List Int) (o : Rep.Op) (B A : Option Addr) (bn bc m c : Nat) (h : EvIn w ⟨kind, who, n, name, bytes, o⟩ B A bn bc m c) (hE : Env w) (h1 : kind ≠ 1) (h2 : kind ≠ 2) (h3 : kind ≠ 3) (h4 : kind ≠ 4) (h5 : kind ≠ 5) (h6 : kind ≠ 6) (h7 : kind ≠ 7) (h8 : kind ≠ 8) :
    Calls Tryd.prog 12 #[.agg (evC ⟨kind, who, n, name, bytes, o⟩ (.slice B bn bc) (.slice A m c)).toArray] w fun r w' => r = .returned (.string (T (Rep.evT ⟨kind, who, n, name, bytes, o⟩))) ∧ Below w.heap.size w w' := by
  have H := Lib.hid h
  have HE := Lib.hid hE
  have z1 := dec_size who
  have z2 := dec_size n
  have z3 := T_size name
  have z4 := h.name
  have hi1 := h.who
  have hi2 := h.num
  simp only at z4 hi1 hi2
  clear h hE
  unfold evC
  go_enter Tryd.func12, Tryd.ntmps12
  go_upto_region 1 with fail
  obtain ⟨g, hg⟩ : ∃ g, g = w.heap.size := ⟨_, rfl⟩
  rw [← hg]
  refine at_world (fun W => EvAt W g kind who n name (.slice B bn bc) o (.slice A m c) ∧ Below w.heap.size w W) ⟨⟨blk_new hg⟩, by (repeat (first | assumption | exact Below.refl _ _ | (with_reducible apply Below.drew) | (with_reducible apply bl_drewN) | (with_reducible apply bl_alloc) | (with_reducible refine bl_then ?_ (by assumption))))⟩ ?_
  rintro W ⟨hb, hbel⟩
  have HB := Lib.hid hb
  have HBel := Lib.hid hbel
  have c0 : W.cell? ⟨g, 0, none⟩ = some (.int .i64 kind) := hb.blk.cell 0
  have c1 : W.cell? ⟨g, 1, none⟩ = some (.int .i64 who) := hb.blk.cell 1
  have c2 : W.cell? ⟨g, 2, none⟩ = some (.int .i64 n) := hb.blk.cell 2
  have c3 : W.cell? ⟨g, 3, none⟩ = some (.string (T name)) := hb.blk.cell 3
  have c4 : W.cell? ⟨g, 4, none⟩ = some (.slice B bn bc) := hb.blk.cell 4
  have c5 : W.cell? ⟨g, 5, none⟩ = some (.bool o.dry) := hb.blk.cell 5
  have c6 : W.cell? ⟨g, 6, none⟩ = some (.bool o.fast) := hb.blk.cell 6
  have c7 : W.cell? ⟨g, 7, none⟩ = some (.bool o.clean) := hb.blk.cell 7
  have c8 : W.cell? ⟨g, 8, none⟩ = some (.slice A m c) := hb.blk.cell 8
  clear hb hbel hg
  have e1 : (kind == 1) = false := by rw [beq_eq_false_iff_ne]; exact h1
  have e2 : (kind == 2) = false := by rw [beq_eq_false_iff_ne]; exact h2
  have e3 : (kind == 3) = false := by rw [beq_eq_false_iff_ne]; exact h3
  have e4 : (kind == 4) = false := by rw [beq_eq_false_iff_ne]; exact h4
  have e5 : (kind == 5) = false := by rw [beq_eq_false_iff_ne]; exact h5
  have e6 : (kind == 6) = false := by rw [beq_eq_false_iff_ne]; exact h6
  have e7 : (kind == 7) = false := by rw [beq_eq_false_iff_ne]; exact h7
  have e8 : (kind == 8) = false := by rw [beq_eq_false_iff_ne]; exact h8
  have HO := Lib.hid (show Rep.evT ⟨kind, who, n, name, bytes, o⟩ = [] by rw [evT_eq, if_neg h1, if_neg h2, if_neg h3, if_neg h4, if_neg h5, if_neg h6, if_neg h7, if_neg h8])
  clear h1 h2 h3 h4 h5 h6 h7 h8
  go_wp2_with fail
  go_ret
  exact ⟨by rw [HO.out]; rfl, HBel.out⟩
theorem event_any {w : World} (e : Rep.Ev) (B A : Option Addr) (bn bc m c : Nat) (h : EvIn w e B A bn bc m c) (hE : Env w) :
    Calls Tryd.prog 12 #[.agg (evC e (.slice B bn bc) (.slice A m c)).toArray] w fun r w' => r = .returned (.string (T (Rep.evT e))) ∧ Below w.heap.size w w' := by
  obtain ⟨kind, who, n, name, bytes, o⟩ := e
  by_cases h1 : kind = 1
  · subst h1; exact event1 who n name bytes o B A bn bc m c h hE
  by_cases h2 : kind = 2
  · subst h2; exact event2 who n name bytes o B A bn bc m c h hE
  by_cases h3 : kind = 3
  · subst h3; exact event3 who n name bytes o B A bn bc m c h hE
  by_cases h4 : kind = 4
  · subst h4; exact event4 who n name bytes o B A bn bc m c h hE
  by_cases h5 : kind = 5
  · subst h5; exact event5 who n name bytes o B A bn bc m c h hE
  by_cases h6 : kind = 6
  · subst h6; exact event6 who n name bytes o B A bn bc m c h hE
  by_cases h7 : kind = 7
  · subst h7; exact event7 who n name bytes o B A bn bc m c h hE
  by_cases h8 : kind = 8
  · subst h8; exact event8 who n name bytes o B A bn bc m c h hE
  exact event0 kind who n name bytes o B A bn bc m c h hE h1 h2 h3 h4 h5 h6 h7 h8
end Go.Proofs.YtkbgedaogfcdnaaDoor
