/- The files: Room, New, Used, Cut, Put, Make, Read. -/
import Derived.Test.YtahdeighocmijaaDoorFs
namespace Go.Proofs.YtahdeighocmijaaDoor
set_option linter.unusedSimpArgs false
set_option linter.unusedVariables false
open Go.RowKit
open Crc (Bytes)

/-- The room, as it is kept. -/
def roomOf (n : Int) : Int := min (max n 0) 1073741824
set_option maxRecDepth 100000 in
set_option maxHeartbeats 1000000 in
theorem room_any {w : World} {fb mb n : Nat} {S : Fs} {D : DataW Value} (k : Int) (h : FSAt w fb S mb n D) :
    Calls Tryd.prog 14 #[.pointer (some ⟨fb, 0, none⟩), .int .i64 k] w fun e w' => e = .returned (.tuple #[]) ∧ FSAt w' fb { S with room := roomOf k } mb n D ∧ Only [fb] w w' := by
  have c0 : w.cell? ⟨fb, 0, none⟩ = some (.int .i64 S.room) := h.blk.cell 0
  have z0 := h.blk.frozen 0
  have H := Lib.hid (h.set (S' := { S with room := roomOf k }) 0 (.int .i64 (roomOf k)) rfl rfl)
  clear h
  go_enter Tryd.func14, Tryd.ntmps14
  go_wp2_with fail
  all_goals
    go_end0
    refine ⟨rfl, ?_, (Only.refl _ _).setCell (.inl (by simp)) _⟩
    have H' := H.out
    first
      | (have e : roomOf k = 0 := (by unfold roomOf; omega); rw [e] at H' ⊢; exact H')
      | (have e : roomOf k = 1073741824 := (by unfold roomOf; omega); rw [e] at H' ⊢; exact H')
      | (have e : roomOf k = k := (by unfold roomOf; omega); rw [e] at H' ⊢; exact H')
set_option maxHeartbeats 1000000 in
theorem used_any {w : World} {fb mb n : Nat} {S : Fs} {D : DataW Value} (h : FSAt w fb S mb n D) :
    Calls Tryd.prog 15 #[.pointer (some ⟨fb, 0, none⟩)] w fun e w' => e = .returned (.int .i64 S.used) ∧ w = w' := by
  have c1 : w.cell? ⟨fb, 1, none⟩ = some (.int .i64 S.used) := h.blk.cell 1
  clear h
  go_enter Tryd.func15, Tryd.ntmps15
  go_wp2_with fail
  go_ret
  exact ⟨rfl, rfl⟩
theorem makeM (w : World) : (Instr.makeMap 54 none).run Tryd.prog w = .ok (.map (some w.heap.size)) (w.alloc (.map #[] 0)) := by kernel_rfl
def fs0 (room : Int) : Fs := { room := roomOf room, used := 0, last := 0, cut := 0, cuts := false, m := fun _ => none }
set_option maxRecDepth 100000 in
set_option maxHeartbeats 1000000 in
theorem newfs_any (w : World) (k : Int) :
    Calls Tryd.prog 7 #[.int .i64 k] w fun e w' => ∃ fb mb D, e = .returned (.pointer (some ⟨fb, 0, none⟩)) ∧ FSAt w' fb (fs0 k) mb 0 D ∧ w.heap.size ≤ fb ∧ w.heap.size ≤ mb ∧ Below w.heap.size w w' := by
  have hm := makeM
  have h0 := Lib.hid (show FSAt ((w.alloc (Obj.map #[] 0)).alloc (Obj.cells #[.int .i64 0, .int .i64 0, .int .i64 0, .bool false, .int .i64 0, .map (some w.heap.size)] 56)) (w.heap.size + 1) { room := 0, used := 0, last := 0, cut := 0, cuts := false, m := fun _ => none } w.heap.size 0 (.map []) from
    ⟨blk_new (cs := [.int .i64 0, .int .i64 0, .int .i64 0, .bool false, .int .i64 0, .map (some w.heap.size)]) (by simp), (World.ownsMap_made w Tryd.prog 9 RV).alloc _, fun _ _ => rfl, fun _ _ _ h => by cases h⟩)
  go_enter Tryd.func7, Tryd.ntmps7
  go_wp2_with fail
  refine (room_any k h0.out).mono ?_
  rintro e w' ⟨rfl, h1, hon⟩
  have H1 := Lib.hid h1
  have hb : Below w.heap.size w ((w.alloc (Obj.map #[] 0)).alloc (Obj.cells #[.int .i64 0, .int .i64 0, .int .i64 0, .bool false, .int .i64 0, .map (some w.heap.size)] 56)) := by (repeat (first | assumption | exact Below.refl _ _ | (with_reducible apply Below.drew) | (with_reducible apply bl_drewN) | (with_reducible apply bl_alloc) | (with_reducible refine bl_then ?_ (by assumption))))
  have Hb := Lib.hid (below_only hb hon (by simp) hb.size)
  clear h1 hon hb
  go_wp2_with fail
  go_ret
  exact ⟨_, _, _, rfl, H1.out, by omega, by omega, Hb.out⟩
end Go.Proofs.YtahdeighocmijaaDoor
