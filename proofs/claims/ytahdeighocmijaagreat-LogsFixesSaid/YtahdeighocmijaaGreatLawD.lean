/- The laws' commits of numbers: fettlelaw12.Done. -/
import Derived.Test.YtahdeighocmijaaGreatRtrace
import Derived.Test.YtahdeighocmijaaGreatInts
namespace Go.Proofs.YtahdeighocmijaaGreat
set_option linter.unusedSimpArgs false
set_option linter.unusedVariables false
open Go.RowKit
open Crc (Bytes)
open Cod (six held dig far numOf)

def lawT (k : Int) : ByteArray := if k = 0 then ⟨#[97]⟩ else if k = 1 then ⟨#[98]⟩ else if k = 2 then ⟨#[99, 46, 111]⟩ else ⟨#[108, 111, 110, 103, 45, 110, 97, 109, 101, 95, 48, 49, 50, 51]⟩
def lawD (n : Int) : Dn := ⟨lawT (Go.bits .and .i64 n 3), Go.bits .and .i64 (n / 4) 7, Go.bits .and .i64 (n / 32) 15, [n / 512 % 256, n / 131072 % 256].take ((Go.bits .and .i64 (n / 33554432) 3).tmod 3).toNat⟩
structure LawDone (w : World) (n : Int) (e : Ending) (w' : World) : Prop where
  ex : ∃ X m, e = .returned (dnV (lawD n) X m 2) ∧ Bs w' X m (lawD n).p ∧ U8 w' X m ∧ m ≤ 2
  bel : Below w.heap.size w w'
theorem law_bs {w' : World} {n : Int} {k g : Nat} (hk : (Go.bits .and .i64 (n / 33554432) 3).tmod 3 = (k : Int)) (hk3 : k ≤ 2) (h : Blk w' g 5 [.int .u8 (n / 512 % 256), .int .u8 (n / 131072 % 256)]) : Bs w' (some ⟨g, 0, none⟩) k (lawD n).p ∧ U8 w' (some ⟨g, 0, none⟩) k := by
  have h1 : Bs w' (some ⟨g, 0, none⟩) 2 [n / 512 % 256, n / 131072 % 256] := Blk.bs (l := [n / 512 % 256, n / 131072 % 256]) h (by intro x hx; simp at hx; rcases hx with rfl | rfl <;> omega) (by simp)
  refine ⟨?_, fun ad he h0 => ?_⟩
  · unfold lawD
    simp only [hk, Int.toNat_natCast]
    exact h1.take hk3
  · injection he with he
    subst he
    exact ⟨_, _, h.at_⟩
theorem law_a {K : Exit → Act → World → Prop} {ex : Exit} {a : Act} {w W : World} {g : Nat} {t : TypeId} {u0 u1 u2 u3 v0 v1 v2 v3 : Value} {o : Obj} {xs : List Value} (hb : Blk W g t [u0, u1, u2, u3]) (hbel : Below w.heap.size w W) (hg : g = w.heap.size)
    (h : ∀ W', Blk W' (W.heap.size + 1) 5 xs → Blk W' g t [v0, v1, v2, v3] → Below w.heap.size w W' → K ex a W') :
    K ex a ((((((W.setCell ⟨g, 0, none⟩ v0).setCell ⟨g, 1, none⟩ v1).setCell ⟨g, 2, none⟩ v2).setCell ⟨g, 3, none⟩ v3).alloc o).alloc (Obj.cells xs.toArray 5)).drew := by
  have h4 := (((hb.set_ 0 v0).set_ 1 v1).set_ 2 v2).set_ 3 v3
  have hb4 := bl_set4 hbel (Nat.le_of_eq hg.symm) v0 v1 v2 v3
  refine h _ ?_ ((h4.alloc _).alloc _).drew ((bl_alloc (bl_alloc hb4)).drew)
  have := (Blk.new (((((W.setCell ⟨g, 0, none⟩ v0).setCell ⟨g, 1, none⟩ v1).setCell ⟨g, 2, none⟩ v2).setCell ⟨g, 3, none⟩ v3).alloc o) 5 xs).drew
  simpa using this
theorem law_b {K : Exit → Act → World → Prop} {ex : Exit} {a : Act} {w W : World} {g : Nat} {t : TypeId} {u0 u1 u2 u3 v0 v1 v2 v3 : Value} {o : Obj} {xs : List Value} (hb : Blk W g t [u0, u1, u2, u3]) (hbel : Below w.heap.size w W) (hg : g = w.heap.size)
    (h : ∀ W', Blk W' W.heap.size 5 xs → Blk W' g t [v0, v1, v2, v3] → Below w.heap.size w W' → K ex a W') :
    K ex a ((((((W.setCell ⟨g, 0, none⟩ v0).setCell ⟨g, 1, none⟩ v1).setCell ⟨g, 2, none⟩ v2).setCell ⟨g, 3, none⟩ v3).alloc (Obj.cells xs.toArray 5)).alloc o).drew := by
  have h4 := (((hb.set_ 0 v0).set_ 1 v1).set_ 2 v2).set_ 3 v3
  have hb4 := bl_set4 hbel (Nat.le_of_eq hg.symm) v0 v1 v2 v3
  refine h _ ?_ ((h4.alloc _).alloc _).drew ((bl_alloc (bl_alloc hb4)).drew)
  have := ((Blk.new ((((W.setCell ⟨g, 0, none⟩ v0).setCell ⟨g, 1, none⟩ v1).setCell ⟨g, 2, none⟩ v2).setCell ⟨g, 3, none⟩ v3) 5 xs).alloc o).drew
  simpa using this
set_option maxRecDepth 100000 in
set_option maxHeartbeats 4000000 in
theorem lawDone_any (n : Int) (w : World) : Calls Tryz.prog 8 #[.int .i64 n] w (LawDone w n) := by
  obtain ⟨k0, hk0, hk1⟩ := maskN 2 (by decide) n 3 rfl
  obtain ⟨p, hp0, hp1⟩ := maskN 2 (by decide) (n / 33554432) 3 rfl
  have hk : Go.bits .and .i64 n 3 = 0 ∨ Go.bits .and .i64 n 3 = 1 ∨ Go.bits .and .i64 n 3 = 2 ∨ Go.bits .and .i64 n 3 = 3 := by omega
  obtain ⟨k, hk2⟩ : ∃ k : Nat, (Go.bits .and .i64 (n / 33554432) 3).tmod 3 = (k : Int) := ⟨p % 3, by rw [hp0]; rfl⟩
  have hk3 : k ≤ 2 := by rw [hp0, Int.tmod_eq_emod_of_nonneg (by omega)] at hk2; omega
  have hsl := fun (g : Nat) (w : World) => slice_upto (P := Tryz.prog) (A := some ⟨g, 0, none⟩) (n := 2) (c := 2) (kk := .i64) (k := k) Tryz.underlying23 u8s hk3 (by omega) w
  clear hk0 hk1 hp0 hp1
  rcases hk with hk | hk | hk | hk
  · (go_enter Tryz.func8, Tryz.ntmps8; go_wp2_with fail; refine at_world (fun W => Blk W w.heap.size 30 [.string ⟨#[]⟩, .int .i64 0, .int .i64 0, .slice none 0 0] ∧ Below w.heap.size w W) ⟨Blk.new w _ _, bl_alloc (Below.refl _ _)⟩ ?_; rintro W ⟨hb, hbel⟩; have k0 : W.cell? ⟨w.heap.size, 0, none⟩ = some (.string ⟨#[]⟩) := hb.cell 0; have k1 : W.cell? ⟨w.heap.size, 1, none⟩ = some (.int .i64 0) := hb.cell 1; have k2 : W.cell? ⟨w.heap.size, 2, none⟩ = some (.int .i64 0) := hb.cell 2; have k3 : W.cell? ⟨w.heap.size, 3, none⟩ = some (.slice none 0 0) := hb.cell 3; have z0 := hb.frozen 0; have z1 := hb.frozen 1; have z2 := hb.frozen 2; have z3 := hb.frozen 3; have hne := hb.lt; have HB := Lib.hid hb; have Hbel := Lib.hid hbel; clear hb hbel)
    have hT := Lib.hid (show (lawD n).t = ⟨#[97]⟩ by unfold lawD; simp only [hk]; rfl)
    (go_region; all_goals ((first | with_reducible refine law_a (xs := [.int .u8 (n / 512 % 256), .int .u8 (n / 131072 % 256)]) HB.out Hbel.out rfl ?_ | with_reducible refine law_b (xs := [.int .u8 (n / 512 % 256), .int .u8 (n / 131072 % 256)]) HB.out Hbel.out rfl ?_); intro W' q1 q2 q3; have Q1 := Lib.hid (law_bs hk2 hk3 q1); have Q2 := Lib.hid q2; have Q3 := Lib.hid q3; clear q1 q2 q3; go_wp2_with fail; refine bodyPost_ret (results_cell_row rfl _ _ w.heap.size _ _ _ _ rfl Q2.out.at_ Tryz.underlying30 rfl (by kernel_rfl)) rfl ⟨⟨_, k, ?_, Q1.out.1, Q1.out.2, hk3⟩, Q3.out⟩; unfold dnV; rw [hT.out]; rfl))
  · (go_enter Tryz.func8, Tryz.ntmps8; go_wp2_with fail; refine at_world (fun W => Blk W w.heap.size 30 [.string ⟨#[]⟩, .int .i64 0, .int .i64 0, .slice none 0 0] ∧ Below w.heap.size w W) ⟨Blk.new w _ _, bl_alloc (Below.refl _ _)⟩ ?_; rintro W ⟨hb, hbel⟩; have k0 : W.cell? ⟨w.heap.size, 0, none⟩ = some (.string ⟨#[]⟩) := hb.cell 0; have k1 : W.cell? ⟨w.heap.size, 1, none⟩ = some (.int .i64 0) := hb.cell 1; have k2 : W.cell? ⟨w.heap.size, 2, none⟩ = some (.int .i64 0) := hb.cell 2; have k3 : W.cell? ⟨w.heap.size, 3, none⟩ = some (.slice none 0 0) := hb.cell 3; have z0 := hb.frozen 0; have z1 := hb.frozen 1; have z2 := hb.frozen 2; have z3 := hb.frozen 3; have hne := hb.lt; have HB := Lib.hid hb; have Hbel := Lib.hid hbel; clear hb hbel)
    have hT := Lib.hid (show (lawD n).t = ⟨#[98]⟩ by unfold lawD; simp only [hk]; rfl)
    (go_region; all_goals ((first | with_reducible refine law_a (xs := [.int .u8 (n / 512 % 256), .int .u8 (n / 131072 % 256)]) HB.out Hbel.out rfl ?_ | with_reducible refine law_b (xs := [.int .u8 (n / 512 % 256), .int .u8 (n / 131072 % 256)]) HB.out Hbel.out rfl ?_); intro W' q1 q2 q3; have Q1 := Lib.hid (law_bs hk2 hk3 q1); have Q2 := Lib.hid q2; have Q3 := Lib.hid q3; clear q1 q2 q3; go_wp2_with fail; refine bodyPost_ret (results_cell_row rfl _ _ w.heap.size _ _ _ _ rfl Q2.out.at_ Tryz.underlying30 rfl (by kernel_rfl)) rfl ⟨⟨_, k, ?_, Q1.out.1, Q1.out.2, hk3⟩, Q3.out⟩; unfold dnV; rw [hT.out]; rfl))
  · (go_enter Tryz.func8, Tryz.ntmps8; go_wp2_with fail; refine at_world (fun W => Blk W w.heap.size 30 [.string ⟨#[]⟩, .int .i64 0, .int .i64 0, .slice none 0 0] ∧ Below w.heap.size w W) ⟨Blk.new w _ _, bl_alloc (Below.refl _ _)⟩ ?_; rintro W ⟨hb, hbel⟩; have k0 : W.cell? ⟨w.heap.size, 0, none⟩ = some (.string ⟨#[]⟩) := hb.cell 0; have k1 : W.cell? ⟨w.heap.size, 1, none⟩ = some (.int .i64 0) := hb.cell 1; have k2 : W.cell? ⟨w.heap.size, 2, none⟩ = some (.int .i64 0) := hb.cell 2; have k3 : W.cell? ⟨w.heap.size, 3, none⟩ = some (.slice none 0 0) := hb.cell 3; have z0 := hb.frozen 0; have z1 := hb.frozen 1; have z2 := hb.frozen 2; have z3 := hb.frozen 3; have hne := hb.lt; have HB := Lib.hid hb; have Hbel := Lib.hid hbel; clear hb hbel)
    have hT := Lib.hid (show (lawD n).t = ⟨#[99, 46, 111]⟩ by unfold lawD; simp only [hk]; rfl)
    (go_region; all_goals ((first | with_reducible refine law_a (xs := [.int .u8 (n / 512 % 256), .int .u8 (n / 131072 % 256)]) HB.out Hbel.out rfl ?_ | with_reducible refine law_b (xs := [.int .u8 (n / 512 % 256), .int .u8 (n / 131072 % 256)]) HB.out Hbel.out rfl ?_); intro W' q1 q2 q3; have Q1 := Lib.hid (law_bs hk2 hk3 q1); have Q2 := Lib.hid q2; have Q3 := Lib.hid q3; clear q1 q2 q3; go_wp2_with fail; refine bodyPost_ret (results_cell_row rfl _ _ w.heap.size _ _ _ _ rfl Q2.out.at_ Tryz.underlying30 rfl (by kernel_rfl)) rfl ⟨⟨_, k, ?_, Q1.out.1, Q1.out.2, hk3⟩, Q3.out⟩; unfold dnV; rw [hT.out]; rfl))
  · (go_enter Tryz.func8, Tryz.ntmps8; go_wp2_with fail; refine at_world (fun W => Blk W w.heap.size 30 [.string ⟨#[]⟩, .int .i64 0, .int .i64 0, .slice none 0 0] ∧ Below w.heap.size w W) ⟨Blk.new w _ _, bl_alloc (Below.refl _ _)⟩ ?_; rintro W ⟨hb, hbel⟩; have k0 : W.cell? ⟨w.heap.size, 0, none⟩ = some (.string ⟨#[]⟩) := hb.cell 0; have k1 : W.cell? ⟨w.heap.size, 1, none⟩ = some (.int .i64 0) := hb.cell 1; have k2 : W.cell? ⟨w.heap.size, 2, none⟩ = some (.int .i64 0) := hb.cell 2; have k3 : W.cell? ⟨w.heap.size, 3, none⟩ = some (.slice none 0 0) := hb.cell 3; have z0 := hb.frozen 0; have z1 := hb.frozen 1; have z2 := hb.frozen 2; have z3 := hb.frozen 3; have hne := hb.lt; have HB := Lib.hid hb; have Hbel := Lib.hid hbel; clear hb hbel)
    have hT := Lib.hid (show (lawD n).t = ⟨#[108, 111, 110, 103, 45, 110, 97, 109, 101, 95, 48, 49, 50, 51]⟩ by unfold lawD; simp only [hk]; rfl)
    (go_region; all_goals ((first | with_reducible refine law_a (xs := [.int .u8 (n / 512 % 256), .int .u8 (n / 131072 % 256)]) HB.out Hbel.out rfl ?_ | with_reducible refine law_b (xs := [.int .u8 (n / 512 % 256), .int .u8 (n / 131072 % 256)]) HB.out Hbel.out rfl ?_); intro W' q1 q2 q3; have Q1 := Lib.hid (law_bs hk2 hk3 q1); have Q2 := Lib.hid q2; have Q3 := Lib.hid q3; clear q1 q2 q3; go_wp2_with fail; refine bodyPost_ret (results_cell_row rfl _ _ w.heap.size _ _ _ _ rfl Q2.out.at_ Tryz.underlying30 rfl (by kernel_rfl)) rfl ⟨⟨_, k, ?_, Q1.out.1, Q1.out.2, hk3⟩, Q3.out⟩; unfold dnV; rw [hT.out]; rfl))
end Go.Proofs.YtahdeighocmijaaGreat
