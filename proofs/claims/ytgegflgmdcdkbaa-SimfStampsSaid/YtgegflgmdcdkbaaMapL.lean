/- A law's own maps (int -> bool, string -> int) beside the files; Name. -/
import Derived.Test.YtgegflgmdcdkbaaSOwn
namespace Go.Proofs.Ytgegflgmdcdkbaa
set_option linter.unusedSimpArgs false
set_option linter.unusedVariables false
open Go.RowKit
open Crc (Bytes)

theorem intK : Maps.Keyed Try.prog 3 := Maps.int_keyed Try.underlying3
theorem keyI (x : Int) (h : (Lit.int .i64 x).wf = true) : keyOf Try.prog 3 (.int .i64 x) = some (.int .i64 x) := by
  simp [keyOf, Try.underlying3, mapKey, h]
theorem boolZ (w : World) : (zeroValue 4).run Try.prog w = .ok (.bool false) w := by kernel_rfl
theorem intZ (w : World) : (zeroValue 3).run Try.prog w = .ok (.int .i64 0) w := by kernel_rfl
/-- A map of numbers to truths. -/
structure MapI (w : World) (b n : Nat) (f : Int → Bool) : Prop where
  ex : ∃ D, w.ownsMap Try.prog 3 RV b n D ∧ ∀ x, D.atKey (.int .i64 x) (.held (.bool false)) = .held (.bool (f x))
/-- A map of texts to numbers. -/
structure MapT (w : World) (b n : Nat) (f : List UInt8 → Int) : Prop where
  ex : ∃ D, w.ownsMap Try.prog 9 RV b n D ∧ ∀ x, D.atKey (.string x) (.held (.int .i64 0)) = .held (.int .i64 (f x))
section
variable {w w' : World} {b n : Nat} {f : Int → Bool} {g : List UInt8 → Int}
theorem MapI.made (w : World) : MapI (w.alloc (.map #[] 0)) w.heap.size 0 (fun _ => false) := ⟨_, World.ownsMap_made w Try.prog 3 RV, fun _ => rfl⟩
theorem MapT.made (w : World) : MapT (w.alloc (.map #[] 0)) w.heap.size 0 (fun _ => 0) := ⟨_, World.ownsMap_made w Try.prog 9 RV, fun _ => rfl⟩
theorem MapI.lt (h : MapI w b n f) : b < w.heap.size := by obtain ⟨D, h, _⟩ := h.ex; exact h.lt
theorem MapT.lt (h : MapT w b n g) : b < w.heap.size := by obtain ⟨D, h, _⟩ := h.ex; exact h.lt
theorem MapI.keep (h : MapI w b n f) (hk : w'.heap[b]? = w.heap[b]?) : MapI w' b n f := by
  obtain ⟨D, ⟨es, clock, h1, r⟩, h2⟩ := h.ex
  exact ⟨D, ⟨es, clock, hk.trans h1, r⟩, h2⟩
theorem MapT.keep (h : MapT w b n g) (hk : w'.heap[b]? = w.heap[b]?) : MapT w' b n g := by
  obtain ⟨D, ⟨es, clock, h1, r⟩, h2⟩ := h.ex
  exact ⟨D, ⟨es, clock, hk.trans h1, r⟩, h2⟩
theorem MapI.below (h : MapI w b n f) (hb : Below w.heap.size w w') : MapI w' b n f := h.keep (hb.block b h.lt)
theorem MapT.below (h : MapT w b n g) (hb : Below w.heap.size w w') : MapT w' b n g := h.keep (hb.block b h.lt)
theorem MapI.isMap (h : MapI w b n f) : ∃ es clock, w.heap[b]? = some (.map es clock) := by obtain ⟨D, ⟨es, clock, h1, r⟩, h2⟩ := h.ex; exact ⟨es, clock, h1⟩
theorem MapT.isMap (h : MapT w b n g) : ∃ es clock, w.heap[b]? = some (.map es clock) := by obtain ⟨D, ⟨es, clock, h1, r⟩, h2⟩ := h.ex; exact ⟨es, clock, h1⟩
theorem MapI.look (h : MapI w b n f) (x : Int) (hx : (Lit.int .i64 x).wf = true) : (Instr.lookup 56 (.map (some b)) (.int .i64 x) false).run Try.prog w = .ok (.bool (f x)) w := by
  obtain ⟨D, hD, h2⟩ := h.ex
  obtain ⟨v, ps, hrun, hv⟩ := hD.lookup intK Try.underlying56 (boolZ w) (zd := .held (.bool false)) (zp := []) rfl (keyI x hx)
  rw [h2] at hv
  simp only [RV, Option.some.injEq, Prod.mk.injEq, DataW.held.injEq] at hv
  rw [hrun, hv.1]
theorem MapT.look (h : MapT w b n g) (s : ByteArray) (hs : s.size ≤ maxLen) : (Instr.lookup 57 (.map (some b)) (.string s) false).run Try.prog w = .ok (.int .i64 (g s.data.toList)) w := by
  obtain ⟨D, hD, h2⟩ := h.ex
  obtain ⟨v, ps, hrun, hv⟩ := hD.lookup strK Try.underlying57 (intZ w) (zd := .held (.int .i64 0)) (zp := []) rfl (keyS s hs)
  rw [h2] at hv
  simp only [RV, Option.some.injEq, Prod.mk.injEq, DataW.held.injEq] at hv
  rw [hrun, hv.1]
theorem MapI.put (h : MapI w b n f) (hn : n < maxLen) (x : Int) (hx : (Lit.int .i64 x).wf = true) : ∃ w', (Instr.mapUpdate 56 (.map (some b)) (.int .i64 x) (.bool true)).run Try.prog w = .ok () w' ∧ MapI w' b (n + 1) (fun y => if y = x then true else f y) ∧ w.grownBy w' (some b) := by
  obtain ⟨D, hD, h2⟩ := h.ex
  obtain ⟨w', hrun, hown, hg⟩ := hD.update intK Try.underlying56 hn (keyI x hx) (val := .bool true) (d := .held (.bool true)) (ps := []) rfl
  refine ⟨w', hrun, ⟨_, hown, fun y => ?_⟩, hg⟩
  by_cases e : y = x
  · subst e
    rw [if_pos rfl, Maps.atKey_put_same hD.isMap (show WideAt.IsKeyLit (Lit.int .i64 y) from trivial)]
  · rw [if_neg e, Maps.atKey_put_other (fun h => e (by injection h))]
    exact h2 y
theorem MapT.put (h : MapT w b n g) (hn : n < maxLen) (s : ByteArray) (hs : s.size ≤ maxLen) (v : Int) : ∃ w', (Instr.mapUpdate 57 (.map (some b)) (.string s) (.int .i64 v)).run Try.prog w = .ok () w' ∧ MapT w' b (n + 1) (fun y => if y = s.data.toList then v else g y) ∧ w.grownBy w' (some b) := by
  obtain ⟨D, hD, h2⟩ := h.ex
  obtain ⟨w', hrun, hown, hg⟩ := hD.update strK Try.underlying57 hn (keyS s hs) (val := .int .i64 v) (d := .held (.int .i64 v)) (ps := []) rfl
  refine ⟨w', hrun, ⟨_, hown, fun y => ?_⟩, hg⟩
  by_cases e : y = s.data.toList
  · subst e
    rw [if_pos rfl, Maps.atKey_put_same hD.isMap (show WideAt.IsKeyLit (Lit.string s.data.toList) from trivial)]
  · rw [if_neg e, Maps.atKey_put_other (fun h => e (by injection h))]
    exact h2 y
theorem MapT.del (h : MapT w b n g) (s : ByteArray) (hs : s.size ≤ maxLen) : ∃ w', (Builtin.delete_ #[57, 9] 0 #[.map (some b), .string s]).run Try.prog w = .ok (.tuple #[]) w' ∧ MapT w' b n (fun y => if y = s.data.toList then 0 else g y) ∧ w.grownBy w' (some b) := by
  obtain ⟨D, hD, h2⟩ := h.ex
  obtain ⟨w', hrun, hown, hmt⟩ := hD.drop strK Try.underlying57 (keyS s hs) 0
  refine ⟨w', hrun, ⟨_, hown, fun y => ?_⟩, hmt.grown⟩
  by_cases e : y = s.data.toList
  · subst e
    rw [if_pos rfl, Maps.atKey_del_same]
  · rw [if_neg e, Maps.atKey_del_other (fun h => e (by injection h))]
    exact h2 y
end
theorem FSAt.turned {w w' : World} {fb mb n b : Nat} {S : Fs} {D : DataW Value} (h : FSAt w fb S mb n D) (hg : w.grownBy w' (some b)) (hb : ∃ es clock, w.heap[b]? = some (.map es clock)) (hm : mb ≠ b) : FSAt w' fb S mb n D := by
  obtain ⟨es0, clock0, hb0⟩ := hb
  have hmu : ∀ {B : Option Addr} {j : Nat}, U8 w B j → ∀ ad, B = some ad → 0 < j → w'.heap[ad.block]? = w.heap[ad.block]? := fun hu ad hA h0 => by
    obtain ⟨cs, fr, hh⟩ := hu ad hA h0
    refine hg.block _ (Array.getElem?_eq_some_iff.1 hh).1 ?_
    intro e
    have e' := Option.some.inj e
    rw [e', hb0] at hh
    cases hh
  have hfb : fb ≠ b := by
    rintro rfl
    have := h.blk.at_
    rw [hb0] at this
    cases this
  refine ⟨h.blk.keep (hg.block fb h.blk.lt (fun e => hfb (Option.some.inj e))), ?_, h.no, fun key l st hk => ?_⟩
  · obtain ⟨es, clock, h1, r⟩ := h.own
    exact ⟨es, clock, (hg.block mb h.own.lt (fun e => hm (Option.some.inj e))).trans h1, r⟩
  · obtain ⟨h1, A, k, c, h2, h3, h4, h5⟩ := h.yes key l st hk
    exact ⟨h1, A, k, c, h2, ⟨h3.rd.keep hg.size (hmu h5), h3.by_, h3.le⟩, h4, h5.keep (hmu h5)⟩
theorem FsH.turned {w0 w w' : World} {fb mb k b : Nat} {S : Fs} (h : FsH w0 w fb mb S k) (hg : w.grownBy w' (some b)) (hb : ∃ es clock, w.heap[b]? = some (.map es clock)) (hm : mb ≠ b) (hw : w0.heap.size ≤ b) : FsH w0 w' fb mb S k := by
  obtain ⟨n, D, hn, hF⟩ := h.at_
  exact ⟨⟨n, D, hn, hF.turned hg hb hm⟩, h.fin, h.hk, h.hf, h.hm, h.bel.grown hg h.bel.size (fun j hj => by cases hj; exact hw)⟩

/-- The names of fettlelaw9. -/
def nm12 : List ByteArray := [⟨#[97]⟩, ⟨#[98]⟩, ⟨#[99]⟩, ⟨#[116, 114, 97, 99, 101]⟩, ⟨#[116, 109, 112, 47, 49, 46, 49, 46, 49]⟩, ⟨#[116, 109, 112, 47, 50, 46, 49, 46, 49]⟩, ⟨#[108, 111, 99, 107, 47, 108, 111, 103]⟩, ⟨#[99, 108, 97, 105, 109, 47, 97]⟩, ⟨#[99, 108, 97, 105, 109, 47, 98]⟩, ⟨#[65]⟩, ⟨#[]⟩, ⟨#[97, 47, 98, 47, 99]⟩]
def nmOf (k : Nat) : ByteArray := nm12.getD k ⟨#[]⟩
def nmIx (x : Int) : Nat := (Go.bits .and .i64 x 255 % 12).toNat
set_option maxRecDepth 100000 in
set_option maxHeartbeats 1000000 in
theorem name_any (x : Int) (w : World) : Calls Try.prog 27 #[.int .i64 x] w fun e w' => e = .returned (.string (nmOf (nmIx x))) ∧ Below w.heap.size w w' := by
  obtain ⟨p, hp, hp1⟩ := maskN 8 (by decide) x 255 (by decide)
  obtain ⟨k, hk1, hk2⟩ : ∃ k : Nat, (p : Int) % 12 = (k : Int) ∧ k < 12 := ⟨p % 12, by omega, by omega⟩
  have hix : nmIx x = k := by unfold nmIx; rw [hp, hk1]; simp
  have hk3 : (k : Int) < 12 := by omega
  have Hix := Lib.hid hix
  clear hix
  have hb := Blk.new w 9 (nm12.map Value.string)
  have hc : (w.alloc (.cells (nm12.map Value.string).toArray 9)).cell? ⟨w.heap.size, k, none⟩ = some (.string (nmOf k)) := by
    rw [hb.cell k, List.getElem?_map]
    have hl : k < nm12.length := hk2
    rw [List.getElem?_eq_getElem hl]
    simp only [Option.map_some]
    have : nm12[k] = nmOf k := by simp [nmOf, List.getD, hl]
    rw [this]
  simp only [nm12, List.map_cons, List.map_nil] at hc
  obtain ⟨s, hs⟩ : ∃ s, nmOf k = s := ⟨_, rfl⟩
  rw [hs] at hc
  clear hb
  go_enter Try.func27, Try.ntmps27
  go_wp2_with fail
  go_ret
  exact ⟨by rw [Hix.out, hs]; rfl, by (repeat (first | assumption | exact Below.refl _ _ | (with_reducible apply Below.drew) | (with_reducible apply bl_drewN) | (with_reducible apply bl_alloc) | (with_reducible refine bl_then ?_ (by assumption))))⟩
theorem nmOf_size (k : Nat) : (nmOf k).size ≤ 1000 := by
  unfold nmOf
  by_cases h : k < 12
  · rcases (show k = 0 ∨ k = 1 ∨ k = 2 ∨ k = 3 ∨ k = 4 ∨ k = 5 ∨ k = 6 ∨ k = 7 ∨ k = 8 ∨ k = 9 ∨ k = 10 ∨ k = 11 by omega) with rfl | rfl | rfl | rfl | rfl | rfl | rfl | rfl | rfl | rfl | rfl | rfl <;> decide
  · have : nm12[k]? = none := List.getElem?_eq_none (by simp [nm12]; omega)
    rw [List.getD_eq_getElem?_getD, this]; decide
end Go.Proofs.Ytgegflgmdcdkbaa
