/- The files: bounds that hold along many calls. The files: Append. -/
import Derived.Test.YtahdeighocmijaaGreatDoorFs7
import Derived.Test.YtahdeighocmijaaGreatDoorConcat
namespace Go.Proofs.YtahdeighocmijaaGreatDoor
set_option linter.unusedSimpArgs false
set_option linter.unusedVariables false
open Go.RowKit
open Crc (Bytes)

/-- How many bytes an append lets in, its error, and the files by then. -/
def Fs.mid (S : Fs) (k : Nat) : (Int × Int) × Fs :=
  if S.cuts = true then ((min S.cut (k : Int), 7), { S with cuts := false }) else if S.room < S.used + (k : Int) ∧ 0 < k then ((max (S.room - S.used) 0, 2), S) else (((k : Int), 0), S)
/-- Append's answer and what it leaves. -/
def Fs.appF (S : Fs) (s : ByteArray) (l : List Int) (gs : List (ByteArray × Int)) : (Int × Int) × Fs :=
  if fileB s = false then ((0, 1), S) else if S.bad gs = true then ((0, 5), S)
  else if (S.mid l.length).1.2 ≠ 0 ∧ (S.mid l.length).1.1 = 0 then ((0, (S.mid l.length).1.2), (S.mid l.length).2)
  else ((if (S.mid l.length).1.2 = 0 then S.last + 1 else 0, (S.mid l.length).1.2), (S.mid l.length).2.write s (S.by s ++ l.take (S.mid l.length).1.1.toNat))
theorem Fs.mid_fs (S : Fs) (k : Nat) : (S.mid k).2 = S ∨ (S.mid k).2 = { S with cuts := false } := by
  unfold Fs.mid; split
  · exact .inr rfl
  · split <;> exact .inl rfl
theorem Fs.mid_last (S : Fs) (k : Nat) : (S.mid k).2.last = S.last := by rcases S.mid_fs k with e | e <;> rw [e]
theorem Fs.mid_by (S : Fs) (k : Nat) (s : ByteArray) : (S.mid k).2.by s = S.by s := by rcases S.mid_fs k with e | e <;> rw [e]; rfl
theorem Fs.mid_bd (S : Fs) (k : Nat) (h : 0 ≤ S.cut) : 0 ≤ (S.mid k).1.1 ∧ (S.mid k).1.1 ≤ k := by
  unfold Fs.mid; split
  · exact ⟨by show 0 ≤ min S.cut (k : Int); omega, by show min S.cut (k : Int) ≤ k; omega⟩
  · split
    · exact ⟨by show 0 ≤ max (S.room - S.used) 0; omega, by show max (S.room - S.used) 0 ≤ k; omega⟩
    · exact ⟨Int.natCast_nonneg _, Int.le_refl _⟩

/-- Bounds: what is used within V, each file's length within B, the last stamp within T. -/
structure Fs.fin (S : Fs) (V B T : Int) : Prop where
  u0 : -V ≤ S.used
  u1 : S.used ≤ V
  r0 : 0 ≤ S.room
  r1 : S.room ≤ 1073741824
  l0 : 0 ≤ S.last
  l1 : S.last ≤ T
  by1 : ∀ s, ((S.by s).length : Int) ≤ B
  c0 : 0 ≤ S.cut
section
variable {S : Fs} {V B T V' B' T' K : Int}
theorem Fs.fin.b0 (h : S.fin V B T) : 0 ≤ B := Int.le_trans (Int.natCast_nonneg _) (h.by1 ⟨#[]⟩)
theorem Fs.fin.ok (h : S.fin V B T) {U : Int} (h1 : V ≤ U) (h2 : B ≤ U) (h3 : T ≤ U) (h4 : U ≤ 70368744177664) : S.ok U := by
  have a := h.u0; have b := h.u1; have c := h.l1
  exact ⟨by omega, by omega, h.r0, h.r1, h.l0, by omega, h4, fun s => by have := h.by1 s; omega⟩
theorem Fs.fin.more (h : S.fin V B T) (h1 : V ≤ V') (h2 : B ≤ B') (h3 : T ≤ T') : S.fin V' B' T' := by
  have a := h.u0; have b := h.u1; have c := h.l1
  exact ⟨by omega, by omega, h.r0, h.r1, h.l0, by omega, fun s => by have := h.by1 s; omega, h.c0⟩
theorem Fs.fin.write (h : S.fin V B T) (s : ByteArray) (l : List Int) (hl : (l.length : Int) ≤ B') (hB : B ≤ B') (hV : V + B' ≤ V') (hT : T + 1 ≤ T') : (S.write s l).fin V' B' T' := by
  have a := h.u0; have b := h.u1; have c := h.l1; have d := h.l0; have e := h.by1 s
  refine ⟨?_, ?_, h.r0, h.r1, ?_, ?_, fun t => ?_, h.c0⟩
  · show -V' ≤ S.used + ((l.length : Int) - ((S.by s).length : Int)); omega
  · show S.used + ((l.length : Int) - ((S.by s).length : Int)) ≤ V'; omega
  · show 0 ≤ S.last + 1; omega
  · show S.last + 1 ≤ T'; omega
  · have h7 := h.by1 t
    unfold Fs.by Fs.write Fs.put at *
    simp only
    split
    · have := h.b0; simp; omega
    · rename_i x hx
      split at hx
      · cases hx; exact hl
      · rw [hx] at h7
        simp only at h7
        omega
theorem Fs.fin.gone (h : S.fin V B T) (s : ByteArray) (hV : V + B ≤ V') : (S.gone s).fin V' B T := by
  have a := h.u0; have b := h.u1; have e := h.by1 s
  refine ⟨?_, ?_, h.r0, h.r1, h.l0, h.l1, fun t => ?_, h.c0⟩
  · show -V' ≤ S.used - ((S.by s).length : Int); omega
  · show S.used - ((S.by s).length : Int) ≤ V'; omega
  · have h7 := h.by1 t
    unfold Fs.by Fs.gone Fs.rm at *
    simp only
    split
    · have := h.b0; simp; omega
    · rename_i x hx
      split at hx
      · cases hx
      · rw [hx] at h7
        simp only at h7
        omega
theorem Fs.fin.uncut (h : S.fin V B T) : ({ S with cuts := false } : Fs).fin V B T := ⟨h.u0, h.u1, h.r0, h.r1, h.l0, h.l1, h.by1, h.c0⟩
theorem Fs.fin.putF (h : S.fin V B T) (s : ByteArray) (l : List Int) (hl : (l.length : Int) ≤ B') (hB : B ≤ B') (hV : V + B' ≤ V') (hT : T + 1 ≤ T') : (S.putF s l).2.fin V' B' T' := by
  have := h.b0
  unfold Fs.putF
  split
  · exact h.more (by omega) hB (by omega)
  split
  · exact h.more (by omega) hB (by omega)
  · exact h.write s l hl hB hV hT
theorem Fs.fin.makeF (h : S.fin V B T) (s : ByteArray) (l : List Int) (hl : (l.length : Int) ≤ B') (hB : B ≤ B') (hV : V + B' ≤ V') (hT : T + 1 ≤ T') : (S.makeF s l).2.fin V' B' T' := by
  have := h.b0
  unfold Fs.makeF
  split
  · exact h.more (by omega) hB (by omega)
  split
  · exact h.more (by omega) hB (by omega)
  split
  · exact h.more (by omega) hB (by omega)
  · exact h.write s l hl hB hV hT
theorem Fs.fin.mid (h : S.fin V B T) (k : Nat) : (S.mid k).2.fin V B T := by
  rcases S.mid_fs k with e | e <;> rw [e]
  · exact h
  · exact h.uncut
theorem Fs.fin.appF (h : S.fin V B T) (s : ByteArray) (l : List Int) (gs : List (ByteArray × Int)) (hB : B + l.length ≤ B') (hV : V + B' ≤ V') (hT : T + 1 ≤ T') : (S.appF s l gs).2.fin V' B' T' := by
  have := h.b0
  have hb := h.by1 s
  have h1 : B ≤ B' := by omega
  have hw : ∀ k, ((S.by s ++ l.take k).length : Int) ≤ B' := fun k => by
    have : (l.take k).length ≤ l.length := List.length_take_le' _ _
    rw [List.length_append]; omega
  unfold Fs.appF
  split
  · exact h.more (by omega) h1 (by omega)
  split
  · exact h.more (by omega) h1 (by omega)
  split
  · exact (h.mid _).more (by omega) h1 (by omega)
  · exact (h.mid _).write s _ (hw _) h1 hV hT
theorem Fs.fin.dropF (h : S.fin V B T) (s : ByteArray) (gs : List (ByteArray × Int)) (hV : V + B ≤ V') : (S.dropF s gs).2.fin V' B T := by
  have := h.b0
  unfold Fs.dropF
  split
  · exact h.more (by omega) (by omega) (by omega)
  split
  · exact h.more (by omega) (by omega) (by omega)
  split
  · exact h.more (by omega) (by omega) (by omega)
  · exact h.gone s hV
theorem Fs.fin.moveF (h : S.fin V B T) (a b : ByteArray) (gs : List (ByteArray × Int)) (hV : V + B + B ≤ V') (hT : T + 1 ≤ T') : (S.moveF a b gs).2.fin V' B T' := by
  have := h.b0
  unfold Fs.moveF
  split
  · exact h.more (by omega) (by omega) (by omega)
  split
  · exact h.more (by omega) (by omega) (by omega)
  split
  · exact h.more (by omega) (by omega) (by omega)
  · exact (h.gone a (Int.le_refl _)).write b _ (h.by1 a) (Int.le_refl _) hV hT
theorem Fs.fin.cutF (h : S.fin V B T) (k : Int) : ({ S with cuts := true, cut := max k 0 } : Fs).fin V B T := ⟨h.u0, h.u1, h.r0, h.r1, h.l0, h.l1, h.by1, by show 0 ≤ max k 0; omega⟩
theorem Fs.fin.roomF (h : S.fin V B T) (k : Int) (h0 : 0 ≤ k) (h1 : k ≤ 1073741824) : ({ S with room := k } : Fs).fin V B T := ⟨h.u0, h.u1, h0, h1, h.l0, h.l1, h.by1, h.c0⟩
end
end Go.Proofs.YtahdeighocmijaaGreatDoor
namespace Go.Proofs.YtahdeighocmijaaGreatDoor
set_option linter.unusedSimpArgs false
set_option linter.unusedVariables false
open Go.RowKit
open Crc (Bytes)

theorem addr_zero (A : Option Addr) : A.map (·.add 0) = A := by
  cases A with
  | none => rfl
  | some a => obtain ⟨b, o, p⟩ := a; unfold Addr.add; cases p <;> rfl
theorem slice_upto {P : Program} {t e : TypeId} {size : Nat} (ht : P.underlying t = some (.slice e)) (hs : (P.info? e).map (·.size) = some size) {A : Option Addr} {n c k : Nat} {kk : IntKind} (hk : k ≤ n) (hc : n ≤ c) (w : World) :
    (Instr.slice t (.slice A n c) none (some (.int kk (k : Int))) none).run P w = .ok (.slice A k c) w := by
  obtain ⟨i, hi, hsi⟩ := Option.map_eq_some_iff.1 hs
  have h1 : (0 : Int) ≤ (k : Int) := by omega
  have h2 : (k : Int) ≤ (c : Int) := by omega
  have e1 := addr_zero A
  simp [Instr.slice, run_underlying ht, Instr.sliceBounds, Instr.sliceBound, asIntOf, sizeOf, typeInfo, hi, hsi, h1, h2]
  rw [e1, if_pos (by omega)]
  simp
theorem rws_two {w : World} {t : TypeId} {B A : Option Addr} {m d n c g : Nat} {lb la : List Int} (hg : g = w.heap.size) (hb : Bs w B m lb) (ha : Bs w A n la) :
    Rws (w.alloc (.cells #[.slice B m d, .slice A n c] t)) g 2 [(B, m, d, lb), (A, n, c, la)] := by
  subst hg
  refine ⟨rfl, fun j hj => ?_, fun j hj => ?_, by omega⟩
  · rw [cell_alloc]
    have : j < 2 := hj
    rcases (show j = 0 ∨ j = 1 by omega) with rfl | rfl <;> rfl
  · have : j < 2 := hj
    rcases (show j = 0 ∨ j = 1 by omega) with rfl | rfl
    · exact hb.alloc _
    · exact ha.alloc _
theorem allOf_two (B A : Option Addr) (m d n c : Nat) (lb la : List Int) : allOf [(B, m, d, lb), (A, n, c, la)] = lb ++ la := by simp [allOf]
theorem Fs.ok.mid {S : Fs} {U : Int} (h : S.ok U) (k : Nat) : (S.mid k).2.ok U := by
  rcases S.mid_fs k with e | e <;> rw [e]
  · exact h
  · exact ⟨h.u0, h.u1, h.r0, h.r1, h.l0, h.l1, h.U1, h.by1⟩
end Go.Proofs.YtahdeighocmijaaGreatDoor
