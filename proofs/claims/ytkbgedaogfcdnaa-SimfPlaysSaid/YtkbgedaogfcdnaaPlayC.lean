/- SimfPlays: what the arms of the switch share. -/
import Derived.Test.YtkbgedaogfcdnaaPlayT
namespace Go.Proofs.Ytkbgedaogfcdnaa
set_option linter.unusedSimpArgs false
set_option linter.unusedVariables false
open Go.RowKit
open Crc (Bytes)
def fstOf : Code → Code
  | .seq a _ => a
  | _ => .skip
noncomputable def playSw : Code := fstOf playRest
/-- A row of guards that is the call's own. -/
structure GR (W : World) (base : Nat) (Ag : Option Addr) (kg cg : Nat) (gs : List (ByteArray × Int)) : Prop where
  own : Own W base 35 2 Ag kg cg (gcells gs)
  len : gs.length = kg
  nm : ∀ x ∈ gs, x.1.size ≤ 1000
  le : kg ≤ 100
theorem GR.grd {W : World} {base kg cg : Nat} {Ag : Option Addr} {gs : List (ByteArray × Int)} (h : GR W base Ag kg cg gs) : Grd W Ag kg gs := by
  have := h.le
  refine ⟨h.own.rd, h.len, (fun x hx => by have := h.nm x hx; omega), by omega, fun ad hA h0 => ?_⟩
  obtain ⟨g, hg, _⟩ := h.own.some h0
  rw [hA] at hg; injection hg with hg
  exact ⟨g, 0, hg⟩
theorem GR.below {W W' : World} {base kg cg : Nat} {Ag : Option Addr} {gs : List (ByteArray × Int)} (h : GR W base Ag kg cg gs) (hb : Below W.heap.size W W') : GR W' base Ag kg cg gs := ⟨h.own.below hb, h.len, h.nm, h.le⟩
theorem GR.onlyf {w0 w w' : World} {base kg cg fb mb kf : Nat} {Ag : Option Addr} {gs : List (ByteArray × Int)} {S2 : Fs} (h : GR w base Ag kg cg gs) (hf : FsH w0 w fb mb S2 kf) (ho : Only [fb, mb] w w') : GR w' base Ag kg cg gs := by
  obtain ⟨m, D, _, hF⟩ := hf.at_
  obtain ⟨es, clock, hmap, _⟩ := hF.own
  refine ⟨h.own.keep fun g hg => ho.block g (h.own.blk g hg).2 fun hm => ?_, h.len, h.nm, h.le⟩
  obtain ⟨cs, fr, e⟩ := own_at h.own hg
  simp only [List.mem_cons, List.not_mem_nil, or_false] at hm
  rcases hm with rfl | rfl
  · rw [hF.blk.at_] at e; injection e with e; injection e with _ e; exact absurd e (by decide)
  · rw [hmap] at e; cases e
/-- What stands at the switch's end. -/
structure PlayM (c : PlayC) (i : Nat) (pa pb : ByteArray) (a : Act) (W : World) : Prop where
  df : a.defers = []
  sl : PlayS c a.tmps
  s9 : a.tmps.getD 9 undef = .int .i64 i
  s11 : a.tmps.getD 11 undef = .string pa
  s12 : a.tmps.getD 12 undef = .string pb
  ex : ∃ (k : Nat) (S : Fs), k ≤ i + 1 ∧ Both c.w W c.fb c.mb c.qb S k
/-- What stands at the switch. -/
structure PlayI (c : PlayC) (i : Nat) (x : Int) (pa pb : ByteArray) (X : Option Addr) (m cx : Nat) (l2 : List Int) (Ag : Option Addr) (kg cg base : Nat) (gs : List (ByteArray × Int)) (t : Array Value) (k : Nat) (S : Fs) (W : World) : Prop where
  sl : PlayS c t
  s9 : t.getD 9 undef = .int .i64 i
  s10 : t.getD 10 undef = .int .i64 x
  s11 : t.getD 11 undef = .string pa
  s12 : t.getD 12 undef = .string pb
  s13 : t.getD 13 undef = .slice X m cx
  s14 : t.getD 14 undef = .slice Ag kg cg
  ha : pa ∈ nm12
  hb : pb ∈ nm12
  za : pa.size ≤ 1000
  zb : pb.size ≤ 1000
  hi : i ≤ 119
  hk : k ≤ i
  both : Both c.w W c.fb c.mb c.qb S k
  bs : Bs W X m l2
  m3 : m ≤ 300
  mc : m ≤ cx
  old : ∀ ad, X = some ad → 0 < m → ad.block < c.w.heap.size
  gr : GR W base Ag kg cg gs
theorem old_bs {w W W1 : World} {fb mb k m : Nat} {S : Fs} {X : Option Addr} {l : List Int} (h : FsH w W fb mb S k) (hb : Bs W X m l) (ho : Only [fb, mb] W W1) (old : ∀ ad, X = some ad → 0 < m → ad.block < w.heap.size) : Bs W1 X m l :=
  hb.only ho fun ad hA h0 hm => by
    have h1 := old ad hA h0; have h2 := h.hf; have h3 := h.hm
    simp only [List.mem_cons, List.not_mem_nil, or_false] at hm
    rcases hm with e | e <;> omega
end Go.Proofs.Ytkbgedaogfcdnaa
