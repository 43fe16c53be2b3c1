/- The walks of code.Reader. -/
import Derived.Test.YtkbgedaogfcdnaaCode
namespace Go.Proofs.Ytkbgedaogfcdnaa
set_option linter.unusedSimpArgs false
set_option linter.unusedVariables false
open Go.RowKit
open Crc (Bytes)
open Cod (numOf numTo)

/-- The slice lies in a block of bytes. -/
def U8 (w : World) (A : Option Addr) (n : Nat) : Prop := ∀ ad, A = some ad → 0 < n → ∃ cs fr, w.heap[ad.block]? = some (.cells cs 5 fr)
theorem U8.ne {w : World} {A : Option Addr} {n g : Nat} {t : TypeId} {cs : List Value} (h : U8 w A n) (hb : Blk w g t cs) (ht : t ≠ 5) : ∀ ad, A = some ad → 0 < n → ad.block ≠ g := by
  rintro ad hA h0 rfl
  obtain ⟨cs', fr, he⟩ := h ad hA h0
  rw [hb.at_] at he
  injection he with he
  injection he with _ he
  exact ht he
theorem U8.keep {w w' : World} {A : Option Addr} {n : Nat} (h : U8 w A n) (hk : ∀ ad, A = some ad → 0 < n → w'.heap[ad.block]? = w.heap[ad.block]?) : U8 w' A n := fun ad hA h0 => by
  obtain ⟨cs, fr, he⟩ := h ad hA h0
  exact ⟨cs, fr, (hk ad hA h0).trans he⟩
theorem U8.below {w w' : World} {A : Option Addr} {n : Nat} (h : U8 w A n) (hb : Below w.heap.size w w') : U8 w' A n := h.keep fun ad hA h0 => by
  obtain ⟨cs, fr, he⟩ := h ad hA h0
  refine hb.block _ ?_
  rcases Nat.lt_or_ge ad.block w.heap.size with hlt | hge
  · exact hlt
  · rw [Array.getElem?_eq_none hge] at he; cases he
theorem U8.lt {w : World} {A : Option Addr} {n : Nat} (h : U8 w A n) : ∀ ad, A = some ad → 0 < n → ad.block < w.heap.size := fun ad hA h0 => by
  obtain ⟨cs, fr, he⟩ := h ad hA h0
  rcases Nat.lt_or_ge ad.block w.heap.size with hlt | hge
  · exact hlt
  · rw [Array.getElem?_eq_none hge] at he; cases he
theorem U8.of_own {w : World} {base n c : Nat} {A : Option Addr} {xs : List Value} (h : Own w base 5 1 A n c xs) : U8 w A n := fun ad hA h0 => by
  rcases h.row.2 with ⟨_, hz⟩ | ⟨g, cap, cur, hv, _, hh, _⟩
  · omega
  · have : A = some ⟨g, 0, none⟩ := by injection hv
    rw [hA] at this; cases this
    exact ⟨cur, (0, 0), hh⟩
section
variable {w w' : World} {g : Nat} {l : List Int} {bad : Bool}
end

def rnum (s : List Int × Bool) (top : Int) : Int × (List Int × Bool) := if s.2 = true ∨ s.1.length < 6 ∨ top < numOf s.1 then (0, ([], true)) else (numOf s.1, (s.1.drop 6, false))
def rbytes (s : List Int × Bool) (top : Int) : List Int × (List Int × Bool) :=
  if (((rnum s top).2.1.length : Nat) : Int) < (rnum s top).1 then ([], ([], true)) else ((rnum s top).2.1.take (rnum s top).1.toNat, ((rnum s top).2.1.drop (rnum s top).1.toNat, (rnum s top).2.2))

theorem u8s : (Try.prog.info? 5).map (·.size) = some 1 := by kernel_rfl
theorem rnum_bad {l : List Int} {bad : Bool} {top : Int} (h : bad = true ∨ l.length < 6 ∨ top < numOf l) : rnum (l, bad) top = (0, ([], true)) := by
  unfold rnum; rw [if_pos h]
theorem rnum_good {l : List Int} {top : Int} (h6 : 6 ≤ l.length) (h : numOf l ≤ top) : rnum (l, false) top = (numOf l, (l.drop 6, false)) := by
  unfold rnum; rw [if_neg (by simp; omega)]
theorem numTo_six {l : List Int} : numTo l 6 = numOf l := rfl

theorem rnum_lo (l : List Int) (bad : Bool) (top : Int) (hb : Bytes l) : 0 ≤ (rnum (l, bad) top).1 ∧ (rnum (l, bad) top).1 ≤ 1099511627776 * 1024 := by
  unfold rnum
  split
  · simp
  · rename_i h
    have h6 : 6 ≤ l.length := by simp at h; omega
    have := Cod.numTo_bd hb 6 h6
    rw [numTo_six] at this
    simp only
    omega

theorem rnum_le (s : List Int × Bool) (top : Int) : (rnum s top).2.1.length ≤ s.1.length := by
  unfold rnum
  split
  · simp
  · simp
end Go.Proofs.Ytkbgedaogfcdnaa
