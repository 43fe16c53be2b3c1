/- SimfPlays: the switch and the tail. -/
import Derived.Test.YtkbgedaogfcdnaaPlayD
import Derived.Test.YtkbgedaogfcdnaaPlayF
namespace Go.Proofs.Ytkbgedaogfcdnaa
set_option linter.unusedSimpArgs false
set_option linter.unusedVariables false
open Go.RowKit
open Crc (Bytes)
section
variable {w : World} {fb mb qb : Nat} {A : Option Addr} {n cp : Nat} {RA : Option Addr} {rn rc i k : Nat} {x : Int} {pa pb : ByteArray} {X : Option Addr} {m cx : Nat} {l2 : List Int} {Ag : Option Addr} {kg cg base : Nat} {gs : List (ByteArray × Int)} {t : Array Value} {W : World} {S : Fs} {Q : Exit → Act → World → Prop}
theorem play_sw (H : PlayI ⟨w, fb, mb, qb, A, n, cp, RA, rn, rc⟩ i x pa pb X m cx l2 Ag kg cg base gs t k S W)
    (hQ : ∀ a' W', PlayM ⟨w, fb, mb, qb, A, n, cp, RA, rn, rc⟩ i pa pb a' W' → Q .normal a' W') : Code.wp Try.prog playSw Q ⟨t, []⟩ W := by
  obtain ⟨p, hp, hp1⟩ := maskN 4 (by decide) x 15 (by decide)
  have h16 : p = 0 ∨ p = 1 ∨ p = 2 ∨ p = 3 ∨ p = 4 ∨ p = 5 ∨ p = 6 ∨ p = 7 ∨ p = 8 ∨ p = 9 ∨ p = 10 ∨ p = 11 ∨ p = 12 ∨ p = 13 ∨ p = 14 ∨ p = 15 := by
    have : p < 16 := hp1
    omega
  rcases h16 with rfl | rfl | rfl | rfl | rfl | rfl | rfl | rfl | rfl | rfl | rfl | rfl | rfl | rfl | rfl | rfl
  · exact play_make H (.inl hp) hQ
  · exact play_make H (.inr hp) hQ
  · exact play_put H (.inl hp) hQ
  · exact play_put H (.inr (.inl hp)) hQ
  · exact play_put H (.inr (.inr hp)) hQ
  · exact play_append H (.inl hp) hQ
  · exact play_append H (.inr (.inl hp)) hQ
  · exact play_append H (.inr (.inr hp)) hQ
  · exact play_move H (.inl hp) hQ
  · exact play_move H (.inr (.inl hp)) hQ
  · exact play_move H (.inr (.inr hp)) hQ
  · exact play_drop H hp hQ
  · exact play_room H hp hQ
  · exact play_cut H hp hQ
  · exact play_none H (.inl hp) hQ
  · exact play_none H (.inr hp) hQ
theorem rest_eq : playRest = .seq playSw playTail := by kernel_rfl
theorem play_rest (H : PlayI ⟨w, fb, mb, qb, A, n, cp, RA, rn, rc⟩ i x pa pb X m cx l2 Ag kg cg base gs t k S W)
    (hQ : ∀ a' W', PlayE ⟨w, fb, mb, qb, A, n, cp, RA, rn, rc⟩ i a' W' → Q .normal a' W') : Code.wp Try.prog playRest Q ⟨t, []⟩ W := by
  rw [rest_eq]
  refine wp_seq (play_sw H ?_)
  rintro ⟨t', df⟩ W' ⟨h1, h2, h3, h4, h5, k2, S2, h6, h7⟩
  simp only at h1 h2 h3 h4 h5
  subst h1
  exact play_tail h2 h3 h4 h5 H.ha H.hb H.za H.zb h6 (by have := H.hi; omega) h7 hQ
end
end Go.Proofs.Ytkbgedaogfcdnaa
