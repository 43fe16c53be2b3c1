/- SimfPlays: rows of bytes that came in, opened. -/
import Derived.Test.YtkbgedaogfcdnaaPlayA
import Derived.WalkKit
import Derived.ProofKit
import Derived.SizedLaws
namespace Go.Proofs.Ytkbgedaogfcdnaa
open Go.ChangeShapes Go.WideShapes Go.ChangeAt Go.RowKit
set_option linter.unusedVariables false
theorem rows_in {H : Type} {enc : TypeId × Value → H} {P : Program} {W : World} {base : Nat} {held : Bool} {t e q : TypeId} {a : Option Addr} {len cap : Nat} {d : DataW H} {ps : List MemPlace} (ht : P.underlying t = some (.slice e)) (he : P.underlying e = some (.slice q)) (hq : P.underlying q = some (.int .u8)) (ce : P.cellsOf e = 1) (cq : P.cellsOf q = 1)
    (h : DataW.Trod enc P W base (fun _ => true) held t (.slice a len cap) d ps) : RowsIn W a len := by
  obtain ⟨fuel, hf⟩ := h
  rcases Go.Deep.open_int_rows ht he hq ce cq hf with ⟨hcs, _⟩ | ⟨ad, n, c, A, L, C, Z, hcs, _, hl, hm, _, hx⟩
  · simp [Value.cells] at hcs
    obtain ⟨rfl, rfl, rfl⟩ := hcs
    exact ⟨fun j hj => absurd hj (by omega), Nat.zero_le _⟩
  · simp [Value.cells] at hcs
    obtain ⟨rfl, rfl, rfl⟩ := hcs
    refine ⟨fun j hj => ?_, Nat.le_trans hl hm⟩
    obtain ⟨h1, h2, h3, h4, h5, h6, h7⟩ := hx j (by omega)
    refine ⟨ad, A j, L j, C j, rfl, h1, h2, (Z j).take (L j), fun h300 => ⟨⟨by rw [ints_len, List.length_take]; omega, fun hn => ?_⟩, fun y hy => wf_u8 (h5 y (List.mem_of_mem_take hy)), by omega⟩⟩
    cases hA : A j with
    | none => have := h6 hA; omega
    | some x =>
      obtain ⟨_, hc⟩ := h7 x hA
      refine ⟨x, rfl, ?_, fun i u hu => ?_⟩
      · have h0 := hc 0 (by omega)
        have := World.block_lt_of_cell? W (x.add 0) h0
        rwa [addr_block] at this
      · have hj2 : i < L j := by
          rcases Nat.lt_or_ge i (L j) with h | h
          · exact h
          · rw [List.getElem?_eq_none (by rw [ints_len, List.length_take]; omega)] at hu; cases hu
        rw [ints_get .u8 ((Z j).take (L j)) (by rw [List.length_take]; omega)] at hu
        injection hu with hu
        rw [← hu, hc i (by omega)]
        simp [show i < (Z j).length by omega]
end Go.Proofs.Ytkbgedaogfcdnaa
