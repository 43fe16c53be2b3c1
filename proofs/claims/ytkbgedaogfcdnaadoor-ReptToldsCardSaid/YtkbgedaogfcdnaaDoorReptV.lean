/- The package variables as the rows list them. -/
import Derived.Test.YtkbgedaogfcdnaaDoorRows
import Derived.Test.YtkbgedaogfcdnaaDoorReptE
import Derived.Stop.LaidErr
import Derived.LaidLaws
namespace Go.Proofs.YtkbgedaogfcdnaaDoor
set_option linter.unusedSimpArgs false
set_option linter.unusedVariables false
open Go.RowKit Go.ChangeShapes
def laidL : List (String × DataW Unit) := [("math/bits.deBruijn32tab", Rows.laid_math_bits_deBruijn32tab), ("math/bits.deBruijn64tab", Rows.laid_math_bits_deBruijn64tab), ("internal/strconv.uint64pow10", Rows.laid_internal_strconv_uint64pow10), ("unicode/utf8.acceptRanges", Rows.laid_unicode_utf8_acceptRanges), ("strconv.ErrRange", Rows.laid_strconv_ErrRange), ("strconv.ErrSyntax", Rows.laid_strconv_ErrSyntax), ("unicode/utf8.first", Rows.laid_unicode_utf8_first)]
theorem laid_met {W : World} (h : laidMetH Tryd.prog laidL W) : laidMet Tryd.prog laidL W := h
theorem tab_eq : (Rows.laid_internal_strconv_uint64pow10 : DataW Unit) = Lib.tabData .u64 Lib.pow10Tab := by rfl
theorem star : "*" ++ "errors.errorString" = "*errors.errorString" := by decide
theorem typeRow (u : TypeId) (h : Tryd.prog.typeName? 3 u = some "*errors.errorString") : u = 125 :=
  typeName_ptr_named (nm := "errors.errorString") (by rw [star]; kernel_rfl) (by kernel_rfl) (by decide) u (by rw [star]; exact h)
theorem env_of {W : World} (h0 : laidMetH Tryd.prog laidL W) : Env W := by
  have h := laid_met h0
  have h3 := h.tail.tail
  rw [tab_eq] at h3
  have ht : Lib.TabIs Tryd.prog W "internal/strconv.uint64pow10" .u64 Lib.pow10Tab := Lib.tabIs_of_head (t := 108) (e := 68) (n := 20) gTab (by kernel_rfl) (by kernel_rfl) (by kernel_rfl) (by kernel_rfl) (by kernel_rfl) h3
  obtain ⟨a1, s1, hv1, hc1, _⟩ := laid_sentinel (ti := 74) (tp := 125) (te := 127) (ts := 9) h.tail.tail.tail.tail gRng (by kernel_rfl) Tryd.underlying74 typeRow Tryd.underlying125 Tryd.underlying127 rfl rfl Tryd.underlying9 (by kernel_rfl) (by kernel_rfl)
  obtain ⟨a2, s2, hv2, hc2, _⟩ := laid_sentinel (ti := 74) (tp := 125) (te := 127) (ts := 9) h.tail.tail.tail.tail.tail gSyn (by kernel_rfl) Tryd.underlying74 typeRow Tryd.underlying125 Tryd.underlying127 rfl rfl Tryd.underlying9 (by kernel_rfl) (by kernel_rfl)
  have hz : 3 < W.heap.size := World.block_lt_of_cell? _ _ (World.var?_cell gRng hv1 0)
  exact ⟨ht, ⟨_, _, hv2⟩, ⟨_, _, hv1⟩, by omega⟩
end Go.Proofs.YtkbgedaogfcdnaaDoor
