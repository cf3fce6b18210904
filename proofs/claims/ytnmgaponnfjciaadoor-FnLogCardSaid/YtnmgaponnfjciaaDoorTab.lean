/- The library's table of powers: what the rows say of it when the call begins. -/
import Derived.Test.YtnmgaponnfjciaaDoorLogStr
import Derived.MakeChecks
import Derived.Stop.LaidErr
namespace Go.Proofs.YtnmgaponnfjciaaDoor
open Go.RowKit
theorem tab_of_laid {W : World} (h : laidMetH Tryd.prog [("math/bits.deBruijn32tab", Rows.laid_math_bits_deBruijn32tab), ("math/bits.deBruijn64tab", Rows.laid_math_bits_deBruijn64tab), ("internal/strconv.uint64pow10", Rows.laid_internal_strconv_uint64pow10)] W) :
    IsV ETab W (.agg #[]) () [1] := by
  rw [MakeChecks.laidMetH_plain _ _ _ (by kernel_rfl)] at h
  have h3 := h.tail.tail
  have e : (Rows.laid_internal_strconv_uint64pow10 : DataW Unit) = Lib.tabData .u64 Lib.pow10Tab := by kernel_rfl
  rw [e] at h3
  have ht : Lib.TabIs Tryd.prog W "internal/strconv.uint64pow10" .u64 Lib.pow10Tab := Lib.tabIs_of_head (g := 1) (t := 113) (e := 73) (n := 20) (by kernel_rfl) (by kernel_rfl) Tryd.underlying113 Tryd.underlying73 (by kernel_rfl) (by kernel_rfl) h3
  refine ⟨[], rfl, rfl, ht, rfl, ?_⟩
  have hc := Lib.TabIs.cell ht (g := 1) (by kernel_rfl) 0 (by rw [Lib.pow10Tab_length]; omega)
  exact World.block_lt_of_cell? W ⟨1, 0, none⟩ hc
end Go.Proofs.YtnmgaponnfjciaaDoor
