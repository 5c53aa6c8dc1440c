/- From what the rows list of the package-level variables to the premise of the walks. -/
import Derived.Test.YtbaonnlpphpakaaDoorRows
import Derived.Test.YtbaonnlpphpakaaDoorExt
import Derived.Lib.LaidTab
import Derived.LaidMore
import Derived.Stop.LaidErr
import Derived.KernelRfl
namespace Go.Proofs.YtbaonnlpphpakaaDoor.X
open Go.RowKit
set_option linter.unusedVariables false
set_option maxRecDepth 100000

theorem laid_pow : Rows.laid_internal_strconv_uint64pow10 (H := Unit) = Lib.tabData .u64 Lib.pow10Tab := by kernel_rfl
theorem gPow : Tryd.prog.globalNamed "internal/strconv.uint64pow10" = some 2 := by kernel_rfl
theorem tyPow : (Tryd.prog.globals[2]?).map (·.type) = some 78 := by kernel_rfl
theorem glob_pow {rest : List (String × DataW Unit)} {W : World} (h : laidMet Tryd.prog (("internal/strconv.uint64pow10", Rows.laid_internal_strconv_uint64pow10) :: rest) W) : Lib.TabIs Tryd.prog W "internal/strconv.uint64pow10" .u64 Lib.pow10Tab := by
  rw [laid_pow] at h
  exact Lib.tabIs_of_head gPow tyPow Tryd.underlying78 Tryd.underlying52 (by kernel_rfl) (by kernel_rfl) h
theorem glob1 {W : World} (h : laidMetH Tryd.prog [("math/bits.deBruijn32tab", Rows.laid_math_bits_deBruijn32tab), ("math/bits.deBruijn64tab", Rows.laid_math_bits_deBruijn64tab), ("internal/strconv.uint64pow10", Rows.laid_internal_strconv_uint64pow10)] W) : Glob 1 W := by
  rw [MakeChecks.laidMetH_plain _ _ _ (by kernel_rfl)] at h
  exact ⟨glob_pow (laidMet.tail (laidMet.tail h)), fun h2 => absurd h2 (by decide)⟩
end Go.Proofs.YtbaonnlpphpakaaDoor.X
