/- From what the rows list of the package-level variables, and the world's shape, to the premise of the walks that reach strconv. -/
import Derived.Test.YtmmmmalicndkeaaDoorRows
import Derived.Test.YtmmmmalicndkeaaDoorGlobN
import Derived.Lib.LaidTab
import Derived.LaidMore
import Derived.Stop.LaidErr
import Derived.KernelRfl
namespace Go.Proofs.YtmmmmalicndkeaaDoor.X
open Go.RowKit
set_option linter.unusedVariables false
set_option maxRecDepth 100000

theorem laid_pow : Rows.laid_internal_strconv_uint64pow10 (H := Unit) = Lib.tabData .u64 Lib.pow10Tab := by kernel_rfl
theorem gPow : Tryd.prog.globalNamed "internal/strconv.uint64pow10" = some 5 := by kernel_rfl
theorem tyPow : (Tryd.prog.globals[5]?).map (·.type) = some 145 := by kernel_rfl
theorem glob_pow {rest : List (String × DataW Unit)} {W : World} (h : laidMet Tryd.prog (("internal/strconv.uint64pow10", Rows.laid_internal_strconv_uint64pow10) :: rest) W) : Lib.TabIs Tryd.prog W "internal/strconv.uint64pow10" .u64 Lib.pow10Tab := by
  rw [laid_pow] at h
  exact Lib.tabIs_of_head gPow tyPow Tryd.underlying145 Tryd.underlying73 (by kernel_rfl) (by kernel_rfl) h
theorem gER : Tryd.prog.globalNamed "strconv.ErrRange" = some 4 := by kernel_rfl
theorem gES : Tryd.prog.globalNamed "strconv.ErrSyntax" = some 3 := by kernel_rfl
theorem tyER : (Tryd.prog.globals[4]?).map (·.type) = some 84 := by kernel_rfl
theorem tyES : (Tryd.prog.globals[3]?).map (·.type) = some 84 := by kernel_rfl
theorem starES : "*" ++ "errors.errorString" = "*errors.errorString" := by decide
theorem rowES (u : TypeId) (h : Tryd.prog.typeName? 3 u = some "*errors.errorString") : u = 149 :=
  typeName_ptr_named (nm := "errors.errorString") (by rw [starES]; kernel_rfl) (by kernel_rfl) (by decide) u (by rw [starES]; exact h)
theorem cellsES : Tryd.prog.cellsOf 151 = 1 := by kernel_rfl
theorem cellsStr : Tryd.prog.cellsOf 9 = 1 := by kernel_rfl
theorem glob3_of {W : World} (h : laidMetH Tryd.prog [("math/bits.deBruijn32tab", Rows.laid_math_bits_deBruijn32tab), ("math/bits.deBruijn64tab", Rows.laid_math_bits_deBruijn64tab), ("internal/strconv.uint64pow10", Rows.laid_internal_strconv_uint64pow10), ("unicode/utf8.acceptRanges", Rows.laid_unicode_utf8_acceptRanges), ("strconv.ErrRange", Rows.laid_strconv_ErrRange), ("strconv.ErrSyntax", Rows.laid_strconv_ErrSyntax), ("unicode/utf8.first", Rows.laid_unicode_utf8_first)] W) (hsh : W.ShapedOpen Tryd.prog) : Glob 3 W := by
  rw [MakeChecks.laidMetH_plain _ _ _ (by kernel_rfl)] at h
  have h3 := h.tail.tail.tail.tail
  obtain ⟨a1, s1, hv1, -, -, -⟩ := laid_sentinel h3 gER tyER Tryd.underlying84 rowES Tryd.underlying149 Tryd.underlying151 rfl rfl Tryd.underlying9 cellsES cellsStr
  obtain ⟨a0, s0, hv0, -, -, -⟩ := laid_sentinel h3.tail gES tyES Tryd.underlying84 rowES Tryd.underlying149 Tryd.underlying151 rfl rfl Tryd.underlying9 cellsES cellsStr
  have c0 := World.var?_cell gES hv0 0
  have c1 := World.var?_cell gER hv1 0
  exact ⟨(glob1_of_shape hsh).1, fun _ => glob_pow (laidMet.tail (laidMet.tail h)), fun _ => ⟨⟨149, .pointer (some a0), by simpa using c0⟩, ⟨149, .pointer (some a1), by simpa using c1⟩⟩⟩
end Go.Proofs.YtmmmmalicndkeaaDoor.X
