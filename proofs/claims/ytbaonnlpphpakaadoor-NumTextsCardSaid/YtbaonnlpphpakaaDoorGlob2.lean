/- From what the rows list of strconv's two errors to the premise of the walks. -/
import Derived.Test.YtbaonnlpphpakaaDoorGlob
namespace Go.Proofs.YtbaonnlpphpakaaDoor.X
open Go.RowKit
set_option linter.unusedVariables false
set_option maxRecDepth 100000

theorem gER : Tryd.prog.globalNamed "strconv.ErrRange" = some 1 := by kernel_rfl
theorem gES : Tryd.prog.globalNamed "strconv.ErrSyntax" = some 0 := by kernel_rfl
theorem tyER : (Tryd.prog.globals[1]?).map (·.type) = some 54 := by kernel_rfl
theorem tyES : (Tryd.prog.globals[0]?).map (·.type) = some 54 := by kernel_rfl
theorem starES : "*" ++ "errors.errorString" = "*errors.errorString" := by decide
theorem rowES (u : TypeId) (h : Tryd.prog.typeName? 3 u = some "*errors.errorString") : u = 86 :=
  typeName_ptr_named (nm := "errors.errorString") (by rw [starES]; kernel_rfl) (by kernel_rfl) (by decide) u (by rw [starES]; exact h)
theorem cellsES : Tryd.prog.cellsOf 88 = 1 := by kernel_rfl
theorem cellsStr : Tryd.prog.cellsOf 9 = 1 := by kernel_rfl
theorem glob2 {W : World} (h : laidMetH Tryd.prog [("math/bits.deBruijn32tab", Rows.laid_math_bits_deBruijn32tab), ("math/bits.deBruijn64tab", Rows.laid_math_bits_deBruijn64tab), ("internal/strconv.uint64pow10", Rows.laid_internal_strconv_uint64pow10), ("strconv.ErrRange", Rows.laid_strconv_ErrRange), ("strconv.ErrSyntax", Rows.laid_strconv_ErrSyntax)] W) : Glob 2 W := by
  rw [MakeChecks.laidMetH_plain _ _ _ (by kernel_rfl)] at h
  have h3 := h.tail.tail.tail
  obtain ⟨a1, s1, hv1, -, -, -⟩ := laid_sentinel h3 gER tyER Tryd.underlying54 rowES Tryd.underlying86 Tryd.underlying88 rfl rfl Tryd.underlying9 cellsES cellsStr
  obtain ⟨a0, s0, hv0, -, -, -⟩ := laid_sentinel h3.tail gES tyES Tryd.underlying54 rowES Tryd.underlying86 Tryd.underlying88 rfl rfl Tryd.underlying9 cellsES cellsStr
  have c0 := World.var?_cell gES hv0 0
  have c1 := World.var?_cell gER hv1 0
  exact ⟨glob_pow (laidMet.tail (laidMet.tail h)), fun _ => ⟨⟨86, .pointer (some a0), by simpa using c0⟩, ⟨86, .pointer (some a1), by simpa using c1⟩⟩⟩
end Go.Proofs.YtbaonnlpphpakaaDoor.X
