/- Small plain facts on masks and rows. -/
import Derived.Test.YtmmmmalicndkeaaDoorName
namespace Go.Proofs.YtmmmmalicndkeaaDoor.X
open Go.RowKit Go.Proofs.YtmmmmalicndkeaaDoorW.PrintWords Go.Proofs.YtmmmmalicndkeaaDoorW.PrintLast Go.Proofs.YtmmmmalicndkeaaDoorW.PrintMore
set_option linter.unusedVariables false
set_option linter.unusedSimpArgs false

theorem and_lo (x : Int) (N j : Nat) (hN : N = 2 ^ j) (hj : j < 63) : bits .and .i64 x ((N : Int) - 1) = x % (N : Int) := by
  have hp : (2 : Nat) ^ j ≤ 2 ^ 62 := Nat.pow_le_pow_right (by decide) (by omega)
  have hpos : 0 < N := by rw [hN]; exact Nat.two_pow_pos j
  have hN2 : N ≤ 4611686018427387904 := by rw [hN]; exact hp
  have hdvd : N ∣ 18446744073709551616 := ⟨2 ^ (64 - j), by rw [hN, ← Nat.pow_add, show j + (64 - j) = 64 by omega]⟩
  have key : ((BitVec.ofInt IntKind.i64.bits x &&& BitVec.ofInt IntKind.i64.bits ((N : Int) - 1)).toNat : Int) = x % (N : Int) := by
    rw [BitVec.toNat_and]
    have e1 : (BitVec.ofInt IntKind.i64.bits ((N : Int) - 1)).toNat = 2 ^ j - 1 := by
      have : ((N : Int) - 1) = ((N - 1 : Nat) : Int) := by omega
      rw [this, BitVec.ofInt_natCast, BitVec.toNat_ofNat, ← hN]
      exact Nat.mod_eq_of_lt (show N - 1 < 18446744073709551616 by omega)
    rw [e1, Nat.and_two_pow_sub_one_eq_mod, BitVec.toNat_ofInt, ← hN]
    show ((((x % (18446744073709551616 : Int)).toNat % N : Nat)) : Int) = _
    rw [Int.natCast_emod, Int.toNat_of_nonneg (Int.emod_nonneg _ (by decide))]
    exact Int.emod_emod_of_dvd _ (by
      obtain ⟨c, hc⟩ := hdvd
      exact ⟨(c : Int), by rw [← Int.natCast_mul, ← hc]; rfl⟩)
  unfold bits
  simp only
  rw [key, IntKind.wrap_i64]
  have h1 := Int.emod_nonneg x (show (N : Int) ≠ 0 by omega)
  have h2 := Int.emod_lt_of_pos x (show (0 : Int) < N by omega)
  omega
theorem and7 (x : Int) : bits .and .i64 x 7 = x % 8 := and_lo x 8 3 rfl (by decide)
theorem set_at {α : Type} (l r : List α) (c v : α) (n : Nat) (h : l.length = n) : (l ++ c :: r).set n v = l ++ v :: r := by
  subst h
  rw [List.set_append_right _ _ (Nat.le_refl _)]
  simp
theorem zeros_cons (m i : Nat) (h : i < m) : List.replicate (m - i) (0 : Int) = 0 :: List.replicate (m - (i + 1)) 0 := by
  rw [show m - i = (m - (i + 1)) + 1 by omega, List.replicate_succ]
theorem and31 (x : Int) : bits .and .i64 x 31 = x % 32 := and_lo x 32 5 rfl (by decide)
theorem and255 (x : Int) : bits .and .i64 x 255 = x % 256 := and_lo x 256 8 rfl (by decide)
theorem and65535 (x : Int) : bits .and .i64 x 65535 = x % 65536 := and_lo x 65536 16 rfl (by decide)
theorem and30 (x : Int) : bits .and .i64 x 1073741823 = x % 1073741824 := and_lo x 1073741824 30 rfl (by decide)
theorem i64_wf {a : Int} (h : (Lit.int .i64 a).wf = true) : -9223372036854775808 ≤ a ∧ a ≤ 9223372036854775807 := by
  have h2 : IntKind.i64.min ≤ a ∧ a ≤ IntKind.i64.max := by simpa [Lit.wf] using h
  exact h2
theorem u8_wf {a : Int} (h : (Lit.int .u8 a).wf = true) : 0 ≤ a ∧ a ≤ 255 := by
  have h2 : IntKind.u8.min ≤ a ∧ a ≤ IntKind.u8.max := by simpa [Lit.wf] using h
  exact h2
end Go.Proofs.YtmmmmalicndkeaaDoor.X
