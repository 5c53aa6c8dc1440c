/- Numbers' texts: what is spelt is parsed; num.Number answers the number that a text spells. -/
import Derived.Test.YtmmmmalicndkeaaDoorExt2
import Derived.Test.YtmmmmalicndkeaaDoorName
namespace Go.Proofs.YtmmmmalicndkeaaDoor.X
open Go.RowKit Go.Proofs.YtmmmmalicndkeaaDoorW.PrintWords Go.Proofs.YtmmmmalicndkeaaDoorW.PrintLast Go.Proofs.YtmmmmalicndkeaaDoorW.PrintMore
set_option linter.unusedVariables false
set_option linter.unusedSimpArgs false

theorem ba_ext {a b : ByteArray} (h : a.data.toList = b.data.toList) : a = b := by
  cases a; cases b
  simp only [ByteArray.mk.injEq]
  exact Array.ext' h
theorem ba_append (a b : ByteArray) : (a ++ b).data.toList = a.data.toList ++ b.data.toList := by
  cases a; cases b
  simp [ByteArray.data_append]
/-! ### what is spelt is parsed -/
theorem u8_dig (d : Nat) (h : d < 10) : (UInt8.ofNat (48 + d)).toNat = 48 + d := by
  rw [UInt8.toNat_ofNat']; omega
theorem parse_dec (t : List UInt8) : ∀ u : Nat, u ≤ 9223372036854775808 → Lib.parseUint10 0 (Lib.decDigits u ++ t) = Lib.parseUint10 u t := by
  intro u
  induction u using Nat.strongRecOn generalizing t with
  | _ u ih =>
    intro hu
    rw [Lib.decDigits]
    by_cases h : u < 10
    · rw [dif_pos h]
      simp only [List.cons_append, List.nil_append, Lib.parseUint10]
      rw [u8_dig u h, if_pos (by omega), if_neg (by omega), if_neg (by omega)]
      congr 1
      omega
    · rw [dif_neg h, List.append_assoc, ih (u / 10) (by omega) _ (by omega)]
      simp only [List.cons_append, List.nil_append, Lib.parseUint10]
      rw [u8_dig (u % 10) (by omega), if_pos (by omega), if_neg (by omega), if_neg (by omega)]
      congr 1
      omega
theorem dec_ne (u : Nat) : Lib.decDigits u ≠ [] := by
  have a := Lib.decDigits_length u
  have b := Lib.nDigits_pos u
  intro h
  rw [h, List.length_nil] at a
  omega
theorem dec_digit : ∀ u : Nat, ∀ x ∈ Lib.decDigits u, 48 ≤ x.toNat ∧ x.toNat ≤ 57 := by
  intro u
  induction u using Nat.strongRecOn with
  | _ u ih =>
    intro x hx
    rw [Lib.decDigits] at hx
    by_cases h : u < 10
    · rw [dif_pos h, List.mem_singleton] at hx
      rw [hx, u8_dig u h]; omega
    · rw [dif_neg h, List.mem_append, List.mem_singleton] at hx
      rcases hx with hx | hx
      · exact ih (u / 10) (by omega) x hx
      · rw [hx, u8_dig (u % 10) (by omega)]; omega
theorem mag_dec (u : Nat) (h : u ≤ 9223372036854775808) : Lib.parseMag (Lib.decDigits u) = .ok u := by
  unfold Lib.parseMag
  rw [if_neg (dec_ne u)]
  have := parse_dec [] u h
  rw [List.append_nil] at this
  rw [this]
  rfl
theorem atoi_itoa (v : Int) (h0 : -9223372036854775808 ≤ v) (h1 : v ≤ 9223372036854775807) : Lib.atoiAll (Lib.itoa v) = .ok v := by
  unfold Lib.itoa
  by_cases hv : v < 0
  · rw [if_pos hv]
    have hm := mag_dec v.natAbs (by omega)
    unfold Lib.atoiAll
    have e3 : ¬ 9223372036854775808 < v.natAbs := by omega
    have e4 : -((v.natAbs : Nat) : Int) = v := by omega
    simp only [show (45 : UInt8).toNat = 45 by rfl, show (45 : Nat) = 43 ∨ (45 : Nat) = 45 from .inr rfl, if_true, hm, not_true, false_and, if_false, true_and, e3, e4, or_true]
  · rw [if_neg hv]
    have hm := mag_dec v.toNat (by omega)
    have hd := dec_digit v.toNat
    have hn := dec_ne v.toNat
    generalize Lib.decDigits v.toNat = l at hm hd hn
    cases l with
    | nil => exact absurd rfl hn
    | cons c r =>
      have hc := hd c (by simp)
      unfold Lib.atoiAll
      have e1 : ¬ (c.toNat = 43) := by omega
      have e2 : ¬ (c.toNat = 45) := by omega
      have e3 : ¬ 9223372036854775808 ≤ v.toNat := by omega
      have e4 : ((v.toNat : Nat) : Int) = v := by omega
      simp only [e1, e2, or_false, if_false, hm, not_false_eq_true, true_and, false_and, e3, e4]
theorem itoa_inj {v u : Int} (h0 : -9223372036854775808 ≤ v) (h1 : v ≤ 9223372036854775807) (h2 : -9223372036854775808 ≤ u) (h3 : u ≤ 9223372036854775807) (h : Lib.itoa v = Lib.itoa u) : v = u := by
  have := atoi_itoa v h0 h1
  rw [h, atoi_itoa u h2 h3] at this
  injection this with this
  exact this.symm
/-- The number that the text spells, if there is one. -/
def IsNum (l : List UInt8) (r : Int × Bool) : Prop := (∃ v : Int, -9223372036854775808 ≤ v ∧ v ≤ 9223372036854775807 ∧ Lib.itoa v = l ∧ r = (v, true)) ∨ ((∀ v : Int, -9223372036854775808 ≤ v → v ≤ 9223372036854775807 → Lib.itoa v ≠ l) ∧ r = (0, false))
theorem IsNum.one {l : List UInt8} {r s : Int × Bool} (h : IsNum l r) (g : IsNum l s) : r = s := by
  rcases h with ⟨v, a0, a1, a2, rfl⟩ | ⟨a, rfl⟩
  · rcases g with ⟨u, b0, b1, b2, rfl⟩ | ⟨b, rfl⟩
    · rw [itoa_inj a0 a1 b0 b1 (a2.trans b2.symm)]
    · exact absurd a2 (b v a0 a1)
  · rcases g with ⟨u, b0, b1, b2, rfl⟩ | ⟨b, rfl⟩
    · exact absurd b2 (a u b0 b1)
    · rfl
theorem number_is (l : List UInt8) : IsNum l (numberOf l) := by
  unfold numberOf
  by_cases hx : ∃ v : Int, -9223372036854775808 ≤ v ∧ v ≤ 9223372036854775807 ∧ Lib.itoa v = l
  · obtain ⟨v, h0, h1, rfl⟩ := hx
    rw [atoi_itoa v h0 h1]
    simp only [if_true]
    exact .inl ⟨v, h0, h1, rfl, rfl⟩
  · refine .inr ⟨fun v h0 h1 h2 => hx ⟨v, h0, h1, h2⟩, ?_⟩
    split
    · rename_i v hv
      obtain ⟨b0, b1⟩ := Lib.atoiAll_bounds hv
      rw [if_neg (fun h => hx ⟨v, b0, b1, h⟩)]
    · rfl

/-! ### Digits -/
theorem dec_piece (d : Nat) (h : d < 10) : (⟨#[48, 49, 50, 51, 52, 53, 54, 55, 56, 57]⟩ : ByteArray).extract d (d + 1) = ⟨#[UInt8.ofNat (48 + d)]⟩ := by
  have : ∀ d : Fin 10, (⟨#[48, 49, 50, 51, 52, 53, 54, 55, 56, 57]⟩ : ByteArray).extract d.val (d.val + 1) = ⟨#[UInt8.ofNat (48 + d.val)]⟩ := by decide +kernel
  exact this ⟨d, h⟩
theorem ba_len (l : List UInt8) : (⟨l.toArray⟩ : ByteArray).size = l.length := by simp [ByteArray.size]
theorem ba_size (a b : ByteArray) : (a ++ b).size = a.size + b.size := by simp
end Go.Proofs.YtmmmmalicndkeaaDoor.X
