/- What Octal, Wide and Field answer is read back; what the statements of layer 16 hold fixed ('awake'). -/
import Derived.Test.YtbaonnlpphpakaaDoorRead
import Derived.Test.YtbaonnlpphpakaaDoorExt
import Derived.Test.YtbaonnlpphpakaaDoorX3
namespace Go.Proofs.YtbaonnlpphpakaaDoor.X
open Go.RowKit Go.Proofs.YtbaonnlpphpakaaDoorW.PrintWords Go.Proofs.YtbaonnlpphpakaaDoorW.PrintLast Go.Proofs.YtbaonnlpphpakaaDoorW.PrintMore
set_option linter.unusedVariables false
set_option linter.unusedSimpArgs false

theorem octOf_octL : ∀ (m n : Nat) (v : Int) (t : List Int), 0 ≤ v → n < 8 ^ m → v * ((8 ^ m : Nat) : Int) + (n : Int) ≤ 9223372036854775807 → octOf v (octL m n ++ t) = octOf (v * ((8 ^ m : Nat) : Int) + (n : Int)) t
  | 0, n, v, t, hv, hn, hb => by
    have : n = 0 := by simpa using hn
    subst this
    simp [octL]
  | m + 1, n, v, t, hv, hn, hb => by
    have hd : n % 8 < 8 := Nat.mod_lt _ (by decide)
    have hdm := Nat.div_add_mod n 8
    have e8 : ((8 ^ (m + 1) : Nat) : Int) = ((8 ^ m : Nat) : Int) * 8 := by rw [Nat.pow_succ, Int.natCast_mul]; rfl
    have hlt : n / 8 < 8 ^ m := by rw [Nat.pow_succ] at hn; omega
    rw [e8] at hb ⊢
    have hmul : v * (((8 ^ m : Nat) : Int) * 8) = v * ((8 ^ m : Nat) : Int) * 8 := by rw [Int.mul_assoc]
    rw [hmul] at hb ⊢
    have hp : 0 ≤ v * ((8 ^ m : Nat) : Int) := Int.mul_nonneg hv (by omega)
    generalize hq : v * ((8 ^ m : Nat) : Int) = q at hb hp ⊢
    simp only [octL, List.append_assoc, List.singleton_append]
    rw [octOf_octL m (n / 8) v _ hv hlt (by rw [hq]; omega), hq]
    conv => lhs; unfold octOf
    rw [if_pos (by omega), if_neg (by omega)]
    congr 1
    omega
theorem complOf_wideL : ∀ (m : Nat) (n : Int) (t : List Int), -9223372036854775808 ≤ n → n ≤ 9223372036854775807 → complOf (n / 256 ^ m) (wideL m n ++ t) = complOf n t
  | 0, n, t, h0, h1 => by simp [wideL]
  | m + 1, n, t, h0, h1 => by
    simp only [wideL, List.append_assoc, List.singleton_append]
    rw [← ediv_256_pow, complOf_wideL m (n / 256) _ (by omega) (by omega)]
    conv => lhs; unfold complOf
    rw [if_neg (by omega), if_neg (by omega)]
    congr 1
    omega
theorem octL_digit : ∀ (m n : Nat), ∀ x ∈ octL m n, 48 ≤ x ∧ x < 56
  | 0, n, x, h => by simp [octL] at h
  | m + 1, n, x, h => by
    simp only [octL, List.mem_append, List.mem_singleton] at h
    rcases h with h | h
    · exact octL_digit m _ x h
    · omega
theorem wideL_byte : ∀ (m : Nat) (n : Int), ∀ x ∈ wideL m n, 0 ≤ x ∧ x < 256
  | 0, n, x, h => by simp [wideL] at h
  | m + 1, n, x, h => by
    simp only [wideL, List.mem_append, List.mem_singleton] at h
    rcases h with h | h
    · exact wideL_byte m _ x h
    · omega
/-- Digits, and noughts behind them. -/
theorem readOf_digits (m n : Nat) (hm : 1 ≤ m) (t : List Int) (hm2 : m + t.length ≤ 12) (hn : n < 8 ^ m) (hb : n ≤ 9223372036854775807) (htb : blank t = true) (ht : ∀ c ∈ t, c < 48) : readOf (octL m n ++ t) = ((n : Int), true) := by
  have ho := octOf_octL m n 0 t (by decide) hn (by simp; omega)
  have hstop : octOf (0 * ((8 ^ m : Nat) : Int) + (n : Int)) t = some ((n : Int), t) := by
    rw [Int.zero_mul, Int.zero_add]
    cases t with
    | nil => rfl
    | cons c r =>
      unfold octOf
      have := ht c (by simp)
      rw [if_neg (by omega)]
  rw [hstop] at ho
  have hl := octL_len m n
  have hd := octL_digit m n
  generalize octL m n = l at ho hl hd
  cases l with
  | nil => simp at hl; omega
  | cons c r =>
    have hc := hd c (by simp)
    simp only [List.cons_append, readOf]
    rw [if_neg (by simp at hl ⊢; omega), if_neg (by omega), if_neg (by omega)]
    rw [show (List.dropWhile (fun c => decide (c = 32)) (c :: (r ++ t))) = c :: r ++ t by rw [List.dropWhile_cons, if_neg (by simp; omega)]; rfl]
    unfold octRead
    rw [ho]
    simp [htb]
theorem isBytes_octal (n width : Int) : IsBytes (octalOf n width).1 := by
  unfold octalOf
  split
  · intro x h; cases h
  · split
    · intro x h
      simp only [List.mem_append, List.mem_singleton] at h
      rcases h with h | h
      · have := octL_digit _ _ x h; omega
      · omega
    · intro x h; cases h
theorem isBytes_wide (n width : Int) : IsBytes (wideOf n width).1 := by
  unfold wideOf wideOf1
  split
  · intro x h; cases h
  · split
    · intro x h
      simp only [List.append_nil, List.mem_cons] at h
      rcases h with h | h
      · omega
      · exact wideL_byte _ _ x h
    · split
      · intro x h
        simp only [List.append_nil, List.mem_cons] at h
        rcases h with h | h
        · omega
        · exact wideL_byte _ _ x h
      · intro x h; cases h
theorem octal_back (n width : Int) (h1 : n ≤ 9223372036854775807) (h : (octalOf n width).2 = true) : readOf (octalOf n width).1 = (n, true) ∧ ((octalOf n width).1.length : Int) = width := by
  unfold octalOf at h ⊢
  split at h
  · cases h
  rename_i hw
  split at h
  case isFalse => cases h
  rename_i h8
  rw [if_neg hw, if_pos h8]
  obtain ⟨m, rfl⟩ : ∃ m : Nat, width = m + 1 := ⟨width.toNat - 1, by omega⟩
  obtain ⟨a, rfl⟩ : ∃ a : Nat, n = a := ⟨n.toNat, by omega⟩
  have e : ((m : Int) + 1).toNat - 1 = m := by omega
  rw [e] at h8 ⊢
  rw [Int.toNat_natCast] at h8 ⊢
  have hlt : a < 8 ^ m := (Nat.div_eq_zero_iff_lt (Nat.pow_pos (by decide))).1 h8
  exact ⟨readOf_digits m a (by omega) [0] (by simp; omega) hlt (by omega) rfl (by simp), by simp [octL_len]⟩
theorem wide_back (n width : Int) (h0 : -9223372036854775808 ≤ n) (h1 : n ≤ 9223372036854775807) (h : (wideOf n width).2 = true) : readOf (wideOf n width).1 = (n, true) := by
  unfold wideOf wideOf1 at h ⊢
  split at h
  · cases h
  rename_i hw
  rw [if_neg hw]
  obtain ⟨m, rfl⟩ : ∃ m : Nat, width = m + 1 := ⟨width.toNat - 1, by omega⟩
  have e : ((m : Int) + 1).toNat - 1 = m := by omega
  rw [e] at h ⊢
  have hl := wideL_len m n
  split at h
  · rename_i hz
    rw [if_pos hz]
    simp only [readOf]
    rw [if_neg (by rw [List.length_append, hl]; simp; omega), if_pos trivial]
    have := complOf_wideL m n [] h0 h1
    rw [hz.1] at this
    rw [this]
    rfl
  · rename_i hz
    split at h
    · rename_i hz2
      rw [if_neg hz, if_pos hz2]
      simp only [readOf]
      rw [if_neg (by rw [List.length_append, hl]; simp; omega), if_neg (by decide), if_pos trivial]
      have := complOf_wideL m n [] h0 h1
      rw [hz2.1] at this
      rw [this]
      rfl
    · cases h
theorem isBytes_field (n width : Int) (wide : Bool) : IsBytes (fieldOf n width wide).1 := by
  unfold fieldOf
  split
  · exact isBytes_octal n width
  · split
    · exact isBytes_wide n width
    · exact isBytes_octal n width
theorem field_back (n width : Int) (wide : Bool) (h0 : -9223372036854775808 ≤ n) (h1 : n ≤ 9223372036854775807) (h : (fieldOf n width wide).2 = true) : readOf (fieldOf n width wide).1 = (n, true) := by
  unfold fieldOf at h ⊢
  split at h
  · rename_i ho
    rw [if_pos ho]
    exact (octal_back n width h1 ho).1
  · rename_i ho
    rw [if_neg ho]
    split at h
    · rename_i hw
      rw [if_pos hw]
      exact wide_back n width h0 h1 h
    · exact absurd h ho
theorem octal_len (n width : Int) : (octalOf n width).1.length ≤ 140737488355328 := by
  unfold octalOf
  split
  · simp
  · split
    · simp only [List.length_append, octL_len, List.length_singleton]; omega
    · simp
theorem wide_len (n width : Int) : (wideOf n width).1.length ≤ 140737488355328 := by
  unfold wideOf wideOf1
  split
  · simp
  · split
    · simp only [List.append_nil, List.length_cons, wideL_len]; omega
    · split
      · simp only [List.append_nil, List.length_cons, wideL_len]; omega
      · simp
theorem field_len (n width : Int) (wide : Bool) : (fieldOf n width wide).1.length ≤ 140737488355328 := by
  unfold fieldOf
  split
  · exact octal_len n width
  · split
    · exact wide_len n width
    · exact octal_len n width

theorem i64_wf {a : Int} (h : (Lit.int .i64 a).wf = true) : -9223372036854775808 ≤ a ∧ a ≤ 9223372036854775807 := by
  have h2 : IntKind.i64.min ≤ a ∧ a ≤ IntKind.i64.max := by simpa [Lit.wf] using h
  exact h2
theorem u8_wf {a : Int} (h : (Lit.int .u8 a).wf = true) : 0 ≤ a ∧ a ≤ 255 := by
  have h2 : IntKind.u8.min ≤ a ∧ a ≤ IntKind.u8.max := by simpa [Lit.wf] using h
  exact h2
theorem conv_L_some (l : List Int) (h : l.length ≤ 140737488355328) : conv_L.f l = some l := by unfold conv_L.f; rw [if_pos h]
theorem digits_m5 : num_Digits.f (-5) = some (⟨#[45, 53]⟩ : ByteArray) := by
  unfold num_Digits.f Lib.itoa
  rw [if_pos (by decide), if_pos (by decide), if_pos (by decide), show (-5 : Int).natAbs = 5 by rfl, Lib.decDigits_one (by decide)]
  rfl
theorem awake16 : Ev (fun k => portmanteaulaw16_awake.f k) true := by
  have h1 := octal_ev 8 4 (by decide)
  have h2 := wide_ev (-1) 3 (by decide) (by decide)
  have h3 := read_ev [32, 49, 48, 32] (by intro x h; simp at h; omega) (by decide)
  rw [show octalOf 8 4 = ([48, 49, 48, 0], true) by decide +kernel] at h1
  rw [show wideOf (-1) 3 = ([255, 255, 255], true) by decide +kernel] at h2
  rw [show readOf [32, 49, 48, 32] = (8, true) by decide +kernel] at h3
  unfold portmanteaulaw16_awake.f
  refine Ev.bind h1 (Ev.bind h2 ?_)
  rw [conv_L_some _ (by decide)]
  simp only [Option.bind_some]
  refine Ev.bind h3 ?_
  simp only [ba_toList, strOfNums_data, digits_m5]
  exact Ev.now _
end Go.Proofs.YtbaonnlpphpakaaDoor.X
