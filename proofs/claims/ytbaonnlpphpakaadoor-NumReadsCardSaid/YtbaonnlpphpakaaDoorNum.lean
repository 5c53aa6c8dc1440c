/- The plain law of num's Octal, Wide, Field and Read, and of the document's own: what each printed function answers. -/
import Derived.Test.YtbaonnlpphpakaaDoorX0
import Derived.Test.YtbaonnlpphpakaaDoorX1
import Derived.Test.YtbaonnlpphpakaaDoorX3
import Derived.Test.YtbaonnlpphpakaaDoorX2
import Derived.Test.YtbaonnlpphpakaaDoorX8
namespace Go.Proofs.YtbaonnlpphpakaaDoor.X
open Go.RowKit Go.Proofs.YtbaonnlpphpakaaDoorW.PrintWords Go.Proofs.YtbaonnlpphpakaaDoorW.PrintLast Go.Proofs.YtbaonnlpphpakaaDoorW.PrintMore
set_option linter.unusedVariables false
set_option linter.unusedSimpArgs false

theorem w64 {x : Int} (h0 : -9223372036854775808 ≤ x) (h1 : x ≤ 9223372036854775807) : wrap64 x = x := by unfold wrap64; omega
theorem Ev.step1 {α : Type} {g : Nat → Option α} {r : α} (h : ∀ k, g (k + 1) = some r) : Ev g r := Ev.step h (Ev.now r)
theorem Ev.succ {α : Type} {g : Nat → Option α} {r : α} (h : Ev (fun k => g (k + 1)) r) : Ev g r := Ev.step (fun _ => rfl) h
theorem ev_eq {α : Type} {g : Nat → Option α} {r r' : α} (h : Ev g r) (e : r = r') : Ev g r' := e ▸ h
theorem and_lo (x : Int) (N j : Nat) (hN : N = 2 ^ j) (hj : j < 63) : bits .and .i64 x ((N : Int) - 1) = x % (N : Int) := by
  have hp : (2 : Nat) ^ j ≤ 2 ^ 62 := Nat.pow_le_pow_right (by decide) (by omega)
  have hpos : 0 < N := by rw [hN]; exact Nat.two_pow_pos j
  have hN2 : N ≤ 4611686018427387904 := by rw [hN]; exact hp
  have hdvd : N ∣ 18446744073709551616 := ⟨2 ^ (64 - j), by rw [hN, ← Nat.pow_add, show j + (64 - j) = 64 by omega]⟩
  have key : ((BitVec.ofInt IntKind.i64.bits x &&& BitVec.ofInt IntKind.i64.bits ((N : Int) - 1)).toNat : Int) = x % (N : Int) := by
    rw [BitVec.toNat_and]
    have e1 : (BitVec.ofInt IntKind.i64.bits ((N : Int) - 1)).toNat = 2 ^ j - 1 := by
      have : ((N : Int) - 1) = ((N - 1 : Nat) : Int) := by omega
      rw [this, BitVec.ofInt_natCast, BitVec.toNat_ofNat, ← hN]
      exact Nat.mod_eq_of_lt (show N - 1 < 18446744073709551616 by omega)
    rw [e1, Nat.and_two_pow_sub_one_eq_mod, BitVec.toNat_ofInt, ← hN]
    show ((((x % (18446744073709551616 : Int)).toNat % N : Nat)) : Int) = _
    rw [Int.natCast_emod, Int.toNat_of_nonneg (Int.emod_nonneg _ (by decide))]
    exact Int.emod_emod_of_dvd _ (by
      obtain ⟨c, hc⟩ := hdvd
      exact ⟨(c : Int), by rw [← Int.natCast_mul, ← hc]; rfl⟩)
  unfold bits
  simp only
  rw [key, IntKind.wrap_i64]
  have h1 := Int.emod_nonneg x (show (N : Int) ≠ 0 by omega)
  have h2 := Int.emod_lt_of_pos x (show (0 : Int) < N by omega)
  omega
theorem and3 (x : Int) : bits .and .i64 x 3 = x % 4 := and_lo x 4 2 rfl (by decide)
theorem and7 (x : Int) : bits .and .i64 x 7 = x % 8 := and_lo x 8 3 rfl (by decide)
theorem and31 (x : Int) : bits .and .i64 x 31 = x % 32 := and_lo x 32 5 rfl (by decide)
theorem and255 (x : Int) : bits .and .i64 x 255 = x % 256 := and_lo x 256 8 rfl (by decide)
theorem and15b (x : Int) : bits .and .i64 x 32767 = x % 32768 := and_lo x 32768 15 rfl (by decide)
theorem and65535 (x : Int) : bits .and .i64 x 65535 = x % 65536 := and_lo x 65536 16 rfl (by decide)

/-! ### octal digits -/
/-- m octal digits of n, the highest first. -/
def octL : Nat → Nat → List Int
  | 0, _ => []
  | m + 1, n => octL m (n / 8) ++ [48 + ((n % 8 : Nat) : Int)]
theorem octL_len : ∀ m n, (octL m n).length = m
  | 0, _ => rfl
  | m + 1, n => by simp [octL, octL_len m]
theorem octal_l0 (m : Nat) (hm : m ≤ 1000) : ∀ (n : Nat) (t : List Int), n ≤ 9223372036854775807 →
    Ev (fun k => num_Octal.l0 k (n : Int) (List.replicate m 0 ++ t) ((m : Int) - 1)) (if n / 8 ^ m = 0 then (octL m n ++ t, true) else ([], false)) := by
  induction m with
  | zero =>
    intro n t hn
    refine Ev.step1 fun k => ?_
    simp only [num_Octal.l0]
    rw [if_neg (by omega)]
    by_cases h : n = 0
    · subst h; simp [octL]
    · rw [if_pos (by omega), if_neg (by simpa using h)]
  | succ m ih =>
    intro n t hn
    refine Ev.step (f := fun k => num_Octal.l0 k ((n / 8 : Nat) : Int) (List.replicate m 0 ++ ((48 + ((n % 8 : Nat) : Int)) :: t)) ((m : Int) - 1)) (fun k => ?_) ?_
    · simp only [num_Octal.l0]
      rw [if_pos (by omega), if_pos (by omega), if_pos (by simp; omega)]
      have e1 : Int.tdiv (n : Int) 8 = ((n / 8 : Nat) : Int) := by rw [Int.tdiv_eq_ediv_of_nonneg (by omega)]; rfl
      have e2 : Int.tmod (n : Int) 8 = ((n % 8 : Nat) : Int) := by rw [Int.tmod_eq_emod_of_nonneg (by omega)]; rfl
      have e3 : (((m + 1 : Nat) : Int) - 1).toNat = m := by omega
      rw [e1, e2, e3, w64 (by omega) (by omega), w64 (by omega) (by omega), w64 (by omega) (by omega)]
      have e4 : ((48 + ((n % 8 : Nat) : Int)) % 256) = 48 + ((n % 8 : Nat) : Int) := by omega
      rw [e4]
      have e5 : (List.replicate (m + 1) (0 : Int) ++ t).set m (48 + ((n % 8 : Nat) : Int)) = List.replicate m 0 ++ ((48 + ((n % 8 : Nat) : Int)) :: t) := by
        rw [List.replicate_succ', List.append_assoc, List.set_append_right _ _ (by simp)]
        simp
      rw [e5]
      congr 1
      omega
    · refine ev_eq (ih (by omega) (n / 8) _ (by omega)) ?_
      rw [Nat.div_div_eq_div_mul, show 8 * 8 ^ m = 8 ^ (m + 1) by rw [Nat.pow_succ, Nat.mul_comm]]
      simp [octL]
/-- What Octal answers. -/
def octalOf (n width : Int) : List Int × Bool :=
  if width < 2 ∨ width > 12 ∨ n < 0 then ([], false) else if n.toNat / 8 ^ (width.toNat - 1) = 0 then (octL (width.toNat - 1) n.toNat ++ [0], true) else ([], false)
theorem octal_ev (n width : Int) (h1 : n ≤ 9223372036854775807) : Ev (fun k => num_Octal.f k n width) (octalOf n width) := by
  unfold octalOf
  by_cases hw : width < 2
  · rw [if_pos (.inl hw)]
    refine Ev.step1 fun k => ?_
    simp only [num_Octal.f, num_Octal.j0]
    rw [if_pos hw]; rfl
  by_cases hw2 : width > 12
  · rw [if_pos (.inr (.inl hw2))]
    refine Ev.step1 fun k => ?_
    simp only [num_Octal.f, num_Octal.j0]
    rw [if_neg hw, if_pos hw2]; rfl
  by_cases hn : n < 0
  · rw [if_pos (.inr (.inr hn))]
    refine Ev.step1 fun k => ?_
    simp only [num_Octal.f, num_Octal.j0]
    rw [if_neg hw, if_neg hw2, decide_eq_true hn]; rfl
  rw [if_neg (by omega)]
  obtain ⟨m, rfl⟩ : ∃ m : Nat, width = m + 1 := ⟨width.toNat - 1, by omega⟩
  obtain ⟨a, rfl⟩ : ∃ a : Nat, n = a := ⟨n.toNat, by omega⟩
  have e : ((m : Int) + 1).toNat = m + 1 := by omega
  refine Ev.step (f := fun k => num_Octal.l0 k (a : Int) (List.replicate m 0 ++ [0]) ((m : Int) - 1)) (fun k => ?_) ?_
  · simp only [num_Octal.f, num_Octal.j0]
    rw [if_neg hw, if_neg hw2, decide_eq_false hn]
    rw [if_neg (by decide), if_pos (by omega), if_pos (by omega), e, List.replicate_succ', w64 (by omega) (by omega)]
    congr 1
    omega
  · refine ev_eq (octal_l0 m (by omega) a [0] (by omega)) ?_
    simp [e]

/-! ### wide -/
/-- m bytes of v, the highest first. -/
def wideL : Nat → Int → List Int
  | 0, _ => []
  | m + 1, v => wideL m (v / 256) ++ [v % 256]
theorem wideL_len : ∀ m v, (wideL m v).length = m
  | 0, _ => rfl
  | m + 1, v => by simp [wideL, wideL_len m]
theorem ediv_256_pow (v : Int) (m : Nat) : v / 256 / 256 ^ m = v / 256 ^ (m + 1) := by
  rw [Int.ediv_ediv_of_nonneg (by decide), Int.pow_succ, Int.mul_comm]
/-- The first byte, and whether it goes in. -/
def wideOf1 (n : Int) (m : Nat) (t : List Int) : List Int × Bool :=
  if n / 256 ^ m = 0 ∧ 0 ≤ n then (128 :: (wideL m n ++ t), true) else if n / 256 ^ m = -1 ∧ n < 0 then (255 :: (wideL m n ++ t), true) else ([], false)
theorem wide_l0 (n : Int) (m : Nat) (hm : m ≤ 1000) : ∀ (v : Int) (t : List Int), -9223372036854775808 ≤ v → v ≤ 9223372036854775807 →
    Ev (fun k => num_Wide.l0 k n (0 :: (List.replicate m 0 ++ t)) v (m : Int)) (if v / 256 ^ m = 0 then (if 0 ≤ n then (128 :: (wideL m v ++ t), true) else ([], false)) else if v / 256 ^ m = -1 then (if n < 0 then (255 :: (wideL m v ++ t), true) else ([], false)) else ([], false)) := by
  induction m with
  | zero =>
    intro v t h0 h1
    refine Ev.step1 fun k => ?_
    simp only [num_Wide.l0]
    rw [if_neg (by simp)]
    simp only [Int.pow_zero, Int.ediv_one, wideL]
    by_cases hv : v = 0
    · rw [if_pos hv, if_pos hv]
      by_cases hn : 0 ≤ n
      · rw [if_pos hn, if_pos hn, if_pos (by simp)]; simp
      · rw [if_neg hn, if_neg (by omega)]
    · rw [if_neg hv, if_neg hv]
      by_cases hv : v = -1
      · rw [if_pos hv, if_pos hv]
        by_cases hn : n < 0
        · rw [if_pos hn, if_pos hn, if_pos (by simp)]; simp
        · rw [if_neg hn, if_neg hn]
      · rw [if_neg hv, if_neg hv]
  | succ m ih =>
    intro v t h0 h1
    refine Ev.step (f := fun k => num_Wide.l0 k n (0 :: (List.replicate m 0 ++ ((v % 256) :: t))) (v / 256) (m : Int)) (fun k => ?_) ?_
    · simp only [num_Wide.l0]
      rw [if_pos (by omega), if_pos (by omega), if_pos (by simp; omega), w64 (by omega) (by omega)]
      have e3 : (((m + 1 : Nat) : Int)).toNat = m + 1 := by omega
      have e5 : (0 :: (List.replicate (m + 1) (0 : Int) ++ t)).set (m + 1) (v % 256) = 0 :: (List.replicate m 0 ++ ((v % 256) :: t)) := by
        rw [List.set_cons_succ, List.replicate_succ', List.append_assoc, List.set_append_right _ _ (by simp)]
        simp
      rw [e3, e5]
      congr 1
      omega
    · refine ev_eq (ih (by omega) (v / 256) _ (by omega) (by omega)) ?_
      rw [ediv_256_pow]
      simp [wideL]
/-- What Wide answers. -/
def wideOf (n width : Int) : List Int × Bool :=
  if width < 2 ∨ width > 12 then ([], false) else wideOf1 n (width.toNat - 1) []
theorem ediv_pow_sign (n : Int) (m : Nat) : (0 ≤ n → 0 ≤ n / 256 ^ m) ∧ (n < 0 → n / 256 ^ m < 0) := by
  have hp : (0 : Int) < 256 ^ m := Int.pow_pos (by decide)
  exact ⟨fun h => Int.ediv_nonneg h (by omega), fun h => Int.ediv_neg_of_neg_of_pos h hp⟩
theorem wide_ev (n width : Int) (h0 : -9223372036854775808 ≤ n) (h1 : n ≤ 9223372036854775807) : Ev (fun k => num_Wide.f k n width) (wideOf n width) := by
  unfold wideOf
  by_cases hw : width < 2
  · rw [if_pos (.inl hw)]
    refine Ev.step1 fun k => ?_
    simp only [num_Wide.f, num_Wide.j0]
    rw [if_pos hw]; rfl
  by_cases hw2 : width > 12
  · rw [if_pos (.inr hw2)]
    refine Ev.step1 fun k => ?_
    simp only [num_Wide.f, num_Wide.j0]
    rw [if_neg hw, decide_eq_true hw2]; rfl
  rw [if_neg (by omega)]
  obtain ⟨m, rfl⟩ : ∃ m : Nat, width = m + 1 := ⟨width.toNat - 1, by omega⟩
  have e : ((m : Int) + 1).toNat = m + 1 := by omega
  refine Ev.step (f := fun k => num_Wide.l0 k n (0 :: (List.replicate m 0 ++ [])) n (m : Int)) (fun k => ?_) ?_
  · simp only [num_Wide.f, num_Wide.j0]
    rw [if_neg hw, decide_eq_false hw2]
    rw [if_neg (by decide), if_pos (by omega), if_pos (by omega), e, List.replicate_succ, w64 (by omega) (by omega), List.append_nil]
    congr 1
    omega
  · refine ev_eq (wide_l0 n m (by omega) n [] h0 h1) ?_
    have hs := ediv_pow_sign n m
    unfold wideOf1
    rw [e, Nat.add_sub_cancel]
    by_cases a : n / 256 ^ m = 0
    · by_cases b : 0 ≤ n
      · simp [a, b]
      · have := hs.2 (by omega); omega
    · by_cases b : n / 256 ^ m = -1
      · by_cases c : n < 0
        · simp [b, c]
        · have := hs.1 (by omega); omega
      · simp [a, b]

/-- What Field answers. -/
def fieldOf (n width : Int) (wide : Bool) : List Int × Bool := if (octalOf n width).2 = true then octalOf n width else if wide = true then wideOf n width else octalOf n width
theorem field_ev (n width : Int) (wide : Bool) (h0 : -9223372036854775808 ≤ n) (h1 : n ≤ 9223372036854775807) : Ev (fun k => num_Field.f k n width wide) (fieldOf n width wide) := by
  unfold fieldOf
  have h := octal_ev n width h1
  refine Ev.bind h ?_
  generalize octalOf n width = p
  obtain ⟨l, b⟩ := p
  cases b
  · cases wide
    · exact Ev.now _
    · exact Ev.bind (wide_ev n width h0 h1) (Ev.now _)
  · exact Ev.now _
end Go.Proofs.YtbaonnlpphpakaaDoor.X
