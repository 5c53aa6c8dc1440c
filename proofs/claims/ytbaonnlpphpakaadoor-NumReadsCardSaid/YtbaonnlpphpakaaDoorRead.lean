/- The plain law of num.Read: what it answers of any bytes; digits and wide numbers are read back. -/
import Derived.Test.YtbaonnlpphpakaaDoorNum
import Derived.Test.YtbaonnlpphpakaaDoorX2
import Derived.Test.YtbaonnlpphpakaaDoorX1
namespace Go.Proofs.YtbaonnlpphpakaaDoor.X
open Go.RowKit Go.Proofs.YtbaonnlpphpakaaDoorW.PrintWords Go.Proofs.YtbaonnlpphpakaaDoorW.PrintLast Go.Proofs.YtbaonnlpphpakaaDoorW.PrintMore
set_option linter.unusedVariables false
set_option linter.unusedSimpArgs false

theorem or_lo (x y : Int) (N j : Nat) (hN : N = 2 ^ j) (hj : j < 63) (hx0 : -9223372036854775808 ≤ x) (hx1 : x ≤ 9223372036854775807) (hd : x % (N : Int) = 0) (hy0 : 0 ≤ y) (hy1 : y < (N : Int)) (hxy : x + y ≤ 9223372036854775807) : bits .or .i64 x y = x + y := by
  have hp : (2 : Nat) ^ j ≤ 2 ^ 62 := Nat.pow_le_pow_right (by decide) (by omega)
  have hpos : 0 < N := by rw [hN]; exact Nat.two_pow_pos j
  have hN2 : N ≤ 4611686018427387904 := by rw [hN]; exact hp
  have hdvd : N ∣ 18446744073709551616 := ⟨2 ^ (64 - j), by rw [hN, ← Nat.pow_add, show j + (64 - j) = 64 by omega]⟩
  obtain ⟨c, hc⟩ := hdvd
  obtain ⟨y, rfl⟩ := Int.eq_ofNat_of_zero_le hy0
  have hyN : y < N := by omega
  have ex : (x % (18446744073709551616 : Int)).toNat % N = 0 := by
    have h1 : ((x % (18446744073709551616 : Int)).toNat : Int) = x % 18446744073709551616 := Int.toNat_of_nonneg (Int.emod_nonneg _ (by decide))
    have h2 : (((x % (18446744073709551616 : Int)).toNat % N : Nat) : Int) = 0 := by
      rw [Int.natCast_emod, h1, Int.emod_emod_of_dvd _ ⟨(c : Int), by rw [← Int.natCast_mul, ← hc]; rfl⟩, hd]
    omega
  have key : ((BitVec.ofInt IntKind.i64.bits x ||| BitVec.ofInt IntKind.i64.bits (y : Int)).toNat : Int) = x % 18446744073709551616 + y := by
    rw [BitVec.toNat_or, BitVec.ofInt_natCast, BitVec.toNat_ofNat, BitVec.toNat_ofInt]
    show (((x % (18446744073709551616 : Int)).toNat ||| (y % 18446744073709551616) : Nat) : Int) = _
    rw [Nat.mod_eq_of_lt (show y < 18446744073709551616 by omega)]
    have hq : (x % (18446744073709551616 : Int)).toNat = 2 ^ j * ((x % (18446744073709551616 : Int)).toNat / N) := by
      have := Nat.div_add_mod (x % (18446744073709551616 : Int)).toNat N
      rw [ex] at this
      rw [← hN]
      omega
    rw [hq, ← Nat.two_pow_add_eq_or_of_lt (by rw [← hN]; exact hyN), ← hq, Int.natCast_add, Int.toNat_of_nonneg (Int.emod_nonneg _ (by decide))]
  have hlt : x % 18446744073709551616 + (y : Int) < 18446744073709551616 := by
    have hm := Int.emod_nonneg x (show (18446744073709551616 : Int) ≠ 0 by decide)
    have hl := Int.emod_lt_of_pos x (show (0 : Int) < 18446744073709551616 by decide)
    have h1 : ((x % (18446744073709551616 : Int)).toNat : Int) = x % 18446744073709551616 := Int.toNat_of_nonneg hm
    have h2 := Nat.div_add_mod (x % (18446744073709551616 : Int)).toNat N
    rw [ex, Nat.add_zero] at h2
    have h3 : (x % (18446744073709551616 : Int)).toNat / N < c := by
      refine Nat.div_lt_of_lt_mul ?_
      rw [← hc]; omega
    have h4 : N * ((x % (18446744073709551616 : Int)).toNat / N) + N ≤ N * c := by
      rw [← Nat.mul_succ]; exact Nat.mul_le_mul_left _ h3
    omega
  unfold bits
  simp only
  rw [key, IntKind.wrap_i64]
  have hm := Int.emod_nonneg x (show (18446744073709551616 : Int) ≠ 0 by decide)
  have hl := Int.emod_lt_of_pos x (show (0 : Int) < 18446744073709551616 by decide)
  omega

def IsBytes (l : List Int) : Prop := ∀ x ∈ l, 0 ≤ x ∧ x < 256
theorem rd_app (p r : List Int) (c : Int) : rd (p ++ c :: r) (p.length : Int) = c := by
  unfold rd
  simp [List.getD_eq_getElem?_getD]

/-! ### a two's complement -/
def complOf : Int → List Int → Int × Bool
  | v, [] => (v, true)
  | v, c :: r => if v > 36028797018963967 then (0, false) else if v < -36028797018963968 then (0, false) else complOf (v * 256 + c) r
theorem compl_l0 : ∀ (r p : List Int) (v : Int), IsBytes r → -9223372036854775808 ≤ v → v ≤ 9223372036854775807 → (p ++ r).length ≤ 1000000 →
    Ev (fun k => num_complement.l0 k v (p ++ r) ((p ++ r).length : Int) (p.length : Int)) (complOf v r)
  | [], p, v, hb, h0, h1, hl => by
    refine Ev.step1 fun k => ?_
    simp only [num_complement.l0]
    rw [if_neg (by simp)]
    rfl
  | c :: r, p, v, hb, h0, h1, hl => by
    have hc := hb c (by simp)
    have hpl : (p ++ c :: r).length = p.length + (r.length + 1) := by simp
    unfold complOf
    by_cases hv : v > 36028797018963967
    · rw [if_pos hv]
      refine Ev.step1 fun k => ?_
      simp only [num_complement.l0]
      rw [if_pos (by omega), if_pos (by omega), if_pos (by omega), if_pos hv]
    · rw [if_neg hv]
      by_cases hv2 : v < -36028797018963968
      · rw [if_pos hv2]
        refine Ev.step1 fun k => ?_
        simp only [num_complement.l0]
        rw [if_pos (by omega), if_pos (by omega), if_pos (by omega), if_neg hv, if_pos hv2]
      · rw [if_neg hv2]
        have ih := compl_l0 r (p ++ [c]) (v * 256 + c) (fun x hx => hb x (by simp [hx])) (by omega) (by omega) (by simpa using hl)
        simp only [List.append_assoc, List.singleton_append, List.length_append, List.length_singleton] at ih
        refine Ev.step (fun k => ?_) ih
        simp only [num_complement.l0]
        rw [if_pos (by omega), if_pos (by omega), if_pos (by omega), if_neg hv, if_neg hv2, rd_app, w64 (by omega) (by omega), w64 (by omega) (by omega), w64 (by omega) (by omega), or_lo (v * 256) c 256 8 rfl (by decide) (by omega) (by omega) (by omega) hc.1 (by omega) (by omega)]
        congr 1
        all_goals simp
theorem compl_ev (l : List Int) (v : Int) (hb : IsBytes l) (h0 : -9223372036854775808 ≤ v) (h1 : v ≤ 9223372036854775807) (hl : l.length ≤ 1000000) : Ev (fun k => num_complement.f k l v) (complOf v l) := by
  have := compl_l0 l [] v hb h0 h1 (by simpa using hl)
  exact this

/-! ### octal digits -/
def octOf : Int → List Int → Option (Int × List Int)
  | v, [] => some (v, [])
  | v, c :: r => if 48 ≤ c ∧ c < 56 then (if v > 1152921504606846975 then none else octOf (v * 8 + (c - 48)) r) else some (v, c :: r)
theorem digits_l0 : ∀ (r p : List Int) (v : Int), 0 ≤ v → v ≤ 9223372036854775807 → (p ++ r).length ≤ 1000000 →
    Ev (fun k => num_digits.l0 k (p ++ r) v (p.length : Int)) (match octOf v r with | none => (0, 0, false) | some (n, rest) => (n, ((p ++ r).length : Int) - rest.length, true))
  | [], p, v, h0, h1, hl => by
    refine Ev.step (fun k => by simp only [num_digits.l0]; rw [if_neg (by simp)]) (Ev.step1 fun k => ?_)
    simp only [num_digits.j1]
    rw [if_neg (by decide)]
    simp [octOf]
  | c :: r, p, v, h0, h1, hl => by
    have hpl : (p ++ c :: r).length = p.length + (r.length + 1) := by simp
    unfold octOf
    by_cases hc : 48 ≤ c ∧ c < 56
    · rw [if_pos hc]
      refine Ev.step (f := fun k => num_digits.j1 k (p ++ c :: r) v (p.length : Int) true) (fun k => ?_) ?_
      · simp only [num_digits.l0]
        rw [if_pos (by omega), if_pos (by omega), rd_app, if_pos (by omega), decide_eq_true (by omega)]
      by_cases hv : v > 1152921504606846975
      · rw [if_pos hv]
        refine Ev.step1 fun k => ?_
        simp only [num_digits.j1]
        rw [if_pos trivial, if_pos hv]
      · rw [if_neg hv]
        have ih := digits_l0 r (p ++ [c]) (v * 8 + (c - 48)) (by omega) (by omega) (by simpa using hl)
        simp only [List.append_assoc, List.singleton_append, List.length_append, List.length_singleton] at ih
        rw [hpl]
        refine Ev.step (fun k => ?_) (ev_eq ih (by simp))
        simp only [num_digits.j1]
        rw [if_pos trivial, if_neg hv, if_pos (by omega), if_pos (by omega), rd_app, w64 (by omega) (by omega), w64 (by omega) (by omega), show (c - 48) % 256 = c - 48 by omega, or_lo (v * 8) (c - 48) 8 3 rfl (by decide) (by omega) (by omega) (by omega) (by omega) (by omega) (by omega)]
        congr 1
    · rw [if_neg hc]
      refine Ev.step (f := fun k => num_digits.j1 k (p ++ c :: r) v (p.length : Int) false) (fun k => ?_) (Ev.step1 fun k => ?_)
      · simp only [num_digits.l0]
        rw [if_pos (by omega), if_pos (by omega), rd_app]
        by_cases h48 : c ≥ 48
        · rw [if_pos h48, decide_eq_false (by omega)]
        · rw [if_neg h48]
      · simp only [num_digits.j1]
        rw [if_neg (by decide)]
        simp [hpl]
theorem digits_ev (l : List Int) (hl : l.length ≤ 1000000) : Ev (fun k => num_digits.f k l) (match octOf 0 l with | none => (0, 0, false) | some (n, rest) => (n, (l.length : Int) - rest.length, true)) := digits_l0 l [] 0 (by decide) (by decide) (by simpa using hl)
theorem octOf_rest : ∀ (r : List Int) (v n : Int) (rest : List Int), octOf v r = some (n, rest) → rest.length ≤ r.length ∧ r.drop (r.length - rest.length) = rest
  | [], v, n, rest, h => by simp only [octOf, Option.some.injEq, Prod.mk.injEq] at h; obtain ⟨_, rfl⟩ := h; simp
  | c :: r, v, n, rest, h => by
    unfold octOf at h
    split at h
    · split at h
      · cases h
      · obtain ⟨h1, h2⟩ := octOf_rest r _ n rest h
        refine ⟨by simp; omega, ?_⟩
        rw [List.length_cons, show r.length + 1 - rest.length = (r.length - rest.length) + 1 by omega, List.drop_succ_cons]
        exact h2
    · simp only [Option.some.injEq, Prod.mk.injEq] at h
      obtain ⟨_, rfl⟩ := h
      simp

/-! ### Read -/
/-- Blanks and noughts alone. -/
def blank (l : List Int) : Bool := l.all fun c => decide (c = 0) || decide (c = 32)
theorem read_l1 (n : Int) : ∀ (r p : List Int), (p ++ r).length ≤ 1000000 → Ev (fun k => num_Read.l1 k n (p ++ r) ((p ++ r).length : Int) (p.length : Int)) (if blank r = true then (n, true) else (0, false))
  | [], p, hl => by
    refine Ev.step1 fun k => ?_
    simp only [num_Read.l1]
    rw [if_neg (by simp)]
    rfl
  | c :: r, p, hl => by
    have hpl : (p ++ c :: r).length = p.length + (r.length + 1) := by simp
    have ih := read_l1 n r (p ++ [c]) (by simpa using hl)
    simp only [List.append_assoc, List.singleton_append, List.length_append, List.length_singleton] at ih
    by_cases h0 : c = 0
    · refine Ev.step (fun k => ?_) (ev_eq ih (by simp [blank, h0]))
      simp only [num_Read.l1]
      rw [if_pos (by omega), if_pos (by omega), if_pos (by omega), rd_app, if_pos h0, w64 (by omega) (by omega)]
      congr 1
      simp
    · by_cases h32 : c = 32
      · refine Ev.step (fun k => ?_) (ev_eq ih (by simp [blank, h32]))
        simp only [num_Read.l1]
        rw [if_pos (by omega), if_pos (by omega), if_pos (by omega), rd_app, if_neg h0, if_pos h32, w64 (by omega) (by omega)]
        congr 1
        simp
      · refine Ev.step1 fun k => ?_
        simp only [num_Read.l1]
        rw [if_pos (by omega), if_pos (by omega), if_pos (by omega), rd_app, if_neg h0, if_neg h32]
        simp [blank, h0, h32]
def octRead (l : List Int) : Int × Bool := match octOf 0 l with
  | none => (0, false)
  | some (n, rest) => if blank rest = true then (n, true) else (0, false)
theorem read_j2 (l : List Int) (hl : l.length ≤ 1000000) : Ev (fun k => num_Read.j2 k l) (octRead l) := by
  refine Ev.step (f := fun k => (num_digits.f k l).bind fun b => _) (fun k => by simp only [num_Read.j2]; rfl) (Ev.bind (digits_ev l hl) ?_)
  unfold octRead
  cases h : octOf 0 l with
  | none => exact Ev.now _
  | some q =>
    obtain ⟨n, rest⟩ := q
    obtain ⟨h1, h2⟩ := octOf_rest l 0 n rest h
    have e : ((l.length : Int) - rest.length).toNat = l.length - rest.length := by omega
    refine Ev.congr (f := fun k => num_Read.l1 k n rest (rest.length : Int) 0) (fun k => ?_) (read_l1 n rest [] (by simp; omega))
    simp only
    rw [if_pos trivial, if_pos (by omega), if_pos (by omega), e, h2]
    rfl
theorem read_l0 : ∀ l : List Int, l.length ≤ 1000000 → Ev (fun k => num_Read.l0 k l) (octRead (l.dropWhile fun c => decide (c = 32)))
  | [], hl => by
    refine Ev.step (fun k => by simp only [num_Read.l0]; rw [if_neg (by simp)]) (read_j2 [] hl)
  | c :: r, hl => by
    have hr : rd (c :: r) 0 = c := rd_app [] r c
    by_cases h : c = 32
    · refine Ev.step (fun k => ?_) (ev_eq (read_l0 r (by simp at hl; omega)) (by simp [List.dropWhile_cons, h]))
      simp only [num_Read.l0]
      rw [if_pos (by simp), if_pos (by simp), hr, if_pos h, if_pos (by simp; omega)]
      rfl
    · refine Ev.step (fun k => ?_) (ev_eq (read_j2 (c :: r) hl) (by simp [List.dropWhile_cons, h]))
      simp only [num_Read.l0]
      rw [if_pos (by simp), if_pos (by simp), hr, if_neg h]
/-- What Read answers. -/
def readOf (l : List Int) : Int × Bool := match l with
  | [] => (0, false)
  | c :: r => if 12 ≤ r.length then (0, false) else if c = 128 then complOf 0 r else if c = 255 then complOf (-1) r else octRead ((c :: r).dropWhile fun c => decide (c = 32))
theorem read_ev (l : List Int) (hb : IsBytes l) (hl : l.length ≤ 140737488355328) : Ev (fun k => num_Read.f k l) (readOf l) := by
  cases l with
  | nil =>
    refine Ev.step1 fun k => ?_
    simp only [num_Read.f, num_Read.j0]
    rw [if_pos (by simp), if_pos trivial]
    rfl
  | cons c r =>
    simp only [readOf]
    have hr : rd (c :: r) 0 = c := rd_app [] r c
    have hbr : IsBytes r := fun x hx => hb x (by simp [hx])
    by_cases h12 : 12 ≤ r.length
    · rw [if_pos h12]
      refine Ev.step1 fun k => ?_
      simp only [num_Read.f, num_Read.j0]
      rw [if_neg (by simp; omega), decide_eq_true (by simp; omega), if_pos rfl]
    rw [if_neg h12]
    have hd : decide (((c :: r).length : Int) > 12) = false := decide_eq_false (by simp; omega)
    have h1 : ¬ ((c :: r).length : Int) < 1 := by simp; omega
    have h2 : (0 : Int) < ((c :: r).length : Int) := by simp
    have h3 : (1 : Int) ≤ ((c :: r).length : Int) := by omega
    by_cases h128 : c = 128
    · rw [if_pos h128]
      refine Ev.step (fun k => ?_) (Ev.bind (compl_ev r 0 hbr (by decide) (by decide) (by omega)) (Ev.now _))
      simp only [num_Read.f, num_Read.j0]
      rw [if_neg h1, hd, if_neg (by decide), if_pos h2, hr, if_pos h128, if_pos h3]
      rfl
    rw [if_neg h128]
    by_cases h255 : c = 255
    · rw [if_pos h255]
      refine Ev.step (fun k => ?_) (Ev.bind (compl_ev r (-1) hbr (by decide) (by decide) (by omega)) (Ev.now _))
      simp only [num_Read.f, num_Read.j0]
      rw [if_neg h1, hd, if_neg (by decide), if_pos h2, hr, if_neg h128, if_pos h255, if_pos h3]
      rfl
    rw [if_neg h255]
    refine Ev.step (fun k => ?_) (read_l0 (c :: r) (by simp; omega))
    simp only [num_Read.f, num_Read.j0]
    rw [if_neg h1, hd, if_neg (by decide), if_pos h2, hr, if_neg h128, if_neg h255]
end Go.Proofs.YtbaonnlpphpakaaDoor.X
