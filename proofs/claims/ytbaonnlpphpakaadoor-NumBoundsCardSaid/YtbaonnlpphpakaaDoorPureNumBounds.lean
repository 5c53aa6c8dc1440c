/- The greatest number that goes into a field does, one more does not: the plain law of NumBounds. -/
import Derived.Test.YtbaonnlpphpakaaDoorX4
import Derived.Test.YtbaonnlpphpakaaDoorBack
namespace Go.Proofs.YtbaonnlpphpakaaDoor.X
open Go.RowKit Go.Proofs.YtbaonnlpphpakaaDoorW.PrintWords Go.Proofs.YtbaonnlpphpakaaDoorW.PrintLast Go.Proofs.YtbaonnlpphpakaaDoorW.PrintMore
set_option linter.unusedVariables false
set_option linter.unusedSimpArgs false

theorem shl_one (m : Nat) (hm : m < 63) : shl .i64 1 (m : Int) = ((2 ^ m : Nat) : Int) := by
  unfold shl
  have hp : (2 : Nat) ^ m ≤ 2 ^ 62 := Nat.pow_le_pow_right (by decide) (by omega)
  rw [Int.toNat_natCast, Nat.min_eq_left (show m ≤ IntKind.i64.bits from Nat.le_of_lt (Nat.lt_of_lt_of_le hm (by decide))), IntKind.wrap_i64]
  have : ((2 : Int) ^ m) = ((2 ^ m : Nat) : Int) := by simp
  rw [this, Int.one_mul]
  have h2 : (2 : Nat) ^ m ≤ 4611686018427387904 := hp
  generalize (2 : Nat) ^ m = q at h2
  omega
theorem octal_of (n m : Nat) (hm : 1 ≤ m) (hm2 : m ≤ 11) : octalOf (n : Int) ((m : Int) + 1) = (if n / 8 ^ m = 0 then (octL m n ++ [0], true) else ([], false)) := by
  unfold octalOf
  have e : ((m : Int) + 1).toNat - 1 = m := by omega
  rw [if_neg (by omega), e, Int.toNat_natCast]
theorem pow11 : (256 : Int) ^ 11 = 309485009821345068724781056 := by decide
theorem pow7 : (256 : Int) ^ 7 = 72057594037927936 := by decide
theorem wide_least : (wideOf (-9223372036854775808) 12).2 = true := by
  unfold wideOf wideOf1
  rw [if_neg (by decide), show (12 : Int).toNat - 1 = 11 by rfl, pow11, if_neg (by omega), if_pos (by omega)]
theorem wide_most : (wideOf 9223372036854775807 12).2 = true := by
  unfold wideOf wideOf1
  rw [if_neg (by decide), show (12 : Int).toNat - 1 = 11 by rfl, pow11, if_pos (by omega)]
theorem wide_narrow : (wideOf 9223372036854775807 8).2 = false := by
  unfold wideOf wideOf1
  rw [if_neg (by decide), show (8 : Int).toNat - 1 = 7 by rfl, pow7, if_neg (by omega), if_neg (by omega)]
theorem wide_pack (n w : Int) (h0 : -9223372036854775808 ≤ n) (h1 : n ≤ 9223372036854775807) (h : (wideOf n w).2 = true) : ∃ l, Ev (fun k => num_Wide.f k n w) (l, true) ∧ Ev (fun k => num_Read.f k l) (n, true) := by
  refine ⟨(wideOf n w).1, ev_eq (wide_ev n w h0 h1) (by rw [← h]), ev_eq (read_ev _ (isBytes_wide n w) (wide_len n w)) (wide_back n w h0 h1 h)⟩
theorem wide_not (n w : Int) (h0 : -9223372036854775808 ≤ n) (h1 : n ≤ 9223372036854775807) (h : (wideOf n w).2 = false) : ∃ l, Ev (fun k => num_Wide.f k n w) (l, false) := by
  refine ⟨(wideOf n w).1, ev_eq (wide_ev n w h0 h1) (by rw [← h])⟩
theorem octal_pack (n m : Nat) (hm : 1 ≤ m) (hm2 : m ≤ 11) (hn : n < 8 ^ m) (hb : n ≤ 9223372036854775807) : ∃ l, Ev (fun k => num_Octal.f k (n : Int) ((m : Int) + 1)) (l, true) ∧ Ev (fun k => num_Read.f k l) ((n : Int), true) ∧ (l.length : Int) = (m : Int) + 1 := by
  have v := octal_of n m hm hm2
  rw [if_pos ((Nat.div_eq_zero_iff_lt (Nat.pow_pos (by decide))).2 hn)] at v
  have h2 : (octalOf (n : Int) ((m : Int) + 1)).2 = true := by rw [v]
  have hbk := octal_back (n : Int) ((m : Int) + 1) (by omega) h2
  exact ⟨(octalOf (n : Int) ((m : Int) + 1)).1, ev_eq (octal_ev _ _ (by omega)) (by rw [← h2]), ev_eq (read_ev _ (isBytes_octal _ _) (octal_len _ _)) hbk.1, hbk.2⟩
theorem octal_not (n m : Nat) (hm : 1 ≤ m) (hm2 : m ≤ 11) (hn : 8 ^ m ≤ n) (hb : n ≤ 9223372036854775807) : ∃ l, Ev (fun k => num_Octal.f k (n : Int) ((m : Int) + 1)) (l, false) := by
  have v := octal_of n m hm hm2
  rw [if_neg (fun h => by have := (Nat.div_eq_zero_iff_lt (Nat.pow_pos (by decide))).1 h; omega)] at v
  exact ⟨[], ev_eq (octal_ev _ _ (by omega)) v⟩
theorem NumBounds : portmanteaulaw16_NumBounds.Pure := by
  intro a b wf1 wf2
  refine Ev.rounds ?_
  unfold portmanteaulaw16_NumBounds.f
  rw [and255, and255]
  have ha0 := Int.emod_nonneg a (show (256 : Int) ≠ 0 by decide)
  have hb0 := Int.emod_nonneg b (show (256 : Int) ≠ 0 by decide)
  have hb1 := Int.emod_lt_of_pos b (show (0 : Int) < 256 by decide)
  obtain ⟨by_, hby⟩ : ∃ x : Nat, b % 256 = x := ⟨(b % 256).toNat, by omega⟩
  obtain ⟨m, hm, hm1, hm2⟩ : ∃ m : Nat, wrap64 ((a % 256).tmod 11 + 2) = (m : Int) + 1 ∧ 1 ≤ m ∧ m ≤ 11 := by
    rw [Int.tmod_eq_emod_of_nonneg ha0]
    refine ⟨((a % 256) % 11 + 1).toNat, ?_, by omega, by omega⟩
    rw [w64 (by omega) (by omega)]
    omega
  have hp : (8 : Nat) ^ m ≤ 8 ^ 11 := Nat.pow_le_pow_right (by decide) hm2
  have hpos : 0 < 8 ^ m := Nat.pow_pos (by decide)
  have h8 : (8 : Nat) ≤ 8 ^ m := by
    have := Nat.pow_le_pow_right (n := 8) (by decide) hm1
    simpa using this
  have e3 : wrap64 (3 * wrap64 ((m : Int) + 1 - 1)) = ((3 * m : Nat) : Int) := by rw [w64 (x := (m : Int) + 1 - 1) (by omega) (by omega), w64 (by omega) (by omega)]; omega
  have e4 : shl .i64 1 ((3 * m : Nat) : Int) = ((8 ^ m : Nat) : Int) := by rw [shl_one _ (by omega), Nat.pow_mul]
  rw [hm, hby, e3, e4]
  have hp2 : 8 ^ m ≤ 8589934592 := hp
  obtain ⟨T, hT⟩ : ∃ T : Nat, 8 ^ m = T + 1 := ⟨8 ^ m - 1, by omega⟩
  rw [hT] at hp2 h8
  have e5 : wrap64 (((8 ^ m : Nat) : Int) - 1) = (T : Int) := by rw [hT, w64 (by omega) (by omega)]; omega
  have e6 : mn (by_ : Int) (T : Int) = ((min by_ T : Nat) : Int) := by unfold mn; omega
  have e7 : wrap64 ((T : Int) - ((min by_ T : Nat) : Int)) = ((T - min by_ T : Nat) : Int) := by rw [w64 (by omega) (by omega)]; omega
  have e8 : wrap64 (wrap64 ((T : Int) + 1) + (by_ : Int)) = ((T + 1 + by_ : Nat) : Int) := by rw [w64 (x := (T : Int) + 1) (by omega) (by omega), w64 (by omega) (by omega)]; omega
  have hge : (0 : Int) ≤ ((3 * m : Nat) : Int) := by omega
  rw [e5, e6, e7, e8]
  simp only [hge, if_true]
  have hq : by_ < 256 := by clear e3 e4 e5 e6 e7 e8 hm; omega
  clear e3 e4 e5 e6 e7 e8 hm hby
  have k1 : T - min by_ T < 8 ^ m := by rw [hT]; omega
  have k2 : 8 ^ m ≤ T + 1 + by_ := by rw [hT]; omega
  have k3 : T - min by_ T ≤ 9223372036854775807 := by omega
  have k4 : T + 1 + by_ ≤ 9223372036854775807 := by omega
  clear hT hp hp2 h8 hpos
  obtain ⟨l1, o1, r1, len1⟩ := octal_pack (T - min by_ T) m hm1 hm2 k1 k3
  obtain ⟨l2, o2⟩ := octal_not (T + 1 + by_) m hm1 hm2 k2 k4
  obtain ⟨l3, x1, y1⟩ := wide_pack (-9223372036854775808) 12 (by decide) (by decide) wide_least
  obtain ⟨l4, x2, y2⟩ := wide_pack 9223372036854775807 12 (by decide) (by decide) wide_most
  obtain ⟨l5, x3⟩ := wide_not 9223372036854775807 8 (by decide) (by decide) wide_narrow
  refine Ev.bind o1 ?_
  dsimp only
  refine Ev.bind o2 ?_
  dsimp only
  refine Ev.bind r1 ?_
  dsimp only
  refine Ev.bind x1 ?_
  dsimp only
  refine Ev.bind y1 ?_
  dsimp only
  refine Ev.bind x2 ?_
  dsimp only
  refine Ev.bind y2 ?_
  dsimp only
  refine Ev.bind x3 ?_
  dsimp only
  simp only [len1, if_true, Bool.false_eq_true, if_false]
  exact Ev.bind awake16 (Ev.now _)
end Go.Proofs.YtbaonnlpphpakaaDoor.X
