-- Printed by a program of this session (wip/tools/xprint.py) out of the translation.
import Derived.Test.YtmmmmalicndkeaaDoorX0
import Derived.Test.YtmmmmalicndkeaaDoorX30
namespace Go.Proofs.YtmmmmalicndkeaaDoor.X
open Go.RowKit Go.Proofs.YtmmmmalicndkeaaDoorW.PrintWords Go.Proofs.YtmmmmalicndkeaaDoorW.PrintLast Go.Proofs.YtmmmmalicndkeaaDoorW.PrintMore
attribute [local go_sem] max2_int min2_int max_two min_two max_three min_three max_four min_four   -- for this text's walks alone
set_option linter.unusedVariables false
set_option linter.unusedSimpArgs false

/-! ### portmanteauref16_TimeText: function 30 -/
mutual
def portmanteauref16_TimeText.j0 : Nat → Int → ByteArray → Option (ByteArray)
  | 0, _, _ => none
  | k + 1, x3, x4 => (portmanteauref13_Digits.f k (wrap64 (IntKind.u64.wrap (Int.tdiv x3 1000000000)))).bind fun t486 => (if x4.size + t486.size ≤ 9223372036854775807 then (if (Int.tmod x3 1000000000) = 0 then (some (x4 ++ t486)) else ((portmanteauref13_Digits.f k (wrap64 (IntKind.u64.wrap ((Int.tmod x3 1000000000) + 1000000000)))).bind fun t487 => (if 1 ≤ (t487.size : Int) then (portmanteauref16_TimeText.l0 k (x4 ++ t486) (t487.extract 1 t487.size)) else (none)))) else (none))
def portmanteauref16_TimeText.l0 : Nat → ByteArray → ByteArray → Option (ByteArray)
  | 0, _, _ => none
  | k + 1, x4, x6 => if 0 ≤ (wrap64 ((x6.size : Int) - 1)) then (if (wrap64 ((x6.size : Int) - 1)) < (x6.size : Int) then (if (bt x6 (wrap64 ((x6.size : Int) - 1))) = 48 then (if (wrap64 ((x6.size : Int) - 1)) ≤ (x6.size : Int) then (portmanteauref16_TimeText.l0 k x4 (x6.extract 0 ((wrap64 ((x6.size : Int) - 1)) : Int).toNat)) else (none)) else (if x4.size + 1 ≤ 9223372036854775807 then (if (x4 ++ (⟨#[46]⟩ : ByteArray)).size + x6.size ≤ 9223372036854775807 then (some ((x4 ++ (⟨#[46]⟩ : ByteArray)) ++ x6)) else (none)) else (none))) else (none)) else (none)
end
def portmanteauref16_TimeText.f (k : Nat) (a0 : Int) : Option (ByteArray) := if a0 < 0 then (portmanteauref16_TimeText.j0 k (IntKind.u64.wrap (-(IntKind.u64.wrap (a0)))) (⟨#[45]⟩ : ByteArray)) else (portmanteauref16_TimeText.j0 k (IntKind.u64.wrap (a0)) (⟨#[]⟩ : ByteArray))
theorem portmanteauref16_TimeText.mono_l : ∀ k, (∀ y0 y1, LeO (portmanteauref16_TimeText.j0 k y0 y1) (portmanteauref16_TimeText.j0 (k + 1) y0 y1)) ∧ (∀ y0 y1, LeO (portmanteauref16_TimeText.l0 k y0 y1) (portmanteauref16_TimeText.l0 (k + 1) y0 y1))
  | 0 => ⟨fun _ _ r h => by simp [portmanteauref16_TimeText.j0] at h, fun _ _ r h => by simp [portmanteauref16_TimeText.l0] at h⟩
  | k + 1 => by
    obtain ⟨ih0, ih1⟩ := portmanteauref16_TimeText.mono_l k
    refine ⟨?_, ?_⟩
    · intro y0 y1
      unfold portmanteauref16_TimeText.j0
      repeat' first
      | (with_reducible exact ih0 _ _)
      | (with_reducible exact ih1 _ _)
      | (with_reducible exact portmanteauref13_Digits.mono _ _)
      | (with_reducible exact LeO.refl _)
      | (with_reducible exact LeO.none _)
      | (with_reducible refine LeO.ite ?_ ?_)
      | (with_reducible refine LeO.bind ?_ (fun _ => ?_))
      | exact ih0 _ _
      | exact ih1 _ _
      | exact portmanteauref13_Digits.mono _ _
      | exact LeO.none _
      | refine LeO.ite ?_ ?_
      | refine LeO.bind ?_ (fun _ => ?_)
    · intro y0 y1
      unfold portmanteauref16_TimeText.l0
      repeat' first
      | (with_reducible exact ih0 _ _)
      | (with_reducible exact ih1 _ _)
      | (with_reducible exact portmanteauref13_Digits.mono _ _)
      | (with_reducible exact LeO.refl _)
      | (with_reducible exact LeO.none _)
      | (with_reducible refine LeO.ite ?_ ?_)
      | (with_reducible refine LeO.bind ?_ (fun _ => ?_))
      | exact ih0 _ _
      | exact ih1 _ _
      | exact portmanteauref13_Digits.mono _ _
      | exact LeO.none _
      | refine LeO.ite ?_ ?_
      | refine LeO.bind ?_ (fun _ => ?_)
theorem portmanteauref16_TimeText.mono : ∀ a0 k, LeO (portmanteauref16_TimeText.f k a0) (portmanteauref16_TimeText.f (k + 1) a0) := by
  intro a0 k
  obtain ⟨ih0, ih1⟩ := portmanteauref16_TimeText.mono_l k
  unfold portmanteauref16_TimeText.f
  repeat' first
      | (with_reducible exact ih0 _ _)
      | (with_reducible exact ih1 _ _)
      | (with_reducible exact portmanteauref13_Digits.mono _ _)
      | (with_reducible exact LeO.refl _)
      | (with_reducible exact LeO.none _)
      | (with_reducible refine LeO.ite ?_ ?_)
      | (with_reducible refine LeO.bind ?_ (fun _ => ?_))
      | exact ih0 _ _
      | exact ih1 _ _
      | exact portmanteauref13_Digits.mono _ _
      | exact LeO.none _
      | refine LeO.ite ?_ ?_
      | refine LeO.bind ?_ (fun _ => ?_)
set_option maxHeartbeats 8000000 in
set_option maxRecDepth 100000 in
theorem portmanteauref16_TimeText.calls (k : Nat) (a0 : Int) (r : ByteArray) (w : World) (h : portmanteauref16_TimeText.f k a0 = some r) :
    Calls Tryd.prog 30 #[.int .i64 a0] w fun e w' => e = .returned (.string r) ∧ Drawn0 w w' := by
  have H : (if a0 < 0 then (portmanteauref16_TimeText.j0 k (IntKind.u64.wrap (-(IntKind.u64.wrap (a0)))) (⟨#[45]⟩ : ByteArray)) else (portmanteauref16_TimeText.j0 k (IntKind.u64.wrap (a0)) (⟨#[]⟩ : ByteArray))) = some r := h
  clear h
  have HC2 := Aside0.mk H
  clear H
  go_enter Tryd.func30, Tryd.ntmps30
  go_upto_if 10 with (fail)
  go_cut [3, 4] (fun v3 v4 wc => ∃ (kq : Nat) (x3_1 : Int) (x4_1 : ByteArray), v3 = .int .u64 x3_1 ∧ v4 = .string x4_1 ∧ Aside0 (portmanteauref16_TimeText.j0 kq x3_1 x4_1 = some r) ∧ Aside0 (kq ≤ k) ∧ Drawn0 w wc)
  case first =>
    have H := HC2.out
    clear HC2
    by_cases c3 : a0 < 0
    · rw [if_pos c3] at H
      have c3b0 : decide (a0 < 0) = true := decide_eq_true c3
      clear c3
      (first | rw [c3b0] | (simp only [i64_w, i32_w]; rw [c3b0]) | skip)
      have H' := Aside0.mk H
      clear H
      go_wp2
      go_meet
      case rel => exact ⟨_, (IntKind.u64.wrap (-(IntKind.u64.wrap (a0)))), ((⟨#[45]⟩ : ByteArray)), (by first | rfl | (simp; done) | (simp [ba_mk_size]; done) | (simp [ba_bne, ba_beq]; done) | (simp [*]; done)), (by first | rfl | (simp; done) | (simp [ba_mk_size]; done) | (simp [ba_bne, ba_beq]; done) | (simp [*]; done)), H', ⟨by first | omega | exact Nat.le_refl _⟩, by repeat (first | exact Drawn0.refl _ | apply Drawn0.step)⟩
    · rw [if_neg c3] at H
      have c3b0 : decide (a0 < 0) = false := decide_eq_false c3
      clear c3
      (first | rw [c3b0] | (simp only [i64_w, i32_w]; rw [c3b0]) | skip)
      have H' := Aside0.mk H
      clear H
      go_wp2
      go_meet
      case rel => exact ⟨_, (IntKind.u64.wrap (a0)), ((⟨#[]⟩ : ByteArray)), (by first | rfl | (simp; done) | (simp [ba_mk_size]; done) | (simp [ba_bne, ba_beq]; done) | (simp [*]; done)), (by first | rfl | (simp; done) | (simp [ba_mk_size]; done) | (simp [ba_bne, ba_beq]; done) | (simp [*]; done)), H', ⟨by first | omega | exact Nat.le_refl _⟩, by repeat (first | exact Drawn0.refl _ | apply Drawn0.step)⟩
  case rest =>
    clear HC2
    try clear p2
    try clear c3
    try clear c3b0
    skip -- xfix
    obtain ⟨kq, x3_1, x4_1, rfl, rfl, HA, HJ1, ⟨mc1, rfl⟩⟩ := hcut
    cases kq with
    | zero => exact absurd HA.out (by simp [portmanteauref16_TimeText.j0])
    | succ kj1 =>
      have H := HA.out
      clear HA
      simp only [portmanteauref16_TimeText.j0] at H
      replace H := Option.bind_eq_some_iff.mp H
      obtain ⟨t486, A40, H⟩ := H
      replace H : (if x4_1.size + t486.size ≤ 9223372036854775807 then (if (Int.tmod x3_1 1000000000) = 0 then (some (x4_1 ++ t486)) else ((portmanteauref13_Digits.f kj1 (wrap64 (IntKind.u64.wrap ((Int.tmod x3_1 1000000000) + 1000000000)))).bind fun t487 => (if 1 ≤ (t487.size : Int) then (portmanteauref16_TimeText.l0 kj1 (x4_1 ++ t486) (t487.extract 1 t487.size)) else (none)))) else (none)) = some r := H
      have A4 := Aside0.mk A40
      clear A40
      by_cases c5 : x4_1.size + t486.size ≤ 9223372036854775807
      · rw [if_pos c5] at H
        have c5b0 := eq_true c5
        have c5b1 : decide (x4_1.size + t486.size ≤ 9223372036854775807) = true := decide_eq_true c5
        try have c5b2 : (9223372036854775807 < x4_1.size + t486.size) = False := eq_false (Nat.not_lt.2 c5)
        by_cases c6 : (Int.tmod x3_1 1000000000) = 0
        · rw [if_pos c6] at H
          have c6b0 : ((Int.tmod x3_1 1000000000) == 0) = true := beq_iff_eq.mpr c6
          have c6b1 : ((Int.tmod x3_1 1000000000) != 0) = false := bne_eq_false_iff_eq.mpr c6
          clear c6
          obtain rfl := Option.some.inj H
          go_wp2_with (first | ((with_reducible refine gate_callee (f := 50) rfl ?_); refine goesL_ (some 17) rfl rfl Tryd.func50 (by kernel_rfl) rfl #[.int .i64 (wrap64 (IntKind.u64.wrap (Int.tdiv x3_1 1000000000)))] rfl (by (try simp only [List.map_toArray, List.map_cons, List.map_nil]); first | done | rfl | (simp only [List.length_drop, List.length_take]; rfl) | (go_simp; done) | (go_simp; unfold wrap64; omega) | (go_simp; simp only [ByteArray.size_extract]; unfold wrap64; omega)) ?_; (with_reducible refine (portmanteauref13_Digits.calls kj1 (wrap64 (IntKind.u64.wrap (Int.tdiv x3_1 1000000000))) t486 _ A4.out).mono ?_); rintro e w' ⟨rfl, ⟨nd, rfl⟩⟩; refine ⟨_, rfl, ?_⟩))
          go_ret
          exact ⟨by first | rfl | (simp; done) | (simp [ba_mk_size]; done) | (simp [ba_bne, ba_beq]; done) | (simp [*]; done), by repeat (first | exact Drawn0.refl _ | apply Drawn0.step)⟩
        · rw [if_neg c6] at H
          have c6b0 : ((Int.tmod x3_1 1000000000) == 0) = false := beq_eq_false_iff_ne.mpr c6
          have c6b1 : ((Int.tmod x3_1 1000000000) != 0) = true := bne_iff_ne.mpr c6
          replace H := Option.bind_eq_some_iff.mp H
          obtain ⟨t487, A70, H⟩ := H
          replace H : (if 1 ≤ (t487.size : Int) then (portmanteauref16_TimeText.l0 kj1 (x4_1 ++ t486) (t487.extract 1 t487.size)) else (none)) = some r := H
          have A7 := Aside0.mk A70
          clear A70
          by_cases c8 : 1 ≤ (t487.size : Int)
          · rw [if_pos c8] at H
            have c8b0 := eq_true c8
            have c8b1 : decide (1 ≤ (t487.size : Int)) = true := decide_eq_true c8
            clear c8
            have H' := Aside0.mk H
            clear H
            go_wp2_with (first | ((with_reducible refine gate_callee (f := 50) rfl ?_); refine goesL_ (some 17) rfl rfl Tryd.func50 (by kernel_rfl) rfl #[.int .i64 (wrap64 (IntKind.u64.wrap (Int.tdiv x3_1 1000000000)))] rfl (by (try simp only [List.map_toArray, List.map_cons, List.map_nil]); first | done | rfl | (simp only [List.length_drop, List.length_take]; rfl) | (go_simp; done) | (go_simp; unfold wrap64; omega) | (go_simp; simp only [ByteArray.size_extract]; unfold wrap64; omega)) ?_; (with_reducible refine (portmanteauref13_Digits.calls kj1 (wrap64 (IntKind.u64.wrap (Int.tdiv x3_1 1000000000))) t486 _ A4.out).mono ?_); rintro e w' ⟨rfl, ⟨nd, rfl⟩⟩; refine ⟨_, rfl, ?_⟩) | ((with_reducible refine gate_callee (f := 50) rfl ?_); refine goesL_ (some 27) rfl rfl Tryd.func50 (by kernel_rfl) rfl #[.int .i64 (wrap64 (IntKind.u64.wrap ((Int.tmod x3_1 1000000000) + 1000000000)))] rfl (by (try simp only [List.map_toArray, List.map_cons, List.map_nil]); first | done | rfl | (simp only [List.length_drop, List.length_take]; rfl) | (go_simp; done) | (go_simp; unfold wrap64; omega) | (go_simp; simp only [ByteArray.size_extract]; unfold wrap64; omega)) ?_; (with_reducible refine (portmanteauref13_Digits.calls kj1 (wrap64 (IntKind.u64.wrap ((Int.tmod x3_1 1000000000) + 1000000000))) t487 _ A7.out).mono ?_); rintro e w' ⟨rfl, ⟨nd, rfl⟩⟩; refine ⟨_, rfl, ?_⟩))
            go_loopg [6] kj1 (fun kq v6 w' => ∃ (x6_2 : ByteArray), v6 = .string x6_2 ∧ Aside0 (portmanteauref16_TimeText.l0 kq (x4_1 ++ t486) x6_2 = some r) ∧ Aside0 (kq ≤ kj1) ∧ Drawn0 w w')
            case atStart => exact ⟨(t487.extract 1 t487.size), (by first | rfl | (simp; done) | (simp [ba_mk_size]; done) | (simp [ba_bne, ba_beq]; done) | (simp [*]; done)), H', ⟨Nat.le_refl _⟩, by repeat (first | exact Drawn0.refl _ | apply Drawn0.step)⟩
            case round =>
              clear H'
              try clear c1
              try clear p2
              try clear c3
              try clear c3b0
              try clear c5
              try clear c5b0
              try clear c5b1
              try clear c5b2
              try clear c6
              try clear c6b0
              try clear c6b1
              try clear p6
              try clear c8
              try clear c8b0
              try clear c8b1
              try clear p2
              skip -- xfix
              obtain ⟨x6_2, rfl, HA, HK2, ⟨m2, rfl⟩⟩ := hrel
              cases gk with
              | zero => exact absurd HA.out (by simp [portmanteauref16_TimeText.l0])
              | succ k2 =>
                have H := HA.out
                clear HA
                simp only [portmanteauref16_TimeText.l0] at H
                obtain ⟨ji9, hji9⟩ : ∃ j_ : Int, (wrap64 ((x6_2.size : Int) - 1)) = j_ := ⟨_, rfl⟩
                replace H : (if 0 ≤ (ji9) then (if (ji9) < (x6_2.size : Int) then (if (bt x6_2 (ji9)) = 48 then (if (ji9) ≤ (x6_2.size : Int) then (portmanteauref16_TimeText.l0 k2 (x4_1 ++ t486) (x6_2.extract 0 ((ji9) : Int).toNat)) else (none)) else (if (x4_1 ++ t486).size + 1 ≤ 9223372036854775807 then (if ((x4_1 ++ t486) ++ (⟨#[46]⟩ : ByteArray)).size + x6_2.size ≤ 9223372036854775807 then (some (((x4_1 ++ t486) ++ (⟨#[46]⟩ : ByteArray)) ++ x6_2)) else (none)) else (none))) else (none)) else (none)) = some r := by first | (rw [hji9] at H; exact H) | (simp only [hji9] at H ⊢; exact H)
                have hji9w : (IntKind.i64.wrap ((x6_2.size : Int) - 1)) = ji9 := (i64_w _).trans hji9
                by_cases c10 : 0 ≤ (ji9)
                · rw [if_pos c10] at H
                  have c10b0 : decide (0 ≤ (ji9)) = true := decide_eq_true c10
                  clear c10
                  by_cases c11 : (ji9) < (x6_2.size : Int)
                  · rw [if_pos c11] at H
                    have c11b0 : decide ((ji9) < (x6_2.size : Int)) = true := decide_eq_true c11
                    clear c11
                    by_cases c13 : (bt x6_2 (ji9)) = 48
                    · rw [if_pos c13] at H
                      have c13b0 : ((bt x6_2 (ji9)) == 48) = true := beq_iff_eq.mpr c13
                      have c13b1 : ((bt x6_2 (ji9)) != 48) = false := bne_eq_false_iff_eq.mpr c13
                      clear c13
                      have c14b0 := eq_true (of_decide_eq_true (by first | (with_reducible assumption) | assumption) : 0 ≤ (ji9))
                      by_cases c15 : (ji9) ≤ (x6_2.size : Int)
                      · rw [if_pos c15] at H
                        have c15b0 := eq_true c15
                        have c15b1 : decide ((ji9) ≤ (x6_2.size : Int)) = true := decide_eq_true c15
                        clear c15
                        have H' := Aside0.mk H
                        clear H
                        have p12 : 0 ≤ ((ji9) : Int) := of_decide_eq_true (by first | (with_reducible assumption) | assumption)
                        have q12 : (ji9) < (x6_2.size : Int) := of_decide_eq_true (by first | (with_reducible assumption) | assumption)
                        have hx12 := bt_at x6_2 (ji9)
                        replace p12 := eq_true p12
                        (try (have p12s := p12; simp only [ByteArray.size_append, ByteArray.size_extract, Int.natCast_add, Int.cast_ofNat_Int, Nat.reduceAdd, Nat.min_self, Nat.le_add_left, Nat.le_add_right, Nat.min_eq_left, Nat.min_eq_right, Nat.zero_add, Nat.sub_zero, ba_mk_size, List.length_cons, List.length_nil] at p12s)) -- xfix5
                        replace q12 := eq_true q12
                        (try (have q12s := q12; simp only [ByteArray.size_append, ByteArray.size_extract, Int.natCast_add, Int.cast_ofNat_Int, Nat.reduceAdd, Nat.min_self, Nat.le_add_left, Nat.le_add_right, Nat.min_eq_left, Nat.min_eq_right, Nat.zero_add, Nat.sub_zero, ba_mk_size, List.length_cons, List.length_nil] at q12s)) -- xfix5
                        go_wp2
                        go_roundg k2
                        case measure => have := HJ1.out; have := HK2.out; omega
                        case rel => exact ⟨(x6_2.extract 0 ((ji9) : Int).toNat), (by first | rfl | (simp; done) | (simp [ba_mk_size]; done) | (simp only [← hji9] <;> (first | rfl | simp)) | (simp [*]; done)), H', ⟨by have := HJ1.out; have := HK2.out; omega⟩, by repeat (first | exact Drawn0.refl _ | apply Drawn0.step)⟩
                      · rw [if_neg c15] at H
                        exact absurd H (by simp)
                    · rw [if_neg c13] at H
                      have c13b0 : ((bt x6_2 (ji9)) == 48) = false := beq_eq_false_iff_ne.mpr c13
                      have c13b1 : ((bt x6_2 (ji9)) != 48) = true := bne_iff_ne.mpr c13
                      by_cases c16 : (x4_1 ++ t486).size + 1 ≤ 9223372036854775807
                      · rw [if_pos c16] at H
                        have c16b0 := eq_true c16
                        (try (have c16b0s := c16b0; simp only [ByteArray.size_append, ByteArray.size_extract, Int.natCast_add, Int.cast_ofNat_Int, Nat.reduceAdd, Nat.min_self, Nat.le_add_left, Nat.le_add_right, Nat.min_eq_left, Nat.min_eq_right, Nat.zero_add, Nat.sub_zero, ba_mk_size, List.length_cons, List.length_nil] at c16b0s)) -- xfix5
                        have c16b1 : decide ((x4_1 ++ t486).size + 1 ≤ 9223372036854775807) = true := decide_eq_true c16
                        (try (have c16b1s := c16b1; simp only [ByteArray.size_append, ByteArray.size_extract, Int.natCast_add, Int.cast_ofNat_Int, Nat.reduceAdd, Nat.min_self, Nat.le_add_left, Nat.le_add_right, Nat.min_eq_left, Nat.min_eq_right, Nat.zero_add, Nat.sub_zero, ba_mk_size, List.length_cons, List.length_nil] at c16b1s)) -- xfix5
                        try have c16b2 : (9223372036854775807 < (x4_1 ++ t486).size + 1) = False := eq_false (Nat.not_lt.2 c16)
                        (try (have c16b2s := c16b2; simp only [ByteArray.size_append, ByteArray.size_extract, Int.natCast_add, Int.cast_ofNat_Int, Nat.reduceAdd, Nat.min_self, Nat.le_add_left, Nat.le_add_right, Nat.min_eq_left, Nat.min_eq_right, Nat.zero_add, Nat.sub_zero, ba_mk_size, List.length_cons, List.length_nil] at c16b2s)) -- xfix5
                        by_cases c17 : ((x4_1 ++ t486) ++ (⟨#[46]⟩ : ByteArray)).size + x6_2.size ≤ 9223372036854775807
                        · rw [if_pos c17] at H
                          have c17b0 := eq_true c17
                          (try (have c17b0s := c17b0; simp only [ByteArray.size_append, ByteArray.size_extract, Int.natCast_add, Int.cast_ofNat_Int, Nat.reduceAdd, Nat.min_self, Nat.le_add_left, Nat.le_add_right, Nat.min_eq_left, Nat.min_eq_right, Nat.zero_add, Nat.sub_zero, ba_mk_size, List.length_cons, List.length_nil] at c17b0s)) -- xfix5
                          have c17b1 : decide (((x4_1 ++ t486) ++ (⟨#[46]⟩ : ByteArray)).size + x6_2.size ≤ 9223372036854775807) = true := decide_eq_true c17
                          (try (have c17b1s := c17b1; simp only [ByteArray.size_append, ByteArray.size_extract, Int.natCast_add, Int.cast_ofNat_Int, Nat.reduceAdd, Nat.min_self, Nat.le_add_left, Nat.le_add_right, Nat.min_eq_left, Nat.min_eq_right, Nat.zero_add, Nat.sub_zero, ba_mk_size, List.length_cons, List.length_nil] at c17b1s)) -- xfix5
                          try have c17b2 : (9223372036854775807 < ((x4_1 ++ t486) ++ (⟨#[46]⟩ : ByteArray)).size + x6_2.size) = False := eq_false (Nat.not_lt.2 c17)
                          (try (have c17b2s := c17b2; simp only [ByteArray.size_append, ByteArray.size_extract, Int.natCast_add, Int.cast_ofNat_Int, Nat.reduceAdd, Nat.min_self, Nat.le_add_left, Nat.le_add_right, Nat.min_eq_left, Nat.min_eq_right, Nat.zero_add, Nat.sub_zero, ba_mk_size, List.length_cons, List.length_nil] at c17b2s)) -- xfix5
                          obtain rfl := Option.some.inj H
                          have p12 : 0 ≤ ((ji9) : Int) := of_decide_eq_true (by first | (with_reducible assumption) | assumption)
                          have q12 : (ji9) < (x6_2.size : Int) := of_decide_eq_true (by first | (with_reducible assumption) | assumption)
                          have hx12 := bt_at x6_2 (ji9)
                          replace p12 := eq_true p12
                          (try (have p12s := p12; simp only [ByteArray.size_append, ByteArray.size_extract, Int.natCast_add, Int.cast_ofNat_Int, Nat.reduceAdd, Nat.min_self, Nat.le_add_left, Nat.le_add_right, Nat.min_eq_left, Nat.min_eq_right, Nat.zero_add, Nat.sub_zero, ba_mk_size, List.length_cons, List.length_nil] at p12s)) -- xfix5
                          replace q12 := eq_true q12
                          (try (have q12s := q12; simp only [ByteArray.size_append, ByteArray.size_extract, Int.natCast_add, Int.cast_ofNat_Int, Nat.reduceAdd, Nat.min_self, Nat.le_add_left, Nat.le_add_right, Nat.min_eq_left, Nat.min_eq_right, Nat.zero_add, Nat.sub_zero, ba_mk_size, List.length_cons, List.length_nil] at q12s)) -- xfix5
                          go_wp2
                          go_ret
                          exact ⟨by first | rfl | (simp; done) | (simp [ba_mk_size]; done) | (simp only [← hji9] <;> (first | rfl | simp)) | (simp [*]; done), by repeat (first | exact Drawn0.refl _ | apply Drawn0.step)⟩
                        · rw [if_neg c17] at H
                          exact absurd H (by simp)
                      · rw [if_neg c16] at H
                        exact absurd H (by simp)
                  · rw [if_neg c11] at H
                    exact absurd H (by simp)
                · rw [if_neg c10] at H
                  exact absurd H (by simp)
          · rw [if_neg c8] at H
            exact absurd H (by simp)
      · rw [if_neg c5] at H
        exact absurd H (by simp)

end Go.Proofs.YtmmmmalicndkeaaDoor.X
