-- Printed by a program of this session (wip/tools/xprint.py) out of the translation.
import Derived.Test.YtmmmmalicndkeaaDoorX0
namespace Go.Proofs.YtmmmmalicndkeaaDoor.X
open Go.RowKit Go.Proofs.YtmmmmalicndkeaaDoorW.PrintWords Go.Proofs.YtmmmmalicndkeaaDoorW.PrintLast Go.Proofs.YtmmmmalicndkeaaDoorW.PrintMore
attribute [local go_sem] max2_int min2_int max_two min_two max_three min_three max_four min_four   -- for this text's walks alone
set_option linter.unusedVariables false
set_option linter.unusedSimpArgs false

/-! ### portmanteaulaw18_small: function 20 -/
def portmanteaulaw18_small.l0 : Nat → List (S42) → Int → Option (Bool)
  | 0, _, _ => none
  | k + 1, x0, x3 => if x3 < (x0.length : Int) then (if x3 ≥ 15 then (some false) else (if 0 ≤ x3 then (if (((rd_T42 x0 x3).f0).size : Int) > 300 then (some false) else (if (((rd_T42 x0 x3).f1).size : Int) > 300 then (some false) else (portmanteaulaw18_small.l0 k x0 (wrap64 (x3 + 1))))) else (none))) else (some true)
def portmanteaulaw18_small.f (k : Nat) (l0 : List (S42)) : Option (Bool) := portmanteaulaw18_small.l0 k l0 0
theorem portmanteaulaw18_small.mono_l : ∀ k, (∀ y0 y1, LeO (portmanteaulaw18_small.l0 k y0 y1) (portmanteaulaw18_small.l0 (k + 1) y0 y1))
  | 0 => fun _ _ r h => by simp [portmanteaulaw18_small.l0] at h
  | k + 1 => by
    have ih0 := portmanteaulaw18_small.mono_l k
    · intro y0 y1
      unfold portmanteaulaw18_small.l0
      repeat' first
      | (with_reducible exact ih0 _ _)
      | (with_reducible exact LeO.refl _)
      | (with_reducible exact LeO.none _)
      | (with_reducible refine LeO.ite ?_ ?_)
      | (with_reducible refine LeO.bind ?_ (fun _ => ?_))
      | exact ih0 _ _
      | exact LeO.none _
      | refine LeO.ite ?_ ?_
      | refine LeO.bind ?_ (fun _ => ?_)
theorem portmanteaulaw18_small.mono : ∀ a0 k, LeO (portmanteaulaw18_small.f k a0) (portmanteaulaw18_small.f (k + 1) a0) := by
  intro a0 k
  have ih0 := portmanteaulaw18_small.mono_l k
  unfold portmanteaulaw18_small.f
  repeat' first
      | (with_reducible exact ih0 _ _)
      | (with_reducible exact LeO.refl _)
      | (with_reducible exact LeO.none _)
      | (with_reducible refine LeO.ite ?_ ?_)
      | (with_reducible refine LeO.bind ?_ (fun _ => ?_))
      | exact ih0 _ _
      | exact LeO.none _
      | refine LeO.ite ?_ ?_
      | refine LeO.bind ?_ (fun _ => ?_)
set_option maxHeartbeats 8000000 in
set_option maxRecDepth 100000 in
theorem portmanteaulaw18_small.calls (k : Nat) (A0 : Option Addr) (c0 : Nat) (l0 : List (S42)) (r : Bool) (w : World) (hr0 : Kd.C k42 w A0 l0.length l0) (hc0 : l0.length ≤ c0) (h : portmanteaulaw18_small.f k l0 = some r) :
    Calls Tryd.prog 20 #[.slice A0 l0.length c0] w fun e w' => e = .returned (.bool r) ∧ Drawn0 w w' := by
  have HR0 := Aside0.mk hr0
  have HC0 := Aside0.mk hc0
  clear hr0 hc0
  have H : (portmanteaulaw18_small.l0 k l0 0) = some r := h
  clear h
  have H' := Aside0.mk H
  clear H
  go_enter Tryd.func20, Tryd.ntmps20
  go_wp2
  go_loopg [3] k (fun kq v3 w' => ∃ (x3_1 : Int), v3 = .int .i64 x3_1 ∧ Aside0 (portmanteaulaw18_small.l0 kq l0 x3_1 = some r) ∧ Aside0 (kq ≤ k) ∧ Drawn0 w w')
  case atStart => exact ⟨(0), (by first | rfl | (simp; done) | (simp [ba_mk_size]; done) | (simp [ba_bne, ba_beq]; done) | (simp [*]; done)), H', ⟨Nat.le_refl _⟩, by repeat (first | exact Drawn0.refl _ | apply Drawn0.step)⟩
  case round =>
    clear H'
    skip -- xfix
    obtain ⟨x3_1, rfl, HA, HK1, ⟨m1, rfl⟩⟩ := hrel
    cases gk with
    | zero => exact absurd HA.out (by simp [portmanteaulaw18_small.l0])
    | succ k1 =>
      have H := HA.out
      clear HA
      simp only [portmanteaulaw18_small.l0] at H
      by_cases c2 : x3_1 < (l0.length : Int)
      · rw [if_pos c2] at H
        have c2b0 : decide (x3_1 < (l0.length : Int)) = true := decide_eq_true c2
        clear c2
        by_cases c3 : x3_1 ≥ 15
        · rw [if_pos c3] at H
          have c3b0 : decide (15 ≤ x3_1) = true := decide_eq_true c3
          clear c3
          obtain rfl := Option.some.inj H
          go_wp2
          go_ret
          exact ⟨by first | rfl | (simp; done) | (simp [ba_mk_size]; done) | (simp [ba_bne, ba_beq]; done) | (simp [*]; done), by repeat (first | exact Drawn0.refl _ | apply Drawn0.step)⟩
        · rw [if_neg c3] at H
          have c3b0 : decide (15 ≤ x3_1) = false := decide_eq_false c3
          clear c3
          by_cases c4 : 0 ≤ x3_1
          · rw [if_pos c4] at H
            have c4b0 : decide (0 ≤ x3_1) = true := decide_eq_true c4
            clear c4
            by_cases c5 : (((rd_T42 l0 x3_1).f0).size : Int) > 300
            · rw [if_pos c5] at H
              have c5b0 : decide (300 < (((rd_T42 l0 x3_1).f0).size : Int)) = true := decide_eq_true c5
              have c5b1 : decide (300 < ((rd_T42 l0 x3_1).f0).size) = true := decide_eq_true (by omega)
              clear c5
              obtain rfl := Option.some.inj H
              have p244 : 0 ≤ (x3_1 : Int) := of_decide_eq_true (by first | (with_reducible assumption) | assumption)
              have q244 : x3_1 < (l0.length : Int) := of_decide_eq_true (by first | (with_reducible assumption) | assumption)
              obtain ⟨ad244, e244, hx244_0, hx244_1⟩ := at_T42 HR0.out x3_1 p244 q244
              cases e244
              replace p244 := eq_true p244
              (try (have p244s := p244; simp only [ByteArray.size_append, ByteArray.size_extract, Int.natCast_add, Int.cast_ofNat_Int, Nat.reduceAdd, Nat.min_self, Nat.le_add_left, Nat.le_add_right, Nat.min_eq_left, Nat.min_eq_right, Nat.zero_add, Nat.sub_zero, ba_mk_size, List.length_cons, List.length_nil] at p244s)) -- xfix5
              replace q244 := eq_true q244
              (try (have q244s := q244; simp only [ByteArray.size_append, ByteArray.size_extract, Int.natCast_add, Int.cast_ofNat_Int, Nat.reduceAdd, Nat.min_self, Nat.le_add_left, Nat.le_add_right, Nat.min_eq_left, Nat.min_eq_right, Nat.zero_add, Nat.sub_zero, ba_mk_size, List.length_cons, List.length_nil] at q244s)) -- xfix5
              go_wp2
              go_ret
              exact ⟨by first | rfl | (simp; done) | (simp [ba_mk_size]; done) | (simp [ba_bne, ba_beq]; done) | (simp [*]; done), by repeat (first | exact Drawn0.refl _ | apply Drawn0.step)⟩
            · rw [if_neg c5] at H
              have c5b0 : decide (300 < (((rd_T42 l0 x3_1).f0).size : Int)) = false := decide_eq_false c5
              have c5b1 : decide (300 < ((rd_T42 l0 x3_1).f0).size) = false := decide_eq_false (by omega)
              clear c5
              by_cases c6 : (((rd_T42 l0 x3_1).f1).size : Int) > 300
              · rw [if_pos c6] at H
                have c6b0 : decide (300 < (((rd_T42 l0 x3_1).f1).size : Int)) = true := decide_eq_true c6
                have c6b1 : decide (300 < ((rd_T42 l0 x3_1).f1).size) = true := decide_eq_true (by omega)
                clear c6
                obtain rfl := Option.some.inj H
                have p244 : 0 ≤ (x3_1 : Int) := of_decide_eq_true (by first | (with_reducible assumption) | assumption)
                have q244 : x3_1 < (l0.length : Int) := of_decide_eq_true (by first | (with_reducible assumption) | assumption)
                obtain ⟨ad244, e244, hx244_0, hx244_1⟩ := at_T42 HR0.out x3_1 p244 q244
                cases e244
                replace p244 := eq_true p244
                (try (have p244s := p244; simp only [ByteArray.size_append, ByteArray.size_extract, Int.natCast_add, Int.cast_ofNat_Int, Nat.reduceAdd, Nat.min_self, Nat.le_add_left, Nat.le_add_right, Nat.min_eq_left, Nat.min_eq_right, Nat.zero_add, Nat.sub_zero, ba_mk_size, List.length_cons, List.length_nil] at p244s)) -- xfix5
                replace q244 := eq_true q244
                (try (have q244s := q244; simp only [ByteArray.size_append, ByteArray.size_extract, Int.natCast_add, Int.cast_ofNat_Int, Nat.reduceAdd, Nat.min_self, Nat.le_add_left, Nat.le_add_right, Nat.min_eq_left, Nat.min_eq_right, Nat.zero_add, Nat.sub_zero, ba_mk_size, List.length_cons, List.length_nil] at q244s)) -- xfix5
                have p245 : 0 ≤ (x3_1 : Int) := of_decide_eq_true (by first | (with_reducible assumption) | assumption)
                have q245 : x3_1 < (l0.length : Int) := of_decide_eq_true (by first | (with_reducible assumption) | assumption)
                obtain ⟨ad245, e245, hx245_0, hx245_1⟩ := at_T42 HR0.out x3_1 p245 q245
                obtain rfl : ad244 = ad245 := (by injection e245)
                replace p245 := eq_true p245
                (try (have p245s := p245; simp only [ByteArray.size_append, ByteArray.size_extract, Int.natCast_add, Int.cast_ofNat_Int, Nat.reduceAdd, Nat.min_self, Nat.le_add_left, Nat.le_add_right, Nat.min_eq_left, Nat.min_eq_right, Nat.zero_add, Nat.sub_zero, ba_mk_size, List.length_cons, List.length_nil] at p245s)) -- xfix5
                replace q245 := eq_true q245
                (try (have q245s := q245; simp only [ByteArray.size_append, ByteArray.size_extract, Int.natCast_add, Int.cast_ofNat_Int, Nat.reduceAdd, Nat.min_self, Nat.le_add_left, Nat.le_add_right, Nat.min_eq_left, Nat.min_eq_right, Nat.zero_add, Nat.sub_zero, ba_mk_size, List.length_cons, List.length_nil] at q245s)) -- xfix5
                go_wp2
                go_ret
                exact ⟨by first | rfl | (simp; done) | (simp [ba_mk_size]; done) | (simp [ba_bne, ba_beq]; done) | (simp [*]; done), by repeat (first | exact Drawn0.refl _ | apply Drawn0.step)⟩
              · rw [if_neg c6] at H
                have c6b0 : decide (300 < (((rd_T42 l0 x3_1).f1).size : Int)) = false := decide_eq_false c6
                have c6b1 : decide (300 < ((rd_T42 l0 x3_1).f1).size) = false := decide_eq_false (by omega)
                clear c6
                have H' := Aside0.mk H
                clear H
                have p244 : 0 ≤ (x3_1 : Int) := of_decide_eq_true (by first | (with_reducible assumption) | assumption)
                have q244 : x3_1 < (l0.length : Int) := of_decide_eq_true (by first | (with_reducible assumption) | assumption)
                obtain ⟨ad244, e244, hx244_0, hx244_1⟩ := at_T42 HR0.out x3_1 p244 q244
                cases e244
                replace p244 := eq_true p244
                (try (have p244s := p244; simp only [ByteArray.size_append, ByteArray.size_extract, Int.natCast_add, Int.cast_ofNat_Int, Nat.reduceAdd, Nat.min_self, Nat.le_add_left, Nat.le_add_right, Nat.min_eq_left, Nat.min_eq_right, Nat.zero_add, Nat.sub_zero, ba_mk_size, List.length_cons, List.length_nil] at p244s)) -- xfix5
                replace q244 := eq_true q244
                (try (have q244s := q244; simp only [ByteArray.size_append, ByteArray.size_extract, Int.natCast_add, Int.cast_ofNat_Int, Nat.reduceAdd, Nat.min_self, Nat.le_add_left, Nat.le_add_right, Nat.min_eq_left, Nat.min_eq_right, Nat.zero_add, Nat.sub_zero, ba_mk_size, List.length_cons, List.length_nil] at q244s)) -- xfix5
                have p245 : 0 ≤ (x3_1 : Int) := of_decide_eq_true (by first | (with_reducible assumption) | assumption)
                have q245 : x3_1 < (l0.length : Int) := of_decide_eq_true (by first | (with_reducible assumption) | assumption)
                obtain ⟨ad245, e245, hx245_0, hx245_1⟩ := at_T42 HR0.out x3_1 p245 q245
                obtain rfl : ad244 = ad245 := (by injection e245)
                replace p245 := eq_true p245
                (try (have p245s := p245; simp only [ByteArray.size_append, ByteArray.size_extract, Int.natCast_add, Int.cast_ofNat_Int, Nat.reduceAdd, Nat.min_self, Nat.le_add_left, Nat.le_add_right, Nat.min_eq_left, Nat.min_eq_right, Nat.zero_add, Nat.sub_zero, ba_mk_size, List.length_cons, List.length_nil] at p245s)) -- xfix5
                replace q245 := eq_true q245
                (try (have q245s := q245; simp only [ByteArray.size_append, ByteArray.size_extract, Int.natCast_add, Int.cast_ofNat_Int, Nat.reduceAdd, Nat.min_self, Nat.le_add_left, Nat.le_add_right, Nat.min_eq_left, Nat.min_eq_right, Nat.zero_add, Nat.sub_zero, ba_mk_size, List.length_cons, List.length_nil] at q245s)) -- xfix5
                go_wp2
                go_roundg k1
                case measure => have := HK1.out; omega
                case rel => exact ⟨(wrap64 (x3_1 + 1)), (by first | rfl | (simp; done) | (simp [ba_mk_size]; done) | (simp [ba_bne, ba_beq]; done) | (simp [*]; done)), H', ⟨by have := HK1.out; omega⟩, by repeat (first | exact Drawn0.refl _ | apply Drawn0.step)⟩
          · rw [if_neg c4] at H
            exact absurd H (by simp)
      · rw [if_neg c2] at H
        have c2b0 : decide (x3_1 < (l0.length : Int)) = false := decide_eq_false c2
        clear c2
        obtain rfl := Option.some.inj H
        go_wp2
        go_ret
        exact ⟨by first | rfl | (simp; done) | (simp [ba_mk_size]; done) | (simp [ba_bne, ba_beq]; done) | (simp [*]; done), by repeat (first | exact Drawn0.refl _ | apply Drawn0.step)⟩

end Go.Proofs.YtmmmmalicndkeaaDoor.X
