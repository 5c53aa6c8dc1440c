-- Printed by a program of this session (wip/tools/xprint.py) out of the translation.
import Derived.Test.YtmmmmalicndkeaaDoorX0
namespace Go.Proofs.YtmmmmalicndkeaaDoor.X
open Go.RowKit Go.Proofs.YtmmmmalicndkeaaDoorW.PrintWords Go.Proofs.YtmmmmalicndkeaaDoorW.PrintLast Go.Proofs.YtmmmmalicndkeaaDoorW.PrintMore
attribute [local go_sem] max2_int min2_int max_two min_two max_three min_three max_four min_four   -- for this text's walks alone
set_option linter.unusedVariables false
set_option linter.unusedSimpArgs false

/-! ### pax_Get: function 32 -/
def pax_Get.l0 : Nat → List (S42) → ByteArray → Int → Option (ByteArray × Bool)
  | 0, _, _, _ => none
  | k + 1, x0, x1, x6 => if x6 ≥ 0 then (if 0 ≤ x6 then (if x6 < (x0.length : Int) then (if ((rd_T42 x0 x6).f0).toList = x1.toList then (some ((rd_T42 x0 x6).f1, (((rd_T42 x0 x6).f1).toList != ([] : List UInt8)))) else (pax_Get.l0 k x0 x1 (wrap64 (x6 - 1)))) else (none)) else (none)) else (some ((⟨#[]⟩ : ByteArray), false))
def pax_Get.f (k : Nat) (l0 : List (S42)) (a1 : ByteArray) : Option (ByteArray × Bool) := pax_Get.l0 k l0 a1 (wrap64 ((l0.length : Int) - 1))
theorem pax_Get.mono_l : ∀ k, (∀ y0 y1 y2, LeO (pax_Get.l0 k y0 y1 y2) (pax_Get.l0 (k + 1) y0 y1 y2))
  | 0 => fun _ _ _ r h => by simp [pax_Get.l0] at h
  | k + 1 => by
    have ih0 := pax_Get.mono_l k
    · intro y0 y1 y2
      unfold pax_Get.l0
      repeat' first
      | (with_reducible exact ih0 _ _ _)
      | (with_reducible exact LeO.refl _)
      | (with_reducible exact LeO.none _)
      | (with_reducible refine LeO.ite ?_ ?_)
      | (with_reducible refine LeO.bind ?_ (fun _ => ?_))
      | exact ih0 _ _ _
      | exact LeO.none _
      | refine LeO.ite ?_ ?_
      | refine LeO.bind ?_ (fun _ => ?_)
theorem pax_Get.mono : ∀ a0 a1 k, LeO (pax_Get.f k a0 a1) (pax_Get.f (k + 1) a0 a1) := by
  intro a0 a1 k
  have ih0 := pax_Get.mono_l k
  unfold pax_Get.f
  repeat' first
      | (with_reducible exact ih0 _ _ _)
      | (with_reducible exact LeO.refl _)
      | (with_reducible exact LeO.none _)
      | (with_reducible refine LeO.ite ?_ ?_)
      | (with_reducible refine LeO.bind ?_ (fun _ => ?_))
      | exact ih0 _ _ _
      | exact LeO.none _
      | refine LeO.ite ?_ ?_
      | refine LeO.bind ?_ (fun _ => ?_)
set_option maxHeartbeats 8000000 in
set_option maxRecDepth 100000 in
theorem pax_Get.calls (k : Nat) (A0 : Option Addr) (c0 : Nat) (l0 : List (S42)) (a1 : ByteArray) (r1 : ByteArray) (r2 : Bool) (w : World) (hr0 : Kd.C k42 w A0 l0.length l0) (hc0 : l0.length ≤ c0) (h : pax_Get.f k l0 a1 = some (r1, r2)) :
    Calls Tryd.prog 32 #[.slice A0 l0.length c0, .string a1] w fun e w' => e = .returned (.tuple #[.string r1, .bool r2]) ∧ Drawn0 w w' := by
  have HR0 := Aside0.mk hr0
  have HC0 := Aside0.mk hc0
  clear hr0 hc0
  have H : (pax_Get.l0 k l0 a1 (wrap64 ((l0.length : Int) - 1))) = some (r1, r2) := h
  clear h
  have H' := Aside0.mk H
  clear H
  go_enter Tryd.func32, Tryd.ntmps32
  go_wp2
  repeat (go_quiet (fail); try go_wp2)
  go_loopg [6] k (fun kq v6 w' => ∃ (x6_1 : Int), v6 = .int .i64 x6_1 ∧ Aside0 (pax_Get.l0 kq l0 a1 x6_1 = some (r1, r2)) ∧ Aside0 (kq ≤ k) ∧ Drawn0 w w')
  case atStart => exact ⟨(wrap64 ((l0.length : Int) - 1)), (by first | rfl | (simp; done) | (simp [ba_mk_size]; done) | (simp [ba_bne, ba_beq]; done) | (simp [*]; done)), H', ⟨Nat.le_refl _⟩, by repeat (first | exact Drawn0.refl _ | apply Drawn0.step)⟩
  case round =>
    clear H'
    try clear p2
    skip -- xfix
    obtain ⟨x6_1, rfl, HA, HK1, ⟨m1, rfl⟩⟩ := hrel
    cases gk with
    | zero => exact absurd HA.out (by simp [pax_Get.l0])
    | succ k1 =>
      have H := HA.out
      clear HA
      simp only [pax_Get.l0] at H
      by_cases c3 : x6_1 ≥ 0
      · rw [if_pos c3] at H
        have c3b0 : decide (0 ≤ x6_1) = true := decide_eq_true c3
        clear c3
        by_cases c4 : 0 ≤ x6_1
        · rw [if_pos c4] at H
          have c4b0 : decide (0 ≤ x6_1) = true := decide_eq_true c4
          clear c4
          by_cases c5 : x6_1 < (l0.length : Int)
          · rw [if_pos c5] at H
            have c5b0 : decide (x6_1 < (l0.length : Int)) = true := decide_eq_true c5
            clear c5
            by_cases c6 : ((rd_T42 l0 x6_1).f0).toList = a1.toList
            · rw [if_pos c6] at H
              have c6b0 : (((rd_T42 l0 x6_1).f0).toList == a1.toList) = true := beq_iff_eq.mpr c6
              have c6b1 : (((rd_T42 l0 x6_1).f0).toList != a1.toList) = false := bne_eq_false_iff_eq.mpr c6
              clear c6
              simp only [Option.some.injEq, Prod.mk.injEq] at H
              obtain ⟨rfl, rfl⟩ := H
              have p509 : 0 ≤ (x6_1 : Int) := of_decide_eq_true (by first | (with_reducible assumption) | assumption)
              have q509 : x6_1 < (l0.length : Int) := of_decide_eq_true (by first | (with_reducible assumption) | assumption)
              obtain ⟨ad509, e509, hx509_0, hx509_1⟩ := at_T42 HR0.out x6_1 p509 q509
              cases e509
              replace p509 := eq_true p509
              (try (have p509s := p509; simp only [ByteArray.size_append, ByteArray.size_extract, Int.natCast_add, Int.cast_ofNat_Int, Nat.reduceAdd, Nat.min_self, Nat.le_add_left, Nat.le_add_right, Nat.min_eq_left, Nat.min_eq_right, Nat.zero_add, Nat.sub_zero, ba_mk_size, List.length_cons, List.length_nil] at p509s)) -- xfix5
              replace q509 := eq_true q509
              (try (have q509s := q509; simp only [ByteArray.size_append, ByteArray.size_extract, Int.natCast_add, Int.cast_ofNat_Int, Nat.reduceAdd, Nat.min_self, Nat.le_add_left, Nat.le_add_right, Nat.min_eq_left, Nat.min_eq_right, Nat.zero_add, Nat.sub_zero, ba_mk_size, List.length_cons, List.length_nil] at q509s)) -- xfix5
              have p510 : 0 ≤ (x6_1 : Int) := of_decide_eq_true (by first | (with_reducible assumption) | assumption)
              have q510 : x6_1 < (l0.length : Int) := of_decide_eq_true (by first | (with_reducible assumption) | assumption)
              obtain ⟨ad510, e510, hx510_0, hx510_1⟩ := at_T42 HR0.out x6_1 p510 q510
              obtain rfl : ad509 = ad510 := (by injection e510)
              replace p510 := eq_true p510
              (try (have p510s := p510; simp only [ByteArray.size_append, ByteArray.size_extract, Int.natCast_add, Int.cast_ofNat_Int, Nat.reduceAdd, Nat.min_self, Nat.le_add_left, Nat.le_add_right, Nat.min_eq_left, Nat.min_eq_right, Nat.zero_add, Nat.sub_zero, ba_mk_size, List.length_cons, List.length_nil] at p510s)) -- xfix5
              replace q510 := eq_true q510
              (try (have q510s := q510; simp only [ByteArray.size_append, ByteArray.size_extract, Int.natCast_add, Int.cast_ofNat_Int, Nat.reduceAdd, Nat.min_self, Nat.le_add_left, Nat.le_add_right, Nat.min_eq_left, Nat.min_eq_right, Nat.zero_add, Nat.sub_zero, ba_mk_size, List.length_cons, List.length_nil] at q510s)) -- xfix5
              have p511 : 0 ≤ (x6_1 : Int) := of_decide_eq_true (by first | (with_reducible assumption) | assumption)
              have q511 : x6_1 < (l0.length : Int) := of_decide_eq_true (by first | (with_reducible assumption) | assumption)
              obtain ⟨ad511, e511, hx511_0, hx511_1⟩ := at_T42 HR0.out x6_1 p511 q511
              obtain rfl : ad509 = ad511 := (by injection e511)
              replace p511 := eq_true p511
              (try (have p511s := p511; simp only [ByteArray.size_append, ByteArray.size_extract, Int.natCast_add, Int.cast_ofNat_Int, Nat.reduceAdd, Nat.min_self, Nat.le_add_left, Nat.le_add_right, Nat.min_eq_left, Nat.min_eq_right, Nat.zero_add, Nat.sub_zero, ba_mk_size, List.length_cons, List.length_nil] at p511s)) -- xfix5
              replace q511 := eq_true q511
              (try (have q511s := q511; simp only [ByteArray.size_append, ByteArray.size_extract, Int.natCast_add, Int.cast_ofNat_Int, Nat.reduceAdd, Nat.min_self, Nat.le_add_left, Nat.le_add_right, Nat.min_eq_left, Nat.min_eq_right, Nat.zero_add, Nat.sub_zero, ba_mk_size, List.length_cons, List.length_nil] at q511s)) -- xfix5
              go_wp2
              repeat (go_quiet (fail); try go_wp2)
              go_ret2
              exact ⟨by first | rfl | (simp; done) | (simp [ba_mk_size]; done) | (simp [ba_bne, ba_beq]; done) | (simp [*]; done), by repeat (first | exact Drawn0.refl _ | apply Drawn0.step)⟩
            · rw [if_neg c6] at H
              have c6b0 : (((rd_T42 l0 x6_1).f0).toList == a1.toList) = false := beq_eq_false_iff_ne.mpr c6
              have c6b1 : (((rd_T42 l0 x6_1).f0).toList != a1.toList) = true := bne_iff_ne.mpr c6
              have H' := Aside0.mk H
              clear H
              have p509 : 0 ≤ (x6_1 : Int) := of_decide_eq_true (by first | (with_reducible assumption) | assumption)
              have q509 : x6_1 < (l0.length : Int) := of_decide_eq_true (by first | (with_reducible assumption) | assumption)
              obtain ⟨ad509, e509, hx509_0, hx509_1⟩ := at_T42 HR0.out x6_1 p509 q509
              cases e509
              replace p509 := eq_true p509
              (try (have p509s := p509; simp only [ByteArray.size_append, ByteArray.size_extract, Int.natCast_add, Int.cast_ofNat_Int, Nat.reduceAdd, Nat.min_self, Nat.le_add_left, Nat.le_add_right, Nat.min_eq_left, Nat.min_eq_right, Nat.zero_add, Nat.sub_zero, ba_mk_size, List.length_cons, List.length_nil] at p509s)) -- xfix5
              replace q509 := eq_true q509
              (try (have q509s := q509; simp only [ByteArray.size_append, ByteArray.size_extract, Int.natCast_add, Int.cast_ofNat_Int, Nat.reduceAdd, Nat.min_self, Nat.le_add_left, Nat.le_add_right, Nat.min_eq_left, Nat.min_eq_right, Nat.zero_add, Nat.sub_zero, ba_mk_size, List.length_cons, List.length_nil] at q509s)) -- xfix5
              go_wp2
              repeat (go_quiet (fail); try go_wp2)
              go_roundg k1
              case measure => have := HK1.out; omega
              case rel => exact ⟨(wrap64 (x6_1 - 1)), (by first | rfl | (simp; done) | (simp [ba_mk_size]; done) | (simp [ba_bne, ba_beq]; done) | (simp [*]; done)), H', ⟨by have := HK1.out; omega⟩, by repeat (first | exact Drawn0.refl _ | apply Drawn0.step)⟩
          · rw [if_neg c5] at H
            exact absurd H (by simp)
        · rw [if_neg c4] at H
          exact absurd H (by simp)
      · rw [if_neg c3] at H
        have c3b0 : decide (0 ≤ x6_1) = false := decide_eq_false c3
        clear c3
        simp only [Option.some.injEq, Prod.mk.injEq] at H
        obtain ⟨rfl, rfl⟩ := H
        go_wp2
        repeat (go_quiet (fail); try go_wp2)
        go_ret2
        exact ⟨by first | rfl | (simp; done) | (simp [ba_mk_size]; done) | (simp [ba_bne, ba_beq]; done) | (simp [*]; done), by repeat (first | exact Drawn0.refl _ | apply Drawn0.step)⟩

end Go.Proofs.YtmmmmalicndkeaaDoor.X
