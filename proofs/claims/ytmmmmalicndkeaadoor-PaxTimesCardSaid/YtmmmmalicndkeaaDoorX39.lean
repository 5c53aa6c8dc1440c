-- Printed by a program of this session (wip/tools/xprint.py) out of the translation.
import Derived.Test.YtmmmmalicndkeaaDoorX0
namespace Go.Proofs.YtmmmmalicndkeaaDoor.X
open Go.RowKit Go.Proofs.YtmmmmalicndkeaaDoorW.PrintWords Go.Proofs.YtmmmmalicndkeaaDoorW.PrintLast Go.Proofs.YtmmmmalicndkeaaDoorW.PrintMore
attribute [local go_sem] max2_int min2_int max_two min_two max_three min_three max_four min_four   -- for this text's walks alone
set_option linter.unusedVariables false
set_option linter.unusedSimpArgs false

/-! ### portmanteauref16_Time: function 31 -/
mutual
def portmanteauref16_Time.j0 : Nat → ByteArray → Bool → Option (Int × Bool)
  | 0, _, _ => none
  | k + 1, x0, x4 => if x4 = true then (if 1 ≤ (x0.size : Int) then (portmanteauref16_Time.j1 k (x0.extract 1 x0.size) x4) else (none)) else (portmanteauref16_Time.j1 k x0 x4)
def portmanteauref16_Time.j1 : Nat → ByteArray → Bool → Option (Int × Bool)
  | 0, _, _ => none
  | k + 1, x0, x4 => portmanteauref16_Time.l0 k x0 x4 0
def portmanteauref16_Time.j3 : Nat → ByteArray → Bool → Int → Option (Int × Bool)
  | 0, _, _, _ => none
  | k + 1, x0, x4, x5 => if 0 ≤ x5 then (if x5 ≤ (x0.size : Int) then (if x5 < (x0.size : Int) then (if 0 ≤ (wrap64 (x5 + 1)) then (if (wrap64 (x5 + 1)) ≤ (x0.size : Int) then (if (x0.extract ((wrap64 (x5 + 1)) : Int).toNat x0.size).toList = ([] : List UInt8) then (some (0, false)) else (if ((x0.extract ((wrap64 (x5 + 1)) : Int).toNat x0.size).size : Int) > 30 then (some (0, false)) else (portmanteauref16_Time.j4 k x4 (x0.extract 0 (x5 : Int).toNat) (x0.extract ((wrap64 (x5 + 1)) : Int).toNat x0.size)))) else (none)) else (none)) else (portmanteauref16_Time.j4 k x4 (x0.extract 0 (x5 : Int).toNat) (⟨#[]⟩ : ByteArray))) else (none)) else (none)
def portmanteauref16_Time.j4 : Nat → Bool → ByteArray → ByteArray → Option (Int × Bool)
  | 0, _, _, _ => none
  | k + 1, x4, x6, x7 => if x6.toList = ([] : List UInt8) then (portmanteauref16_Time.j5 k x4 x6 x7 true) else (portmanteauref16_Time.j5 k x4 x6 x7 (decide ((x6.size : Int) > 19)))
def portmanteauref16_Time.j5 : Nat → Bool → ByteArray → ByteArray → Bool → Option (Int × Bool)
  | 0, _, _, _, _ => none
  | k + 1, x4, x6, x7, x58 => if x58 = true then (some (0, false)) else (if x6.size + x7.size ≤ 9223372036854775807 then (portmanteauref16_Time.l1 k x4 x6 x7 (x6 ++ x7) 0) else (none))
def portmanteauref16_Time.l1 : Nat → Bool → ByteArray → ByteArray → ByteArray → Int → Option (Int × Bool)
  | 0, _, _, _, _, _ => none
  | k + 1, x4, x6, x7, x8, x9 => if x9 < (x8.size : Int) then (if 0 ≤ x9 then (if (bt x8 x9) < 48 then (some (0, false)) else (if (bt x8 x9) > 57 then (some (0, false)) else (portmanteauref16_Time.l1 k x4 x6 x7 x8 (wrap64 (x9 + 1))))) else (none)) else (if x7.size + 9 ≤ 9223372036854775807 then (if 0 ≤ 9 then (if 9 ≤ ((x7 ++ (⟨#[48, 48, 48, 48, 48, 48, 48, 48, 48]⟩ : ByteArray)).size : Int) then (if x6.size + ((x7 ++ (⟨#[48, 48, 48, 48, 48, 48, 48, 48, 48]⟩ : ByteArray)).extract 0 9).size ≤ 9223372036854775807 then (portmanteauref16_Time.l2 k x4 (x6 ++ ((x7 ++ (⟨#[48, 48, 48, 48, 48, 48, 48, 48, 48]⟩ : ByteArray)).extract 0 9)) 0 0) else (none)) else (none)) else (none)) else (none))
def portmanteauref16_Time.l2 : Nat → Bool → ByteArray → Int → Int → Option (Int × Bool)
  | 0, _, _, _, _ => none
  | k + 1, x4, x8, x10, x11 => if x11 < (x8.size : Int) then (if x10 > 922337203685477580 then (some (0, false)) else (if 0 ≤ x11 then (portmanteauref16_Time.l2 k x4 x8 (IntKind.u64.wrap ((IntKind.u64.wrap (10 * x10)) + (((bt x8 x11) - 48) % 256))) (wrap64 (x11 + 1))) else (none))) else (if x10 > 9223372036854775808 then (portmanteauref16_Time.j8 k x4 x10 true) else (if x4 = true then (portmanteauref16_Time.j8 k x4 x10 false) else (portmanteauref16_Time.j8 k x4 x10 (decide (x10 > 9223372036854775807)))))
def portmanteauref16_Time.j8 : Nat → Bool → Int → Bool → Option (Int × Bool)
  | 0, _, _, _ => none
  | k + 1, x4, x10, x108 => if x108 = true then (some (0, false)) else (if x4 = true then (some (wrap64 (IntKind.u64.wrap (-x10)), true)) else (some (wrap64 (x10), true)))
def portmanteauref16_Time.l0 : Nat → ByteArray → Bool → Int → Option (Int × Bool)
  | 0, _, _, _ => none
  | k + 1, x0, x4, x5 => if x5 < (x0.size : Int) then (if 0 ≤ x5 then (if (bt x0 x5) = 46 then (portmanteauref16_Time.j3 k x0 x4 x5) else (portmanteauref16_Time.l0 k x0 x4 (wrap64 (x5 + 1)))) else (none)) else (portmanteauref16_Time.j3 k x0 x4 x5)
end
def portmanteauref16_Time.f (k : Nat) (a0 : ByteArray) : Option (Int × Bool) := if a0.toList = ([] : List UInt8) then (portmanteauref16_Time.j0 k a0 false) else (if 0 < (a0.size : Int) then (portmanteauref16_Time.j0 k a0 ((bt a0 0) == 45)) else (none))
theorem portmanteauref16_Time.mono_l : ∀ k, (∀ y0 y1, LeO (portmanteauref16_Time.j0 k y0 y1) (portmanteauref16_Time.j0 (k + 1) y0 y1)) ∧ (∀ y0 y1, LeO (portmanteauref16_Time.j1 k y0 y1) (portmanteauref16_Time.j1 (k + 1) y0 y1)) ∧ (∀ y0 y1 y2, LeO (portmanteauref16_Time.j3 k y0 y1 y2) (portmanteauref16_Time.j3 (k + 1) y0 y1 y2)) ∧ (∀ y0 y1 y2, LeO (portmanteauref16_Time.j4 k y0 y1 y2) (portmanteauref16_Time.j4 (k + 1) y0 y1 y2)) ∧ (∀ y0 y1 y2 y3, LeO (portmanteauref16_Time.j5 k y0 y1 y2 y3) (portmanteauref16_Time.j5 (k + 1) y0 y1 y2 y3)) ∧ (∀ y0 y1 y2 y3 y4, LeO (portmanteauref16_Time.l1 k y0 y1 y2 y3 y4) (portmanteauref16_Time.l1 (k + 1) y0 y1 y2 y3 y4)) ∧ (∀ y0 y1 y2 y3, LeO (portmanteauref16_Time.l2 k y0 y1 y2 y3) (portmanteauref16_Time.l2 (k + 1) y0 y1 y2 y3)) ∧ (∀ y0 y1 y2, LeO (portmanteauref16_Time.j8 k y0 y1 y2) (portmanteauref16_Time.j8 (k + 1) y0 y1 y2)) ∧ (∀ y0 y1 y2, LeO (portmanteauref16_Time.l0 k y0 y1 y2) (portmanteauref16_Time.l0 (k + 1) y0 y1 y2))
  | 0 => ⟨fun _ _ r h => by simp [portmanteauref16_Time.j0] at h, fun _ _ r h => by simp [portmanteauref16_Time.j1] at h, fun _ _ _ r h => by simp [portmanteauref16_Time.j3] at h, fun _ _ _ r h => by simp [portmanteauref16_Time.j4] at h, fun _ _ _ _ r h => by simp [portmanteauref16_Time.j5] at h, fun _ _ _ _ _ r h => by simp [portmanteauref16_Time.l1] at h, fun _ _ _ _ r h => by simp [portmanteauref16_Time.l2] at h, fun _ _ _ r h => by simp [portmanteauref16_Time.j8] at h, fun _ _ _ r h => by simp [portmanteauref16_Time.l0] at h⟩
  | k + 1 => by
    obtain ⟨ih0, ih1, ih2, ih3, ih4, ih5, ih6, ih7, ih8⟩ := portmanteauref16_Time.mono_l k
    refine ⟨?_, ?_, ?_, ?_, ?_, ?_, ?_, ?_, ?_⟩
    · intro y0 y1
      unfold portmanteauref16_Time.j0
      repeat' first
      | (with_reducible exact ih0 _ _)
      | (with_reducible exact ih1 _ _)
      | (with_reducible exact ih2 _ _ _)
      | (with_reducible exact ih3 _ _ _)
      | (with_reducible exact ih4 _ _ _ _)
      | (with_reducible exact ih5 _ _ _ _ _)
      | (with_reducible exact ih6 _ _ _ _)
      | (with_reducible exact ih7 _ _ _)
      | (with_reducible exact ih8 _ _ _)
      | (with_reducible exact LeO.refl _)
      | (with_reducible exact LeO.none _)
      | (with_reducible refine LeO.ite ?_ ?_)
      | (with_reducible refine LeO.bind ?_ (fun _ => ?_))
      | exact ih0 _ _
      | exact ih1 _ _
      | exact ih2 _ _ _
      | exact ih3 _ _ _
      | exact ih4 _ _ _ _
      | exact ih5 _ _ _ _ _
      | exact ih6 _ _ _ _
      | exact ih7 _ _ _
      | exact ih8 _ _ _
      | exact LeO.none _
      | refine LeO.ite ?_ ?_
      | refine LeO.bind ?_ (fun _ => ?_)
    · intro y0 y1
      unfold portmanteauref16_Time.j1
      repeat' first
      | (with_reducible exact ih0 _ _)
      | (with_reducible exact ih1 _ _)
      | (with_reducible exact ih2 _ _ _)
      | (with_reducible exact ih3 _ _ _)
      | (with_reducible exact ih4 _ _ _ _)
      | (with_reducible exact ih5 _ _ _ _ _)
      | (with_reducible exact ih6 _ _ _ _)
      | (with_reducible exact ih7 _ _ _)
      | (with_reducible exact ih8 _ _ _)
      | (with_reducible exact LeO.refl _)
      | (with_reducible exact LeO.none _)
      | (with_reducible refine LeO.ite ?_ ?_)
      | (with_reducible refine LeO.bind ?_ (fun _ => ?_))
      | exact ih0 _ _
      | exact ih1 _ _
      | exact ih2 _ _ _
      | exact ih3 _ _ _
      | exact ih4 _ _ _ _
      | exact ih5 _ _ _ _ _
      | exact ih6 _ _ _ _
      | exact ih7 _ _ _
      | exact ih8 _ _ _
      | exact LeO.none _
      | refine LeO.ite ?_ ?_
      | refine LeO.bind ?_ (fun _ => ?_)
    · intro y0 y1 y2
      unfold portmanteauref16_Time.j3
      repeat' first
      | (with_reducible exact ih0 _ _)
      | (with_reducible exact ih1 _ _)
      | (with_reducible exact ih2 _ _ _)
      | (with_reducible exact ih3 _ _ _)
      | (with_reducible exact ih4 _ _ _ _)
      | (with_reducible exact ih5 _ _ _ _ _)
      | (with_reducible exact ih6 _ _ _ _)
      | (with_reducible exact ih7 _ _ _)
      | (with_reducible exact ih8 _ _ _)
      | (with_reducible exact LeO.refl _)
      | (with_reducible exact LeO.none _)
      | (with_reducible refine LeO.ite ?_ ?_)
      | (with_reducible refine LeO.bind ?_ (fun _ => ?_))
      | exact ih0 _ _
      | exact ih1 _ _
      | exact ih2 _ _ _
      | exact ih3 _ _ _
      | exact ih4 _ _ _ _
      | exact ih5 _ _ _ _ _
      | exact ih6 _ _ _ _
      | exact ih7 _ _ _
      | exact ih8 _ _ _
      | exact LeO.none _
      | refine LeO.ite ?_ ?_
      | refine LeO.bind ?_ (fun _ => ?_)
    · intro y0 y1 y2
      unfold portmanteauref16_Time.j4
      repeat' first
      | (with_reducible exact ih0 _ _)
      | (with_reducible exact ih1 _ _)
      | (with_reducible exact ih2 _ _ _)
      | (with_reducible exact ih3 _ _ _)
      | (with_reducible exact ih4 _ _ _ _)
      | (with_reducible exact ih5 _ _ _ _ _)
      | (with_reducible exact ih6 _ _ _ _)
      | (with_reducible exact ih7 _ _ _)
      | (with_reducible exact ih8 _ _ _)
      | (with_reducible exact LeO.refl _)
      | (with_reducible exact LeO.none _)
      | (with_reducible refine LeO.ite ?_ ?_)
      | (with_reducible refine LeO.bind ?_ (fun _ => ?_))
      | exact ih0 _ _
      | exact ih1 _ _
      | exact ih2 _ _ _
      | exact ih3 _ _ _
      | exact ih4 _ _ _ _
      | exact ih5 _ _ _ _ _
      | exact ih6 _ _ _ _
      | exact ih7 _ _ _
      | exact ih8 _ _ _
      | exact LeO.none _
      | refine LeO.ite ?_ ?_
      | refine LeO.bind ?_ (fun _ => ?_)
    · intro y0 y1 y2 y3
      unfold portmanteauref16_Time.j5
      repeat' first
      | (with_reducible exact ih0 _ _)
      | (with_reducible exact ih1 _ _)
      | (with_reducible exact ih2 _ _ _)
      | (with_reducible exact ih3 _ _ _)
      | (with_reducible exact ih4 _ _ _ _)
      | (with_reducible exact ih5 _ _ _ _ _)
      | (with_reducible exact ih6 _ _ _ _)
      | (with_reducible exact ih7 _ _ _)
      | (with_reducible exact ih8 _ _ _)
      | (with_reducible exact LeO.refl _)
      | (with_reducible exact LeO.none _)
      | (with_reducible refine LeO.ite ?_ ?_)
      | (with_reducible refine LeO.bind ?_ (fun _ => ?_))
      | exact ih0 _ _
      | exact ih1 _ _
      | exact ih2 _ _ _
      | exact ih3 _ _ _
      | exact ih4 _ _ _ _
      | exact ih5 _ _ _ _ _
      | exact ih6 _ _ _ _
      | exact ih7 _ _ _
      | exact ih8 _ _ _
      | exact LeO.none _
      | refine LeO.ite ?_ ?_
      | refine LeO.bind ?_ (fun _ => ?_)
    · intro y0 y1 y2 y3 y4
      unfold portmanteauref16_Time.l1
      repeat' first
      | (with_reducible exact ih0 _ _)
      | (with_reducible exact ih1 _ _)
      | (with_reducible exact ih2 _ _ _)
      | (with_reducible exact ih3 _ _ _)
      | (with_reducible exact ih4 _ _ _ _)
      | (with_reducible exact ih5 _ _ _ _ _)
      | (with_reducible exact ih6 _ _ _ _)
      | (with_reducible exact ih7 _ _ _)
      | (with_reducible exact ih8 _ _ _)
      | (with_reducible exact LeO.refl _)
      | (with_reducible exact LeO.none _)
      | (with_reducible refine LeO.ite ?_ ?_)
      | (with_reducible refine LeO.bind ?_ (fun _ => ?_))
      | exact ih0 _ _
      | exact ih1 _ _
      | exact ih2 _ _ _
      | exact ih3 _ _ _
      | exact ih4 _ _ _ _
      | exact ih5 _ _ _ _ _
      | exact ih6 _ _ _ _
      | exact ih7 _ _ _
      | exact ih8 _ _ _
      | exact LeO.none _
      | refine LeO.ite ?_ ?_
      | refine LeO.bind ?_ (fun _ => ?_)
    · intro y0 y1 y2 y3
      unfold portmanteauref16_Time.l2
      repeat' first
      | (with_reducible exact ih0 _ _)
      | (with_reducible exact ih1 _ _)
      | (with_reducible exact ih2 _ _ _)
      | (with_reducible exact ih3 _ _ _)
      | (with_reducible exact ih4 _ _ _ _)
      | (with_reducible exact ih5 _ _ _ _ _)
      | (with_reducible exact ih6 _ _ _ _)
      | (with_reducible exact ih7 _ _ _)
      | (with_reducible exact ih8 _ _ _)
      | (with_reducible exact LeO.refl _)
      | (with_reducible exact LeO.none _)
      | (with_reducible refine LeO.ite ?_ ?_)
      | (with_reducible refine LeO.bind ?_ (fun _ => ?_))
      | exact ih0 _ _
      | exact ih1 _ _
      | exact ih2 _ _ _
      | exact ih3 _ _ _
      | exact ih4 _ _ _ _
      | exact ih5 _ _ _ _ _
      | exact ih6 _ _ _ _
      | exact ih7 _ _ _
      | exact ih8 _ _ _
      | exact LeO.none _
      | refine LeO.ite ?_ ?_
      | refine LeO.bind ?_ (fun _ => ?_)
    · intro y0 y1 y2
      unfold portmanteauref16_Time.j8
      repeat' first
      | (with_reducible exact ih0 _ _)
      | (with_reducible exact ih1 _ _)
      | (with_reducible exact ih2 _ _ _)
      | (with_reducible exact ih3 _ _ _)
      | (with_reducible exact ih4 _ _ _ _)
      | (with_reducible exact ih5 _ _ _ _ _)
      | (with_reducible exact ih6 _ _ _ _)
      | (with_reducible exact ih7 _ _ _)
      | (with_reducible exact ih8 _ _ _)
      | (with_reducible exact LeO.refl _)
      | (with_reducible exact LeO.none _)
      | (with_reducible refine LeO.ite ?_ ?_)
      | (with_reducible refine LeO.bind ?_ (fun _ => ?_))
      | exact ih0 _ _
      | exact ih1 _ _
      | exact ih2 _ _ _
      | exact ih3 _ _ _
      | exact ih4 _ _ _ _
      | exact ih5 _ _ _ _ _
      | exact ih6 _ _ _ _
      | exact ih7 _ _ _
      | exact ih8 _ _ _
      | exact LeO.none _
      | refine LeO.ite ?_ ?_
      | refine LeO.bind ?_ (fun _ => ?_)
    · intro y0 y1 y2
      unfold portmanteauref16_Time.l0
      repeat' first
      | (with_reducible exact ih0 _ _)
      | (with_reducible exact ih1 _ _)
      | (with_reducible exact ih2 _ _ _)
      | (with_reducible exact ih3 _ _ _)
      | (with_reducible exact ih4 _ _ _ _)
      | (with_reducible exact ih5 _ _ _ _ _)
      | (with_reducible exact ih6 _ _ _ _)
      | (with_reducible exact ih7 _ _ _)
      | (with_reducible exact ih8 _ _ _)
      | (with_reducible exact LeO.refl _)
      | (with_reducible exact LeO.none _)
      | (with_reducible refine LeO.ite ?_ ?_)
      | (with_reducible refine LeO.bind ?_ (fun _ => ?_))
      | exact ih0 _ _
      | exact ih1 _ _
      | exact ih2 _ _ _
      | exact ih3 _ _ _
      | exact ih4 _ _ _ _
      | exact ih5 _ _ _ _ _
      | exact ih6 _ _ _ _
      | exact ih7 _ _ _
      | exact ih8 _ _ _
      | exact LeO.none _
      | refine LeO.ite ?_ ?_
      | refine LeO.bind ?_ (fun _ => ?_)
theorem portmanteauref16_Time.mono : ∀ a0 k, LeO (portmanteauref16_Time.f k a0) (portmanteauref16_Time.f (k + 1) a0) := by
  intro a0 k
  obtain ⟨ih0, ih1, ih2, ih3, ih4, ih5, ih6, ih7, ih8⟩ := portmanteauref16_Time.mono_l k
  unfold portmanteauref16_Time.f
  repeat' first
      | (with_reducible exact ih0 _ _)
      | (with_reducible exact ih1 _ _)
      | (with_reducible exact ih2 _ _ _)
      | (with_reducible exact ih3 _ _ _)
      | (with_reducible exact ih4 _ _ _ _)
      | (with_reducible exact ih5 _ _ _ _ _)
      | (with_reducible exact ih6 _ _ _ _)
      | (with_reducible exact ih7 _ _ _)
      | (with_reducible exact ih8 _ _ _)
      | (with_reducible exact LeO.refl _)
      | (with_reducible exact LeO.none _)
      | (with_reducible refine LeO.ite ?_ ?_)
      | (with_reducible refine LeO.bind ?_ (fun _ => ?_))
      | exact ih0 _ _
      | exact ih1 _ _
      | exact ih2 _ _ _
      | exact ih3 _ _ _
      | exact ih4 _ _ _ _
      | exact ih5 _ _ _ _ _
      | exact ih6 _ _ _ _
      | exact ih7 _ _ _
      | exact ih8 _ _ _
      | exact LeO.none _
      | refine LeO.ite ?_ ?_
      | refine LeO.bind ?_ (fun _ => ?_)
set_option maxHeartbeats 8000000 in
set_option maxRecDepth 100000 in
theorem portmanteauref16_Time.calls (k : Nat) (a0 : ByteArray) (r1 : Int) (r2 : Bool) (w : World) (h : portmanteauref16_Time.f k a0 = some (r1, r2)) :
    Calls Tryd.prog 31 #[.string a0] w fun e w' => e = .returned (.tuple #[.int .i64 r1, .bool r2]) ∧ Drawn0 w w' := by
  have H : (if a0.toList = ([] : List UInt8) then (portmanteauref16_Time.j0 k a0 false) else (if 0 < (a0.size : Int) then (portmanteauref16_Time.j0 k a0 ((bt a0 0) == 45)) else (none))) = some (r1, r2) := h
  clear h
  have HC2 := Aside0.mk H
  clear H
  go_enter Tryd.func31, Tryd.ntmps31
  go_upto_region 1 with (fail)
  go_cut [4] (fun v4 wc => ∃ (kq : Nat) (x4_1 : Bool), v4 = .bool x4_1 ∧ Aside0 (portmanteauref16_Time.j0 kq a0 x4_1 = some (r1, r2)) ∧ Aside0 (kq ≤ k) ∧ Drawn0 w wc)
  case first =>
    have H := HC2.out
    clear HC2
    by_cases c3 : a0.toList = ([] : List UInt8)
    · rw [if_pos c3] at H
      have c3b0 : (a0.toList == ([] : List UInt8)) = true := beq_iff_eq.mpr c3
      have c3b1 : (a0.toList != ([] : List UInt8)) = false := bne_eq_false_iff_eq.mpr c3
      clear c3
      (first | rw [c3b0] | (simp only [i64_w, i32_w]; rw [c3b0]) | skip)
      have H' := Aside0.mk H
      clear H
      go_wp2
      go_meet
      case rel => exact ⟨_, (false), (by first | rfl | (simp; done) | (simp [ba_mk_size]; done) | (simp [ba_bne, ba_beq]; done) | (simp [*]; done)), H', ⟨by first | omega | exact Nat.le_refl _⟩, by repeat (first | exact Drawn0.refl _ | apply Drawn0.step)⟩
    · rw [if_neg c3] at H
      have c3b0 : (a0.toList == ([] : List UInt8)) = false := beq_eq_false_iff_ne.mpr c3
      have c3b1 : (a0.toList != ([] : List UInt8)) = true := bne_iff_ne.mpr c3
      (first | rw [c3b0] | (simp only [i64_w, i32_w]; rw [c3b0]) | skip)
      by_cases c4 : 0 < (a0.size : Int)
      · rw [if_pos c4] at H
        have c4b0 : decide (0 < (a0.size : Int)) = true := decide_eq_true c4
        have c4b1 : decide (0 < a0.size) = true := decide_eq_true (by omega)
        clear c4
        have H' := Aside0.mk H
        clear H
        have p5 : 0 ≤ (0 : Int) := (by omega)
        have q5 : 0 < a0.size := (by have : (0 : Int) < (a0.size : Int) := of_decide_eq_true (by first | (with_reducible assumption) | assumption); omega)
        have hx5 : ∀ h : 0 < a0.size, ((a0[0]'h).toNat : Int) = bt a0 0 := bt_at a0 0
        clear p5
        have qi5 : (0 < (a0.size : Int)) = True := eq_true (of_decide_eq_true (by first | (with_reducible assumption) | assumption))
        replace q5 := eq_true q5
        (try (have q5s := q5; simp only [ByteArray.size_append, ByteArray.size_extract, Int.natCast_add, Int.cast_ofNat_Int, Nat.reduceAdd, Nat.min_self, Nat.le_add_left, Nat.le_add_right, Nat.min_eq_left, Nat.min_eq_right, Nat.zero_add, Nat.sub_zero, ba_mk_size, List.length_cons, List.length_nil] at q5s)) -- xfix5
        go_wp2
        go_meet
        case rel => exact ⟨_, (((bt a0 0) == 45)), (by first | rfl | (simp; done) | (simp [ba_mk_size]; done) | (simp [ba_bne, ba_beq]; done) | (simp [*]; done)), H', ⟨by first | omega | exact Nat.le_refl _⟩, by repeat (first | exact Drawn0.refl _ | apply Drawn0.step)⟩
      · rw [if_neg c4] at H
        exact absurd H (by simp)
  case rest =>
    clear HC2
    try clear p2
    try clear c3
    try clear c3b0
    try clear c3b1
    try clear c4
    try clear c4b0
    try clear c4b1
    try clear p5
    try clear q5
    try clear hx5
    try clear qi5
    try clear p5
    try clear q5
    skip -- xfix
    obtain ⟨kq, x4_1, rfl, HA, HJ1, ⟨mc1, rfl⟩⟩ := hcut
    cases kq with
    | zero => exact absurd HA.out (by simp [portmanteauref16_Time.j0])
    | succ kj1 =>
      have H := HA.out
      clear HA
      simp only [portmanteauref16_Time.j0] at H
      have HC6 := Aside0.mk H
      clear H
      go_upto_if 19 with (fail)
      go_cut [0] (fun v0 wc => ∃ (kq : Nat) (x0_5 : ByteArray), v0 = .string x0_5 ∧ Aside0 (portmanteauref16_Time.j1 kq x0_5 x4_1 = some (r1, r2)) ∧ Aside0 (kq ≤ kj1) ∧ Drawn0 w wc)
      case first =>
        have H := HC6.out
        clear HC6
        by_cases c7 : x4_1 = true
        · subst c7
          have H1 : (if 1 ≤ (a0.size : Int) then (portmanteauref16_Time.j1 kj1 (a0.extract 1 a0.size) true) else (none)) = some (r1, r2) := by rw [if_pos rfl] at H; exact H
          clear H
          have H := H1
          clear H1
          by_cases c8 : 1 ≤ (a0.size : Int)
          · rw [if_pos c8] at H
            have c8b0 := eq_true c8
            have c8b1 : decide (1 ≤ (a0.size : Int)) = true := decide_eq_true c8
            clear c8
            have H' := Aside0.mk H
            clear H
            go_wp2
            go_meet
            case rel => exact ⟨_, (a0.extract 1 a0.size), (by first | rfl | (simp; done) | (simp [ba_mk_size]; done) | (simp [ba_bne, ba_beq]; done) | (simp [*]; done)), H', ⟨by have := HJ1.out; first | omega | exact Nat.le_refl _⟩, by repeat (first | exact Drawn0.refl _ | apply Drawn0.step)⟩
          · rw [if_neg c8] at H
            exact absurd H (by simp)
        · replace c7 := Bool.eq_false_iff.mpr c7
          subst c7
          have H1 : (portmanteauref16_Time.j1 kj1 a0 false) = some (r1, r2) := by rw [if_neg (show ¬ (false = true) by decide)] at H; exact H
          clear H
          have H := H1
          clear H1
          have H' := Aside0.mk H
          clear H
          go_wp2
          go_meet
          case rel => exact ⟨_, (a0), (by first | rfl | (simp; done) | (simp [ba_mk_size]; done) | (simp [ba_bne, ba_beq]; done) | (simp [*]; done)), H', ⟨by have := HJ1.out; first | omega | exact Nat.le_refl _⟩, by repeat (first | exact Drawn0.refl _ | apply Drawn0.step)⟩
      case rest =>
        clear HC6
        try clear c1
        try clear p2
        try clear c3
        try clear c3b0
        try clear c3b1
        try clear c4
        try clear c4b0
        try clear c4b1
        try clear p5
        try clear q5
        try clear hx5
        try clear qi5
        try clear c7
        try clear c8
        try clear c8b0
        try clear c8b1
        try clear p2
        try clear p5
        try clear q5
        skip -- xfix
        obtain ⟨kq, x0_5, rfl, HA, HJ5, ⟨mc5, rfl⟩⟩ := hcut
        cases kq with
        | zero => exact absurd HA.out (by simp [portmanteauref16_Time.j1])
        | succ kj5 =>
          have H := HA.out
          clear HA
          simp only [portmanteauref16_Time.j1] at H
          have HC9 := Aside0.mk H
          clear H
          go_upto_block 0 with (fail)
          go_cut [5] (fun v5 wc => ∃ (kq : Nat) (x5_8 : Int), v5 = .int .i64 x5_8 ∧ Aside0 (portmanteauref16_Time.j3 kq x0_5 x4_1 x5_8 = some (r1, r2)) ∧ Aside0 (kq ≤ kj5) ∧ Drawn0 w wc)
          case first =>
            have H := HC9.out
            clear HC9
            have H' := Aside0.mk H
            clear H
            go_wp2
            go_loopg [5] kj5 (fun kq v5 w' => ∃ (x5_3 : Int), v5 = .int .i64 x5_3 ∧ Aside0 (portmanteauref16_Time.l0 kq x0_5 x4_1 x5_3 = some (r1, r2)) ∧ Aside0 (kq ≤ kj5) ∧ Drawn0 w w')
            case atStart => exact ⟨(0), (by first | rfl | (simp; done) | (simp [ba_mk_size]; done) | (simp [ba_bne, ba_beq]; done) | (simp [*]; done)), H', ⟨Nat.le_refl _⟩, by repeat (first | exact Drawn0.refl _ | apply Drawn0.step)⟩
            case round =>
              clear H'
              try clear c1
              try clear p2
              try clear c3
              try clear c3b0
              try clear c3b1
              try clear c4
              try clear c4b0
              try clear c4b1
              try clear c5
              try clear p5
              try clear q5
              try clear hx5
              try clear qi5
              try clear c7
              try clear c8
              try clear c8b0
              try clear c8b1
              try clear p2
              try clear p5
              try clear q5
              skip -- xfix
              obtain ⟨x5_3, rfl, HA, HK3, ⟨m3, rfl⟩⟩ := hrel
              cases gk with
              | zero => exact absurd HA.out (by simp [portmanteauref16_Time.l0])
              | succ k3 =>
                have H := HA.out
                clear HA
                simp only [portmanteauref16_Time.l0] at H
                by_cases c10 : x5_3 < (x0_5.size : Int)
                · rw [if_pos c10] at H
                  have c10b0 : decide (x5_3 < (x0_5.size : Int)) = true := decide_eq_true c10
                  clear c10
                  (first | rw [c10b0] | (simp only [i64_w, i32_w]; rw [c10b0]) | skip)
                  by_cases c11 : 0 ≤ x5_3
                  · rw [if_pos c11] at H
                    have c11b0 : decide (0 ≤ x5_3) = true := decide_eq_true c11
                    clear c11
                    by_cases c13 : (bt x0_5 x5_3) = 46
                    · rw [if_pos c13] at H
                      have c13b0 : ((bt x0_5 x5_3) == 46) = true := beq_iff_eq.mpr c13
                      have c13b1 : ((bt x0_5 x5_3) != 46) = false := bne_eq_false_iff_eq.mpr c13
                      clear c13
                      have H' := Aside0.mk H
                      clear H
                      have p12 : 0 ≤ (x5_3 : Int) := of_decide_eq_true (by first | (with_reducible assumption) | assumption)
                      have q12 : x5_3 < (x0_5.size : Int) := of_decide_eq_true (by first | (with_reducible assumption) | assumption)
                      have hx12 := bt_at x0_5 x5_3
                      replace p12 := eq_true p12
                      (try (have p12s := p12; simp only [ByteArray.size_append, ByteArray.size_extract, Int.natCast_add, Int.cast_ofNat_Int, Nat.reduceAdd, Nat.min_self, Nat.le_add_left, Nat.le_add_right, Nat.min_eq_left, Nat.min_eq_right, Nat.zero_add, Nat.sub_zero, ba_mk_size, List.length_cons, List.length_nil] at p12s)) -- xfix5
                      replace q12 := eq_true q12
                      (try (have q12s := q12; simp only [ByteArray.size_append, ByteArray.size_extract, Int.natCast_add, Int.cast_ofNat_Int, Nat.reduceAdd, Nat.min_self, Nat.le_add_left, Nat.le_add_right, Nat.min_eq_left, Nat.min_eq_right, Nat.zero_add, Nat.sub_zero, ba_mk_size, List.length_cons, List.length_nil] at q12s)) -- xfix5
                      go_wp2
                      go_meet
                      case rel => exact ⟨_, (x5_3), (by first | rfl | (simp; done) | (simp [ba_mk_size]; done) | (simp [ba_bne, ba_beq]; done) | (simp [*]; done)), H', ⟨by have := HJ1.out; have := HJ5.out; have := HK3.out; first | omega | exact Nat.le_refl _⟩, by repeat (first | exact Drawn0.refl _ | apply Drawn0.step)⟩
                    · rw [if_neg c13] at H
                      have c13b0 : ((bt x0_5 x5_3) == 46) = false := beq_eq_false_iff_ne.mpr c13
                      have c13b1 : ((bt x0_5 x5_3) != 46) = true := bne_iff_ne.mpr c13
                      have H' := Aside0.mk H
                      clear H
                      have p12 : 0 ≤ (x5_3 : Int) := of_decide_eq_true (by first | (with_reducible assumption) | assumption)
                      have q12 : x5_3 < (x0_5.size : Int) := of_decide_eq_true (by first | (with_reducible assumption) | assumption)
                      have hx12 := bt_at x0_5 x5_3
                      replace p12 := eq_true p12
                      (try (have p12s := p12; simp only [ByteArray.size_append, ByteArray.size_extract, Int.natCast_add, Int.cast_ofNat_Int, Nat.reduceAdd, Nat.min_self, Nat.le_add_left, Nat.le_add_right, Nat.min_eq_left, Nat.min_eq_right, Nat.zero_add, Nat.sub_zero, ba_mk_size, List.length_cons, List.length_nil] at p12s)) -- xfix5
                      replace q12 := eq_true q12
                      (try (have q12s := q12; simp only [ByteArray.size_append, ByteArray.size_extract, Int.natCast_add, Int.cast_ofNat_Int, Nat.reduceAdd, Nat.min_self, Nat.le_add_left, Nat.le_add_right, Nat.min_eq_left, Nat.min_eq_right, Nat.zero_add, Nat.sub_zero, ba_mk_size, List.length_cons, List.length_nil] at q12s)) -- xfix5
                      go_wp2
                      go_roundg k3
                      case measure => have := HJ1.out; have := HJ5.out; have := HK3.out; omega
                      case rel => exact ⟨(wrap64 (x5_3 + 1)), (by first | rfl | (simp; done) | (simp [ba_mk_size]; done) | (simp [ba_bne, ba_beq]; done) | (simp [*]; done)), H', ⟨by have := HJ1.out; have := HJ5.out; have := HK3.out; omega⟩, by repeat (first | exact Drawn0.refl _ | apply Drawn0.step)⟩
                  · rw [if_neg c11] at H
                    exact absurd H (by simp)
                · rw [if_neg c10] at H
                  have c10b0 : decide (x5_3 < (x0_5.size : Int)) = false := decide_eq_false c10
                  clear c10
                  (first | rw [c10b0] | (simp only [i64_w, i32_w]; rw [c10b0]) | skip)
                  have H' := Aside0.mk H
                  clear H
                  go_wp2
                  go_meet
                  case rel => exact ⟨_, (x5_3), (by first | rfl | (simp; done) | (simp [ba_mk_size]; done) | (simp [ba_bne, ba_beq]; done) | (simp [*]; done)), H', ⟨by have := HJ1.out; have := HJ5.out; have := HK3.out; first | omega | exact Nat.le_refl _⟩, by repeat (first | exact Drawn0.refl _ | apply Drawn0.step)⟩
          case rest =>
            clear HC9
            try clear c1
            try clear p1
            try clear q1
            try clear hx1
            try clear p2
            try clear c3
            try clear c3b0
            try clear c3b1
            try clear c4
            try clear c4b0
            try clear c4b1
            try clear c5
            try clear p5
            try clear q5
            try clear hx5
            try clear qi5
            try clear p6
            try clear c7
            try clear c8
            try clear c8b0
            try clear c8b1
            try clear c10
            try clear c10b0
            try clear c11
            try clear c11b0
            try clear p12
            try clear q12
            try clear hx12
            try clear c13
            try clear c13b0
            try clear c13b1
            try clear p12
            try clear p2
            try clear p5
            try clear q12
            try clear q5
            skip -- xfix
            obtain ⟨kq, x5_8, rfl, HA, HJ8, ⟨mc8, rfl⟩⟩ := hcut
            cases kq with
            | zero => exact absurd HA.out (by simp [portmanteauref16_Time.j3])
            | succ kj8 =>
              have H := HA.out
              clear HA
              simp only [portmanteauref16_Time.j3] at H
              by_cases c14 : 0 ≤ x5_8
              · rw [if_pos c14] at H
                have c14b0 := eq_true c14
                have c14b1 : decide (0 ≤ x5_8) = true := decide_eq_true c14
                clear c14
                by_cases c15 : x5_8 ≤ (x0_5.size : Int)
                · rw [if_pos c15] at H
                  have c15b0 := eq_true c15
                  have c15b1 : decide (x5_8 ≤ (x0_5.size : Int)) = true := decide_eq_true c15
                  clear c15
                  have HC16 := Aside0.mk H
                  clear H
                  go_upto_if 40 with (fail)
                  go_cut [7] (fun v7 wc => ∃ (kq : Nat) (x7_15 : ByteArray), v7 = .string x7_15 ∧ Aside0 (portmanteauref16_Time.j4 kq x4_1 (x0_5.extract 0 (x5_8 : Int).toNat) x7_15 = some (r1, r2)) ∧ Aside0 (kq ≤ kj8) ∧ Drawn0 w wc)
                  case first =>
                    have H := HC16.out
                    clear HC16
                    by_cases c17 : x5_8 < (x0_5.size : Int)
                    · rw [if_pos c17] at H
                      have c17b0 : decide (x5_8 < (x0_5.size : Int)) = true := decide_eq_true c17
                      clear c17
                      (first | rw [c17b0] | (simp only [i64_w, i32_w]; rw [c17b0]) | skip)
                      obtain ⟨ji18, hji18⟩ : ∃ j_ : Int, (wrap64 (x5_8 + 1)) = j_ := ⟨_, rfl⟩
                      replace H : (if 0 ≤ (ji18) then (if (ji18) ≤ (x0_5.size : Int) then (if (x0_5.extract ((ji18) : Int).toNat x0_5.size).toList = ([] : List UInt8) then (some (0, false)) else (if ((x0_5.extract ((ji18) : Int).toNat x0_5.size).size : Int) > 30 then (some (0, false)) else (portmanteauref16_Time.j4 kj8 x4_1 (x0_5.extract 0 (x5_8 : Int).toNat) (x0_5.extract ((ji18) : Int).toNat x0_5.size)))) else (none)) else (none)) = some (r1, r2) := by first | (rw [hji18] at H; exact H) | (simp only [hji18] at H ⊢; exact H)
                      have hji18w : (IntKind.i64.wrap (x5_8 + 1)) = ji18 := (i64_w _).trans hji18
                      by_cases c19 : 0 ≤ (ji18)
                      · rw [if_pos c19] at H
                        have c19b0 := eq_true c19
                        have c19b1 : decide (0 ≤ (ji18)) = true := decide_eq_true c19
                        clear c19
                        by_cases c20 : (ji18) ≤ (x0_5.size : Int)
                        · rw [if_pos c20] at H
                          have c20b0 := eq_true c20
                          have c20b1 : decide ((ji18) ≤ (x0_5.size : Int)) = true := decide_eq_true c20
                          clear c20
                          by_cases c21 : (x0_5.extract ((ji18) : Int).toNat x0_5.size).toList = ([] : List UInt8)
                          · rw [if_pos c21] at H
                            have c21b0 : ((x0_5.extract ((ji18) : Int).toNat x0_5.size).toList == ([] : List UInt8)) = true := beq_iff_eq.mpr c21
                            (try (have c21b0s := c21b0; simp only [ByteArray.size_append, ByteArray.size_extract, Int.natCast_add, Int.cast_ofNat_Int, Nat.reduceAdd, Nat.min_self, Nat.le_add_left, Nat.le_add_right, Nat.min_eq_left, Nat.min_eq_right, Nat.zero_add, Nat.sub_zero, ba_mk_size, List.length_cons, List.length_nil] at c21b0s)) -- xfix5
                            have c21b1 : ((x0_5.extract ((ji18) : Int).toNat x0_5.size).toList != ([] : List UInt8)) = false := bne_eq_false_iff_eq.mpr c21
                            (try (have c21b1s := c21b1; simp only [ByteArray.size_append, ByteArray.size_extract, Int.natCast_add, Int.cast_ofNat_Int, Nat.reduceAdd, Nat.min_self, Nat.le_add_left, Nat.le_add_right, Nat.min_eq_left, Nat.min_eq_right, Nat.zero_add, Nat.sub_zero, ba_mk_size, List.length_cons, List.length_nil] at c21b1s)) -- xfix5
                            clear c21
                            simp only [Option.some.injEq, Prod.mk.injEq] at H
                            obtain ⟨rfl, rfl⟩ := H
                            go_wp2
                            go_ret2
                            exact ⟨by first | rfl | (simp; done) | (simp [ba_mk_size]; done) | (simp only [← hji18] <;> (first | rfl | simp)) | (simp [*]; done), by repeat (first | exact Drawn0.refl _ | apply Drawn0.step)⟩
                          · rw [if_neg c21] at H
                            have c21b0 : ((x0_5.extract ((ji18) : Int).toNat x0_5.size).toList == ([] : List UInt8)) = false := beq_eq_false_iff_ne.mpr c21
                            (try (have c21b0s := c21b0; simp only [ByteArray.size_append, ByteArray.size_extract, Int.natCast_add, Int.cast_ofNat_Int, Nat.reduceAdd, Nat.min_self, Nat.le_add_left, Nat.le_add_right, Nat.min_eq_left, Nat.min_eq_right, Nat.zero_add, Nat.sub_zero, ba_mk_size, List.length_cons, List.length_nil] at c21b0s)) -- xfix5
                            have c21b1 : ((x0_5.extract ((ji18) : Int).toNat x0_5.size).toList != ([] : List UInt8)) = true := bne_iff_ne.mpr c21
                            (try (have c21b1s := c21b1; simp only [ByteArray.size_append, ByteArray.size_extract, Int.natCast_add, Int.cast_ofNat_Int, Nat.reduceAdd, Nat.min_self, Nat.le_add_left, Nat.le_add_right, Nat.min_eq_left, Nat.min_eq_right, Nat.zero_add, Nat.sub_zero, ba_mk_size, List.length_cons, List.length_nil] at c21b1s)) -- xfix5
                            by_cases c22 : ((x0_5.extract ((ji18) : Int).toNat x0_5.size).size : Int) > 30
                            · rw [if_pos c22] at H
                              have c22b0 : decide (30 < ((x0_5.extract ((ji18) : Int).toNat x0_5.size).size : Int)) = true := decide_eq_true c22
                              (try (have c22b0s := c22b0; simp only [ByteArray.size_append, ByteArray.size_extract, Int.natCast_add, Int.cast_ofNat_Int, Nat.reduceAdd, Nat.min_self, Nat.le_add_left, Nat.le_add_right, Nat.min_eq_left, Nat.min_eq_right, Nat.zero_add, Nat.sub_zero, ba_mk_size, List.length_cons, List.length_nil] at c22b0s)) -- xfix5
                              have c22b1 : decide (30 < (x0_5.extract ((ji18) : Int).toNat x0_5.size).size) = true := decide_eq_true (by omega)
                              (try (have c22b1s := c22b1; simp only [ByteArray.size_append, ByteArray.size_extract, Int.natCast_add, Int.cast_ofNat_Int, Nat.reduceAdd, Nat.min_self, Nat.le_add_left, Nat.le_add_right, Nat.min_eq_left, Nat.min_eq_right, Nat.zero_add, Nat.sub_zero, ba_mk_size, List.length_cons, List.length_nil] at c22b1s)) -- xfix5
                              clear c22
                              simp only [Option.some.injEq, Prod.mk.injEq] at H
                              obtain ⟨rfl, rfl⟩ := H
                              go_wp2
                              go_ret2
                              exact ⟨by first | rfl | (simp; done) | (simp [ba_mk_size]; done) | (simp only [← hji18] <;> (first | rfl | simp)) | (simp [*]; done), by repeat (first | exact Drawn0.refl _ | apply Drawn0.step)⟩
                            · rw [if_neg c22] at H
                              have c22b0 : decide (30 < ((x0_5.extract ((ji18) : Int).toNat x0_5.size).size : Int)) = false := decide_eq_false c22
                              (try (have c22b0s := c22b0; simp only [ByteArray.size_append, ByteArray.size_extract, Int.natCast_add, Int.cast_ofNat_Int, Nat.reduceAdd, Nat.min_self, Nat.le_add_left, Nat.le_add_right, Nat.min_eq_left, Nat.min_eq_right, Nat.zero_add, Nat.sub_zero, ba_mk_size, List.length_cons, List.length_nil] at c22b0s)) -- xfix5
                              have c22b1 : decide (30 < (x0_5.extract ((ji18) : Int).toNat x0_5.size).size) = false := decide_eq_false (by omega)
                              (try (have c22b1s := c22b1; simp only [ByteArray.size_append, ByteArray.size_extract, Int.natCast_add, Int.cast_ofNat_Int, Nat.reduceAdd, Nat.min_self, Nat.le_add_left, Nat.le_add_right, Nat.min_eq_left, Nat.min_eq_right, Nat.zero_add, Nat.sub_zero, ba_mk_size, List.length_cons, List.length_nil] at c22b1s)) -- xfix5
                              clear c22
                              have H' := Aside0.mk H
                              clear H
                              go_wp2
                              go_meet
                              case rel => exact ⟨_, (x0_5.extract ((ji18) : Int).toNat x0_5.size), (by first | rfl | (simp; done) | (simp [ba_mk_size]; done) | (simp only [← hji18] <;> (first | rfl | simp)) | (simp [*]; done)), H', ⟨by have := HJ1.out; have := HJ5.out; have := HJ8.out; first | omega | exact Nat.le_refl _⟩, by repeat (first | exact Drawn0.refl _ | apply Drawn0.step)⟩
                        · rw [if_neg c20] at H
                          exact absurd H (by simp)
                      · rw [if_neg c19] at H
                        exact absurd H (by simp)
                    · rw [if_neg c17] at H
                      have c17b0 : decide (x5_8 < (x0_5.size : Int)) = false := decide_eq_false c17
                      clear c17
                      (first | rw [c17b0] | (simp only [i64_w, i32_w]; rw [c17b0]) | skip)
                      have H' := Aside0.mk H
                      clear H
                      go_wp2
                      go_meet
                      case rel => exact ⟨_, ((⟨#[]⟩ : ByteArray)), (by first | rfl | (simp; done) | (simp [ba_mk_size]; done) | (simp [ba_bne, ba_beq]; done) | (simp [*]; done)), H', ⟨by have := HJ1.out; have := HJ5.out; have := HJ8.out; first | omega | exact Nat.le_refl _⟩, by repeat (first | exact Drawn0.refl _ | apply Drawn0.step)⟩
                  case rest =>
                    clear HC16
                    try clear c1
                    try clear p1
                    try clear q1
                    try clear hx1
                    try clear c2
                    try clear p2
                    try clear c3
                    try clear c3b0
                    try clear c3b1
                    try clear c4
                    try clear c4b0
                    try clear c4b1
                    try clear c5
                    try clear p5
                    try clear q5
                    try clear hx5
                    try clear qi5
                    try clear p6
                    try clear c7
                    try clear c8
                    try clear c8b0
                    try clear c8b1
                    try clear c10
                    try clear c10b0
                    try clear c11
                    try clear c11b0
                    try clear p12
                    try clear q12
                    try clear hx12
                    try clear c13
                    try clear c13b0
                    try clear c13b1
                    try clear c14
                    try clear c14b0
                    try clear c14b1
                    try clear c15
                    try clear c15b0
                    try clear c15b1
                    try clear c17
                    try clear c17b0
                    try clear c19
                    try clear c19b0
                    try clear c19b1
                    try clear c20
                    try clear c20b0
                    try clear c20b1
                    try clear c21
                    try clear c21b0
                    try clear c21b1
                    try clear c22
                    try clear c22b0
                    try clear c22b1
                    try clear p1
                    try clear p12
                    try clear p2
                    try clear p5
                    try clear p6
                    try clear q1
                    try clear q12
                    try clear q5
                    skip -- xfix
                    obtain ⟨kq, x7_15, rfl, HA, HJ15, ⟨mc15, rfl⟩⟩ := hcut
                    cases kq with
                    | zero => exact absurd HA.out (by simp [portmanteauref16_Time.j4])
                    | succ kj15 =>
                      have H := HA.out
                      clear HA
                      simp only [portmanteauref16_Time.j4] at H
                      have HC23 := Aside0.mk H
                      clear H
                      go_upto_region 12 with (fail)
                      go_cut [58] (fun v58 wc => ∃ (kq : Nat) (x58_22 : Bool), v58 = .bool x58_22 ∧ Aside0 (portmanteauref16_Time.j5 kq x4_1 (x0_5.extract 0 (x5_8 : Int).toNat) x7_15 x58_22 = some (r1, r2)) ∧ Aside0 (kq ≤ kj15) ∧ Drawn0 w wc)
                      case first =>
                        have H := HC23.out
                        clear HC23
                        by_cases c24 : (x0_5.extract 0 (x5_8 : Int).toNat).toList = ([] : List UInt8)
                        · rw [if_pos c24] at H
                          have c24b0 : ((x0_5.extract 0 (x5_8 : Int).toNat).toList == ([] : List UInt8)) = true := beq_iff_eq.mpr c24
                          have c24b1 : ((x0_5.extract 0 (x5_8 : Int).toNat).toList != ([] : List UInt8)) = false := bne_eq_false_iff_eq.mpr c24
                          clear c24
                          (first | rw [c24b0] | (simp only [i64_w, i32_w]; rw [c24b0]) | skip)
                          have H' := Aside0.mk H
                          clear H
                          go_wp2
                          go_meet
                          case rel => exact ⟨_, (true), (by first | rfl | (simp; done) | (simp [ba_mk_size]; done) | (simp [ba_bne, ba_beq]; done) | (simp [*]; done)), H', ⟨by have := HJ1.out; have := HJ5.out; have := HJ8.out; have := HJ15.out; first | omega | exact Nat.le_refl _⟩, by repeat (first | exact Drawn0.refl _ | apply Drawn0.step)⟩
                        · rw [if_neg c24] at H
                          have c24b0 : ((x0_5.extract 0 (x5_8 : Int).toNat).toList == ([] : List UInt8)) = false := beq_eq_false_iff_ne.mpr c24
                          have c24b1 : ((x0_5.extract 0 (x5_8 : Int).toNat).toList != ([] : List UInt8)) = true := bne_iff_ne.mpr c24
                          (first | rw [c24b0] | (simp only [i64_w, i32_w]; rw [c24b0]) | skip)
                          have H' := Aside0.mk H
                          clear H
                          go_wp2
                          go_meet
                          case rel => exact ⟨_, (decide (((x0_5.extract 0 (x5_8 : Int).toNat).size : Int) > 19)), (by first | rfl | (simp; done) | (simp [ba_mk_size]; done) | (simp [ba_bne, ba_beq]; done) | (simp [*]; done)), H', ⟨by have := HJ1.out; have := HJ5.out; have := HJ8.out; have := HJ15.out; first | omega | exact Nat.le_refl _⟩, by repeat (first | exact Drawn0.refl _ | apply Drawn0.step)⟩
                      case rest =>
                        clear HC23
                        try clear c1
                        try clear p1
                        try clear q1
                        try clear hx1
                        try clear c2
                        try clear p2
                        try clear c3
                        try clear c3b0
                        try clear c3b1
                        try clear c4
                        try clear c4b0
                        try clear c4b1
                        try clear c5
                        try clear p5
                        try clear q5
                        try clear hx5
                        try clear qi5
                        try clear p6
                        try clear c7
                        try clear c8
                        try clear c8b0
                        try clear c8b1
                        try clear c10
                        try clear c10b0
                        try clear c11
                        try clear c11b0
                        try clear p12
                        try clear q12
                        try clear hx12
                        try clear c13
                        try clear c13b0
                        try clear c13b1
                        try clear c14
                        try clear c14b0
                        try clear c14b1
                        try clear c15
                        try clear c15b0
                        try clear c15b1
                        try clear c17
                        try clear c17b0
                        try clear c19
                        try clear c19b0
                        try clear c19b1
                        try clear c20
                        try clear c20b0
                        try clear c20b1
                        try clear c21
                        try clear c21b0
                        try clear c21b1
                        try clear c22
                        try clear c22b0
                        try clear c22b1
                        try clear c24
                        try clear c24b0
                        try clear c24b1
                        try clear p1
                        try clear p12
                        try clear p2
                        try clear p5
                        try clear p6
                        try clear q1
                        try clear q12
                        try clear q5
                        skip -- xfix
                        obtain ⟨kq, x58_22, rfl, HA, HJ22, ⟨mc22, rfl⟩⟩ := hcut
                        cases kq with
                        | zero => exact absurd HA.out (by simp [portmanteauref16_Time.j5])
                        | succ kj22 =>
                          have H := HA.out
                          clear HA
                          simp only [portmanteauref16_Time.j5] at H
                          by_cases c25 : x58_22 = true
                          · subst c25
                            have H1 : (some (0, false)) = some (r1, r2) := by rw [if_pos rfl] at H; exact H
                            clear H
                            have H := H1
                            clear H1
                            simp only [Option.some.injEq, Prod.mk.injEq] at H
                            obtain ⟨rfl, rfl⟩ := H
                            go_wp2
                            go_ret2
                            exact ⟨by first | rfl | (simp; done) | (simp [ba_mk_size]; done) | (simp [ba_bne, ba_beq]; done) | (simp [*]; done), by repeat (first | exact Drawn0.refl _ | apply Drawn0.step)⟩
                          · replace c25 := Bool.eq_false_iff.mpr c25
                            subst c25
                            have H1 : (if (x0_5.extract 0 (x5_8 : Int).toNat).size + x7_15.size ≤ 9223372036854775807 then (portmanteauref16_Time.l1 kj22 x4_1 (x0_5.extract 0 (x5_8 : Int).toNat) x7_15 ((x0_5.extract 0 (x5_8 : Int).toNat) ++ x7_15) 0) else (none)) = some (r1, r2) := by rw [if_neg (show ¬ (false = true) by decide)] at H; exact H
                            clear H
                            have H := H1
                            clear H1
                            by_cases c26 : (x0_5.extract 0 (x5_8 : Int).toNat).size + x7_15.size ≤ 9223372036854775807
                            · rw [if_pos c26] at H
                              have c26b0 := eq_true c26
                              (try (have c26b0s := c26b0; simp only [ByteArray.size_append, ByteArray.size_extract, Int.natCast_add, Int.cast_ofNat_Int, Nat.reduceAdd, Nat.min_self, Nat.le_add_left, Nat.le_add_right, Nat.min_eq_left, Nat.min_eq_right, Nat.zero_add, Nat.sub_zero, ba_mk_size, List.length_cons, List.length_nil] at c26b0s)) -- xfix5
                              have c26b1 : decide ((x0_5.extract 0 (x5_8 : Int).toNat).size + x7_15.size ≤ 9223372036854775807) = true := decide_eq_true c26
                              (try (have c26b1s := c26b1; simp only [ByteArray.size_append, ByteArray.size_extract, Int.natCast_add, Int.cast_ofNat_Int, Nat.reduceAdd, Nat.min_self, Nat.le_add_left, Nat.le_add_right, Nat.min_eq_left, Nat.min_eq_right, Nat.zero_add, Nat.sub_zero, ba_mk_size, List.length_cons, List.length_nil] at c26b1s)) -- xfix5
                              try have c26b2 : (9223372036854775807 < (x0_5.extract 0 (x5_8 : Int).toNat).size + x7_15.size) = False := eq_false (Nat.not_lt.2 c26)
                              (try (have c26b2s := c26b2; simp only [ByteArray.size_append, ByteArray.size_extract, Int.natCast_add, Int.cast_ofNat_Int, Nat.reduceAdd, Nat.min_self, Nat.le_add_left, Nat.le_add_right, Nat.min_eq_left, Nat.min_eq_right, Nat.zero_add, Nat.sub_zero, ba_mk_size, List.length_cons, List.length_nil] at c26b2s)) -- xfix5
                              have H' := Aside0.mk H
                              clear H
                              go_wp2
                              go_loopg [9] kj22 (fun kq v9 w' => ∃ (x9_6 : Int), v9 = .int .i64 x9_6 ∧ Aside0 (portmanteauref16_Time.l1 kq x4_1 (x0_5.extract 0 (x5_8 : Int).toNat) x7_15 ((x0_5.extract 0 (x5_8 : Int).toNat) ++ x7_15) x9_6 = some (r1, r2)) ∧ Aside0 (kq ≤ kj22) ∧ Drawn0 w w')
                              case atStart => exact ⟨(0), (by first | rfl | (simp; done) | (simp [ba_mk_size]; done) | (simp [ba_bne, ba_beq]; done) | (simp [*]; done)), H', ⟨Nat.le_refl _⟩, by repeat (first | exact Drawn0.refl _ | apply Drawn0.step)⟩
                              case round =>
                                clear H'
                                try clear c1
                                try clear p1
                                try clear q1
                                try clear hx1
                                try clear c2
                                try clear p2
                                try clear c3
                                try clear c3b0
                                try clear c3b1
                                try clear c4
                                try clear c4b0
                                try clear c4b1
                                try clear c5
                                try clear p5
                                try clear q5
                                try clear hx5
                                try clear qi5
                                try clear p6
                                try clear c7
                                try clear c8
                                try clear c8b0
                                try clear c8b1
                                try clear c10
                                try clear c10b0
                                try clear c11
                                try clear c11b0
                                try clear p12
                                try clear q12
                                try clear hx12
                                try clear c13
                                try clear c13b0
                                try clear c13b1
                                try clear c14
                                try clear c14b0
                                try clear c14b1
                                try clear c15
                                try clear c15b0
                                try clear c15b1
                                try clear c17
                                try clear c17b0
                                try clear c19
                                try clear c19b0
                                try clear c19b1
                                try clear c20
                                try clear c20b0
                                try clear c20b1
                                try clear c21
                                try clear c21b0
                                try clear c21b1
                                try clear c22
                                try clear c22b0
                                try clear c22b1
                                try clear c24
                                try clear c24b0
                                try clear c24b1
                                try clear c25
                                try clear c26
                                try clear c26b0
                                try clear c26b1
                                try clear c26b2
                                try clear p1
                                try clear p12
                                try clear p2
                                try clear p5
                                try clear p6
                                try clear q1
                                try clear q12
                                try clear q5
                                skip -- xfix
                                obtain ⟨x9_6, rfl, HA, HK6, ⟨m6, rfl⟩⟩ := hrel
                                cases gk with
                                | zero => exact absurd HA.out (by simp [portmanteauref16_Time.l1])
                                | succ k6 =>
                                  have H := HA.out
                                  clear HA
                                  simp only [portmanteauref16_Time.l1] at H
                                  by_cases c27 : x9_6 < (((x0_5.extract 0 (x5_8 : Int).toNat) ++ x7_15).size : Int)
                                  · rw [if_pos c27] at H
                                    have c27b0 : decide (x9_6 < (((x0_5.extract 0 (x5_8 : Int).toNat) ++ x7_15).size : Int)) = true := decide_eq_true c27
                                    (try (have c27b0s := c27b0; simp only [ByteArray.size_append, ByteArray.size_extract, Int.natCast_add, Int.cast_ofNat_Int, Nat.reduceAdd, Nat.min_self, Nat.le_add_left, Nat.le_add_right, Nat.min_eq_left, Nat.min_eq_right, Nat.zero_add, Nat.sub_zero, ba_mk_size, List.length_cons, List.length_nil] at c27b0s)) -- xfix5
                                    clear c27
                                    by_cases c28 : 0 ≤ x9_6
                                    · rw [if_pos c28] at H
                                      have c28b0 : decide (0 ≤ x9_6) = true := decide_eq_true c28
                                      clear c28
                                      by_cases c30 : (bt ((x0_5.extract 0 (x5_8 : Int).toNat) ++ x7_15) x9_6) < 48
                                      · rw [if_pos c30] at H
                                        have c30b0 : decide ((bt ((x0_5.extract 0 (x5_8 : Int).toNat) ++ x7_15) x9_6) < 48) = true := decide_eq_true c30
                                        clear c30
                                        simp only [Option.some.injEq, Prod.mk.injEq] at H
                                        obtain ⟨rfl, rfl⟩ := H
                                        have p29 : 0 ≤ (x9_6 : Int) := of_decide_eq_true (by first | (with_reducible assumption) | assumption)
                                        have q29 : x9_6 < (((x0_5.extract 0 (x5_8 : Int).toNat) ++ x7_15).size : Int) := of_decide_eq_true (by first | (with_reducible assumption) | assumption)
                                        have hx29 := bt_at ((x0_5.extract 0 (x5_8 : Int).toNat) ++ x7_15) x9_6
                                        (try (have hx29q := hx29; simp only [ByteArray.size_append, ByteArray.size_extract, Int.natCast_add, Int.cast_ofNat_Int, Nat.reduceAdd, Nat.min_self, Nat.le_add_left, Nat.le_add_right, Nat.min_eq_left, Nat.min_eq_right, Nat.zero_add, Nat.sub_zero, ba_mk_size, List.length_cons, List.length_nil] at hx29q)) -- xfix5
                                        replace p29 := eq_true p29
                                        (try (have p29s := p29; simp only [ByteArray.size_append, ByteArray.size_extract, Int.natCast_add, Int.cast_ofNat_Int, Nat.reduceAdd, Nat.min_self, Nat.le_add_left, Nat.le_add_right, Nat.min_eq_left, Nat.min_eq_right, Nat.zero_add, Nat.sub_zero, ba_mk_size, List.length_cons, List.length_nil] at p29s)) -- xfix5
                                        replace q29 := eq_true q29
                                        (try (have q29s := q29; simp only [ByteArray.size_append, ByteArray.size_extract, Int.natCast_add, Int.cast_ofNat_Int, Nat.reduceAdd, Nat.min_self, Nat.le_add_left, Nat.le_add_right, Nat.min_eq_left, Nat.min_eq_right, Nat.zero_add, Nat.sub_zero, ba_mk_size, List.length_cons, List.length_nil] at q29s)) -- xfix5
                                        go_wp2
                                        go_ret2
                                        exact ⟨by first | rfl | (simp; done) | (simp [ba_mk_size]; done) | (simp [ba_bne, ba_beq]; done) | (simp [*]; done), by repeat (first | exact Drawn0.refl _ | apply Drawn0.step)⟩
                                      · rw [if_neg c30] at H
                                        have c30b0 : decide ((bt ((x0_5.extract 0 (x5_8 : Int).toNat) ++ x7_15) x9_6) < 48) = false := decide_eq_false c30
                                        clear c30
                                        by_cases c32 : (bt ((x0_5.extract 0 (x5_8 : Int).toNat) ++ x7_15) x9_6) > 57
                                        · rw [if_pos c32] at H
                                          have c32b0 : decide (57 < (bt ((x0_5.extract 0 (x5_8 : Int).toNat) ++ x7_15) x9_6)) = true := decide_eq_true c32
                                          clear c32
                                          simp only [Option.some.injEq, Prod.mk.injEq] at H
                                          obtain ⟨rfl, rfl⟩ := H
                                          have p29 : 0 ≤ (x9_6 : Int) := of_decide_eq_true (by first | (with_reducible assumption) | assumption)
                                          have q29 : x9_6 < (((x0_5.extract 0 (x5_8 : Int).toNat) ++ x7_15).size : Int) := of_decide_eq_true (by first | (with_reducible assumption) | assumption)
                                          have hx29 := bt_at ((x0_5.extract 0 (x5_8 : Int).toNat) ++ x7_15) x9_6
                                          (try (have hx29q := hx29; simp only [ByteArray.size_append, ByteArray.size_extract, Int.natCast_add, Int.cast_ofNat_Int, Nat.reduceAdd, Nat.min_self, Nat.le_add_left, Nat.le_add_right, Nat.min_eq_left, Nat.min_eq_right, Nat.zero_add, Nat.sub_zero, ba_mk_size, List.length_cons, List.length_nil] at hx29q)) -- xfix5
                                          replace p29 := eq_true p29
                                          (try (have p29s := p29; simp only [ByteArray.size_append, ByteArray.size_extract, Int.natCast_add, Int.cast_ofNat_Int, Nat.reduceAdd, Nat.min_self, Nat.le_add_left, Nat.le_add_right, Nat.min_eq_left, Nat.min_eq_right, Nat.zero_add, Nat.sub_zero, ba_mk_size, List.length_cons, List.length_nil] at p29s)) -- xfix5
                                          replace q29 := eq_true q29
                                          (try (have q29s := q29; simp only [ByteArray.size_append, ByteArray.size_extract, Int.natCast_add, Int.cast_ofNat_Int, Nat.reduceAdd, Nat.min_self, Nat.le_add_left, Nat.le_add_right, Nat.min_eq_left, Nat.min_eq_right, Nat.zero_add, Nat.sub_zero, ba_mk_size, List.length_cons, List.length_nil] at q29s)) -- xfix5
                                          have p31 : 0 ≤ (x9_6 : Int) := of_decide_eq_true (by first | (with_reducible assumption) | assumption)
                                          have q31 : x9_6 < (((x0_5.extract 0 (x5_8 : Int).toNat) ++ x7_15).size : Int) := of_decide_eq_true (by first | (with_reducible assumption) | assumption)
                                          have hx31 := bt_at ((x0_5.extract 0 (x5_8 : Int).toNat) ++ x7_15) x9_6
                                          (try (have hx31q := hx31; simp only [ByteArray.size_append, ByteArray.size_extract, Int.natCast_add, Int.cast_ofNat_Int, Nat.reduceAdd, Nat.min_self, Nat.le_add_left, Nat.le_add_right, Nat.min_eq_left, Nat.min_eq_right, Nat.zero_add, Nat.sub_zero, ba_mk_size, List.length_cons, List.length_nil] at hx31q)) -- xfix5
                                          replace p31 := eq_true p31
                                          (try (have p31s := p31; simp only [ByteArray.size_append, ByteArray.size_extract, Int.natCast_add, Int.cast_ofNat_Int, Nat.reduceAdd, Nat.min_self, Nat.le_add_left, Nat.le_add_right, Nat.min_eq_left, Nat.min_eq_right, Nat.zero_add, Nat.sub_zero, ba_mk_size, List.length_cons, List.length_nil] at p31s)) -- xfix5
                                          replace q31 := eq_true q31
                                          (try (have q31s := q31; simp only [ByteArray.size_append, ByteArray.size_extract, Int.natCast_add, Int.cast_ofNat_Int, Nat.reduceAdd, Nat.min_self, Nat.le_add_left, Nat.le_add_right, Nat.min_eq_left, Nat.min_eq_right, Nat.zero_add, Nat.sub_zero, ba_mk_size, List.length_cons, List.length_nil] at q31s)) -- xfix5
                                          go_wp2
                                          go_ret2
                                          exact ⟨by first | rfl | (simp; done) | (simp [ba_mk_size]; done) | (simp [ba_bne, ba_beq]; done) | (simp [*]; done), by repeat (first | exact Drawn0.refl _ | apply Drawn0.step)⟩
                                        · rw [if_neg c32] at H
                                          have c32b0 : decide (57 < (bt ((x0_5.extract 0 (x5_8 : Int).toNat) ++ x7_15) x9_6)) = false := decide_eq_false c32
                                          clear c32
                                          have H' := Aside0.mk H
                                          clear H
                                          have p29 : 0 ≤ (x9_6 : Int) := of_decide_eq_true (by first | (with_reducible assumption) | assumption)
                                          have q29 : x9_6 < (((x0_5.extract 0 (x5_8 : Int).toNat) ++ x7_15).size : Int) := of_decide_eq_true (by first | (with_reducible assumption) | assumption)
                                          have hx29 := bt_at ((x0_5.extract 0 (x5_8 : Int).toNat) ++ x7_15) x9_6
                                          (try (have hx29q := hx29; simp only [ByteArray.size_append, ByteArray.size_extract, Int.natCast_add, Int.cast_ofNat_Int, Nat.reduceAdd, Nat.min_self, Nat.le_add_left, Nat.le_add_right, Nat.min_eq_left, Nat.min_eq_right, Nat.zero_add, Nat.sub_zero, ba_mk_size, List.length_cons, List.length_nil] at hx29q)) -- xfix5
                                          replace p29 := eq_true p29
                                          (try (have p29s := p29; simp only [ByteArray.size_append, ByteArray.size_extract, Int.natCast_add, Int.cast_ofNat_Int, Nat.reduceAdd, Nat.min_self, Nat.le_add_left, Nat.le_add_right, Nat.min_eq_left, Nat.min_eq_right, Nat.zero_add, Nat.sub_zero, ba_mk_size, List.length_cons, List.length_nil] at p29s)) -- xfix5
                                          replace q29 := eq_true q29
                                          (try (have q29s := q29; simp only [ByteArray.size_append, ByteArray.size_extract, Int.natCast_add, Int.cast_ofNat_Int, Nat.reduceAdd, Nat.min_self, Nat.le_add_left, Nat.le_add_right, Nat.min_eq_left, Nat.min_eq_right, Nat.zero_add, Nat.sub_zero, ba_mk_size, List.length_cons, List.length_nil] at q29s)) -- xfix5
                                          have p31 : 0 ≤ (x9_6 : Int) := of_decide_eq_true (by first | (with_reducible assumption) | assumption)
                                          have q31 : x9_6 < (((x0_5.extract 0 (x5_8 : Int).toNat) ++ x7_15).size : Int) := of_decide_eq_true (by first | (with_reducible assumption) | assumption)
                                          have hx31 := bt_at ((x0_5.extract 0 (x5_8 : Int).toNat) ++ x7_15) x9_6
                                          (try (have hx31q := hx31; simp only [ByteArray.size_append, ByteArray.size_extract, Int.natCast_add, Int.cast_ofNat_Int, Nat.reduceAdd, Nat.min_self, Nat.le_add_left, Nat.le_add_right, Nat.min_eq_left, Nat.min_eq_right, Nat.zero_add, Nat.sub_zero, ba_mk_size, List.length_cons, List.length_nil] at hx31q)) -- xfix5
                                          replace p31 := eq_true p31
                                          (try (have p31s := p31; simp only [ByteArray.size_append, ByteArray.size_extract, Int.natCast_add, Int.cast_ofNat_Int, Nat.reduceAdd, Nat.min_self, Nat.le_add_left, Nat.le_add_right, Nat.min_eq_left, Nat.min_eq_right, Nat.zero_add, Nat.sub_zero, ba_mk_size, List.length_cons, List.length_nil] at p31s)) -- xfix5
                                          replace q31 := eq_true q31
                                          (try (have q31s := q31; simp only [ByteArray.size_append, ByteArray.size_extract, Int.natCast_add, Int.cast_ofNat_Int, Nat.reduceAdd, Nat.min_self, Nat.le_add_left, Nat.le_add_right, Nat.min_eq_left, Nat.min_eq_right, Nat.zero_add, Nat.sub_zero, ba_mk_size, List.length_cons, List.length_nil] at q31s)) -- xfix5
                                          go_wp2
                                          go_roundg k6
                                          case measure => have := HJ1.out; have := HJ5.out; have := HJ8.out; have := HJ15.out; have := HJ22.out; have := HK6.out; omega
                                          case rel => exact ⟨(wrap64 (x9_6 + 1)), (by first | rfl | (simp; done) | (simp [ba_mk_size]; done) | (simp [ba_bne, ba_beq]; done) | (simp [*]; done)), H', ⟨by have := HJ1.out; have := HJ5.out; have := HJ8.out; have := HJ15.out; have := HJ22.out; have := HK6.out; omega⟩, by repeat (first | exact Drawn0.refl _ | apply Drawn0.step)⟩
                                    · rw [if_neg c28] at H
                                      exact absurd H (by simp)
                                  · rw [if_neg c27] at H
                                    have c27b0 : decide (x9_6 < (((x0_5.extract 0 (x5_8 : Int).toNat) ++ x7_15).size : Int)) = false := decide_eq_false c27
                                    (try (have c27b0s := c27b0; simp only [ByteArray.size_append, ByteArray.size_extract, Int.natCast_add, Int.cast_ofNat_Int, Nat.reduceAdd, Nat.min_self, Nat.le_add_left, Nat.le_add_right, Nat.min_eq_left, Nat.min_eq_right, Nat.zero_add, Nat.sub_zero, ba_mk_size, List.length_cons, List.length_nil] at c27b0s)) -- xfix5
                                    clear c27
                                    by_cases c33 : x7_15.size + 9 ≤ 9223372036854775807
                                    · rw [if_pos c33] at H
                                      have c33b0 := eq_true c33
                                      have c33b1 : decide (x7_15.size + 9 ≤ 9223372036854775807) = true := decide_eq_true c33
                                      try have c33b2 : (9223372036854775807 < x7_15.size + 9) = False := eq_false (Nat.not_lt.2 c33)
                                      by_cases c34 : 0 ≤ 9
                                      · rw [if_pos c34] at H
                                        have c34b0 := eq_true c34
                                        have c34b1 : decide (0 ≤ 9) = true := decide_eq_true c34
                                        clear c34
                                        by_cases c35 : 9 ≤ ((x7_15 ++ (⟨#[48, 48, 48, 48, 48, 48, 48, 48, 48]⟩ : ByteArray)).size : Int)
                                        · rw [if_pos c35] at H
                                          have c35b0 := eq_true c35
                                          (try (have c35b0s := c35b0; simp only [ByteArray.size_append, ByteArray.size_extract, Int.natCast_add, Int.cast_ofNat_Int, Nat.reduceAdd, Nat.min_self, Nat.le_add_left, Nat.le_add_right, Nat.min_eq_left, Nat.min_eq_right, Nat.zero_add, Nat.sub_zero, ba_mk_size, List.length_cons, List.length_nil] at c35b0s)) -- xfix5
                                          have c35b1 : decide (9 ≤ ((x7_15 ++ (⟨#[48, 48, 48, 48, 48, 48, 48, 48, 48]⟩ : ByteArray)).size : Int)) = true := decide_eq_true c35
                                          (try (have c35b1s := c35b1; simp only [ByteArray.size_append, ByteArray.size_extract, Int.natCast_add, Int.cast_ofNat_Int, Nat.reduceAdd, Nat.min_self, Nat.le_add_left, Nat.le_add_right, Nat.min_eq_left, Nat.min_eq_right, Nat.zero_add, Nat.sub_zero, ba_mk_size, List.length_cons, List.length_nil] at c35b1s)) -- xfix5
                                          by_cases c36 : (x0_5.extract 0 (x5_8 : Int).toNat).size + ((x7_15 ++ (⟨#[48, 48, 48, 48, 48, 48, 48, 48, 48]⟩ : ByteArray)).extract 0 9).size ≤ 9223372036854775807
                                          · rw [if_pos c36] at H
                                            have c36b0 := eq_true c36
                                            (try (have c36b0s := c36b0; simp only [ByteArray.size_append, ByteArray.size_extract, Int.natCast_add, Int.cast_ofNat_Int, Nat.reduceAdd, Nat.min_self, Nat.le_add_left, Nat.le_add_right, Nat.min_eq_left, Nat.min_eq_right, Nat.zero_add, Nat.sub_zero, ba_mk_size, List.length_cons, List.length_nil] at c36b0s)) -- xfix5
                                            have c36b1 : decide ((x0_5.extract 0 (x5_8 : Int).toNat).size + ((x7_15 ++ (⟨#[48, 48, 48, 48, 48, 48, 48, 48, 48]⟩ : ByteArray)).extract 0 9).size ≤ 9223372036854775807) = true := decide_eq_true c36
                                            (try (have c36b1s := c36b1; simp only [ByteArray.size_append, ByteArray.size_extract, Int.natCast_add, Int.cast_ofNat_Int, Nat.reduceAdd, Nat.min_self, Nat.le_add_left, Nat.le_add_right, Nat.min_eq_left, Nat.min_eq_right, Nat.zero_add, Nat.sub_zero, ba_mk_size, List.length_cons, List.length_nil] at c36b1s)) -- xfix5
                                            try have c36b2 : (9223372036854775807 < (x0_5.extract 0 (x5_8 : Int).toNat).size + ((x7_15 ++ (⟨#[48, 48, 48, 48, 48, 48, 48, 48, 48]⟩ : ByteArray)).extract 0 9).size) = False := eq_false (Nat.not_lt.2 c36)
                                            (try (have c36b2s := c36b2; simp only [ByteArray.size_append, ByteArray.size_extract, Int.natCast_add, Int.cast_ofNat_Int, Nat.reduceAdd, Nat.min_self, Nat.le_add_left, Nat.le_add_right, Nat.min_eq_left, Nat.min_eq_right, Nat.zero_add, Nat.sub_zero, ba_mk_size, List.length_cons, List.length_nil] at c36b2s)) -- xfix5
                                            have H' := Aside0.mk H
                                            clear H
                                            go_wp2
                                            go_loopg [10, 11] k6 (fun kq v10 v11 w' => ∃ (x10_7 : Int) (x11_7 : Int), v10 = .int .u64 x10_7 ∧ v11 = .int .i64 x11_7 ∧ Aside0 (portmanteauref16_Time.l2 kq x4_1 ((x0_5.extract 0 (x5_8 : Int).toNat) ++ ((x7_15 ++ (⟨#[48, 48, 48, 48, 48, 48, 48, 48, 48]⟩ : ByteArray)).extract 0 9)) x10_7 x11_7 = some (r1, r2)) ∧ Aside0 (kq ≤ k6) ∧ Drawn0 w w')
                                            case atStart => exact ⟨(0), (0), (by first | rfl | (simp; done) | (simp [ba_mk_size]; done) | (simp [ba_bne, ba_beq]; done) | (simp [*]; done)), (by first | rfl | (simp; done) | (simp [ba_mk_size]; done) | (simp [ba_bne, ba_beq]; done) | (simp [*]; done)), H', ⟨Nat.le_refl _⟩, by repeat (first | exact Drawn0.refl _ | apply Drawn0.step)⟩
                                            case round =>
                                              clear H'
                                              try clear c1
                                              try clear p1
                                              try clear q1
                                              try clear hx1
                                              try clear c2
                                              try clear p2
                                              try clear q2
                                              try clear hx2
                                              try clear c3
                                              try clear c3b0
                                              try clear c3b1
                                              try clear p3
                                              try clear q3
                                              try clear hx3
                                              try clear c4
                                              try clear c4b0
                                              try clear c4b1
                                              try clear c5
                                              try clear p5
                                              try clear q5
                                              try clear hx5
                                              try clear qi5
                                              try clear p6
                                              try clear c7
                                              try clear c8
                                              try clear c8b0
                                              try clear c8b1
                                              try clear c10
                                              try clear c10b0
                                              try clear c11
                                              try clear c11b0
                                              try clear p12
                                              try clear q12
                                              try clear hx12
                                              try clear c13
                                              try clear c13b0
                                              try clear c13b1
                                              try clear c14
                                              try clear c14b0
                                              try clear c14b1
                                              try clear c15
                                              try clear c15b0
                                              try clear c15b1
                                              try clear c17
                                              try clear c17b0
                                              try clear c19
                                              try clear c19b0
                                              try clear c19b1
                                              try clear c20
                                              try clear c20b0
                                              try clear c20b1
                                              try clear c21
                                              try clear c21b0
                                              try clear c21b1
                                              try clear c22
                                              try clear c22b0
                                              try clear c22b1
                                              try clear c24
                                              try clear c24b0
                                              try clear c24b1
                                              try clear c25
                                              try clear c26
                                              try clear c26b0
                                              try clear c26b1
                                              try clear c26b2
                                              try clear c27
                                              try clear c27b0
                                              try clear c28
                                              try clear c28b0
                                              try clear p29
                                              try clear q29
                                              try clear hx29
                                              try clear c30
                                              try clear c30b0
                                              try clear p31
                                              try clear q31
                                              try clear hx31
                                              try clear c32
                                              try clear c32b0
                                              try clear c33
                                              try clear c33b0
                                              try clear c33b1
                                              try clear c33b2
                                              try clear c34
                                              try clear c34b0
                                              try clear c34b1
                                              try clear c35
                                              try clear c35b0
                                              try clear c35b1
                                              try clear c36
                                              try clear c36b0
                                              try clear c36b1
                                              try clear c36b2
                                              try clear p1
                                              try clear p12
                                              try clear p2
                                              try clear p29
                                              try clear p31
                                              try clear p5
                                              try clear p6
                                              try clear q1
                                              try clear q12
                                              try clear q29
                                              try clear q31
                                              try clear q5
                                              skip -- xfix
                                              obtain ⟨x10_7, x11_7, rfl, rfl, HA, HK7, ⟨m7, rfl⟩⟩ := hrel
                                              cases gk with
                                              | zero => exact absurd HA.out (by simp [portmanteauref16_Time.l2])
                                              | succ k7 =>
                                                have H := HA.out
                                                clear HA
                                                simp only [portmanteauref16_Time.l2] at H
                                                by_cases c37 : x11_7 < (((x0_5.extract 0 (x5_8 : Int).toNat) ++ ((x7_15 ++ (⟨#[48, 48, 48, 48, 48, 48, 48, 48, 48]⟩ : ByteArray)).extract 0 9)).size : Int)
                                                · rw [if_pos c37] at H
                                                  have c37b0 : decide (x11_7 < (((x0_5.extract 0 (x5_8 : Int).toNat) ++ ((x7_15 ++ (⟨#[48, 48, 48, 48, 48, 48, 48, 48, 48]⟩ : ByteArray)).extract 0 9)).size : Int)) = true := decide_eq_true c37
                                                  (try (have c37b0s := c37b0; simp only [ByteArray.size_append, ByteArray.size_extract, Int.natCast_add, Int.cast_ofNat_Int, Nat.reduceAdd, Nat.min_self, Nat.le_add_left, Nat.le_add_right, Nat.min_eq_left, Nat.min_eq_right, Nat.zero_add, Nat.sub_zero, ba_mk_size, List.length_cons, List.length_nil] at c37b0s)) -- xfix5
                                                  clear c37
                                                  by_cases c38 : x10_7 > 922337203685477580
                                                  · rw [if_pos c38] at H
                                                    have c38b0 : decide (922337203685477580 < x10_7) = true := decide_eq_true c38
                                                    clear c38
                                                    simp only [Option.some.injEq, Prod.mk.injEq] at H
                                                    obtain ⟨rfl, rfl⟩ := H
                                                    go_wp2
                                                    go_ret2
                                                    exact ⟨by first | rfl | (simp; done) | (simp [ba_mk_size]; done) | (simp [ba_bne, ba_beq]; done) | (simp [*]; done), by repeat (first | exact Drawn0.refl _ | apply Drawn0.step)⟩
                                                  · rw [if_neg c38] at H
                                                    have c38b0 : decide (922337203685477580 < x10_7) = false := decide_eq_false c38
                                                    clear c38
                                                    by_cases c39 : 0 ≤ x11_7
                                                    · rw [if_pos c39] at H
                                                      have c39b0 : decide (0 ≤ x11_7) = true := decide_eq_true c39
                                                      clear c39
                                                      have H' := Aside0.mk H
                                                      clear H
                                                      have p40 : 0 ≤ (x11_7 : Int) := of_decide_eq_true (by first | (with_reducible assumption) | assumption)
                                                      have q40 : x11_7 < (((x0_5.extract 0 (x5_8 : Int).toNat) ++ ((x7_15 ++ (⟨#[48, 48, 48, 48, 48, 48, 48, 48, 48]⟩ : ByteArray)).extract 0 9)).size : Int) := of_decide_eq_true (by first | (with_reducible assumption) | assumption)
                                                      have hx40 := bt_at ((x0_5.extract 0 (x5_8 : Int).toNat) ++ ((x7_15 ++ (⟨#[48, 48, 48, 48, 48, 48, 48, 48, 48]⟩ : ByteArray)).extract 0 9)) x11_7
                                                      (try (have hx40q := hx40; simp only [ByteArray.size_append, ByteArray.size_extract, Int.natCast_add, Int.cast_ofNat_Int, Nat.reduceAdd, Nat.min_self, Nat.le_add_left, Nat.le_add_right, Nat.min_eq_left, Nat.min_eq_right, Nat.zero_add, Nat.sub_zero, ba_mk_size, List.length_cons, List.length_nil] at hx40q)) -- xfix5
                                                      replace p40 := eq_true p40
                                                      (try (have p40s := p40; simp only [ByteArray.size_append, ByteArray.size_extract, Int.natCast_add, Int.cast_ofNat_Int, Nat.reduceAdd, Nat.min_self, Nat.le_add_left, Nat.le_add_right, Nat.min_eq_left, Nat.min_eq_right, Nat.zero_add, Nat.sub_zero, ba_mk_size, List.length_cons, List.length_nil] at p40s)) -- xfix5
                                                      replace q40 := eq_true q40
                                                      (try (have q40s := q40; simp only [ByteArray.size_append, ByteArray.size_extract, Int.natCast_add, Int.cast_ofNat_Int, Nat.reduceAdd, Nat.min_self, Nat.le_add_left, Nat.le_add_right, Nat.min_eq_left, Nat.min_eq_right, Nat.zero_add, Nat.sub_zero, ba_mk_size, List.length_cons, List.length_nil] at q40s)) -- xfix5
                                                      go_wp2
                                                      go_roundg k7
                                                      case measure => have := HJ1.out; have := HJ5.out; have := HJ8.out; have := HJ15.out; have := HJ22.out; have := HK6.out; have := HK7.out; omega
                                                      case rel => exact ⟨(IntKind.u64.wrap ((IntKind.u64.wrap (10 * x10_7)) + (((bt ((x0_5.extract 0 (x5_8 : Int).toNat) ++ ((x7_15 ++ (⟨#[48, 48, 48, 48, 48, 48, 48, 48, 48]⟩ : ByteArray)).extract 0 9)) x11_7) - 48) % 256))), (wrap64 (x11_7 + 1)), (by first | rfl | (simp; done) | (simp [ba_mk_size]; done) | (simp [ba_bne, ba_beq]; done) | (simp [*]; done)), (by first | rfl | (simp; done) | (simp [ba_mk_size]; done) | (simp [ba_bne, ba_beq]; done) | (simp [*]; done)), H', ⟨by have := HJ1.out; have := HJ5.out; have := HJ8.out; have := HJ15.out; have := HJ22.out; have := HK6.out; have := HK7.out; omega⟩, by repeat (first | exact Drawn0.refl _ | apply Drawn0.step)⟩
                                                    · rw [if_neg c39] at H
                                                      exact absurd H (by simp)
                                                · rw [if_neg c37] at H
                                                  have c37b0 : decide (x11_7 < (((x0_5.extract 0 (x5_8 : Int).toNat) ++ ((x7_15 ++ (⟨#[48, 48, 48, 48, 48, 48, 48, 48, 48]⟩ : ByteArray)).extract 0 9)).size : Int)) = false := decide_eq_false c37
                                                  (try (have c37b0s := c37b0; simp only [ByteArray.size_append, ByteArray.size_extract, Int.natCast_add, Int.cast_ofNat_Int, Nat.reduceAdd, Nat.min_self, Nat.le_add_left, Nat.le_add_right, Nat.min_eq_left, Nat.min_eq_right, Nat.zero_add, Nat.sub_zero, ba_mk_size, List.length_cons, List.length_nil] at c37b0s)) -- xfix5
                                                  clear c37
                                                  have HC41 := Aside0.mk H
                                                  clear H
                                                  go_upto_region 28 with (fail)
                                                  go_cut [108] (fun v108 wc => ∃ (kq : Nat) (x108_40 : Bool), v108 = .bool x108_40 ∧ Aside0 (portmanteauref16_Time.j8 kq x4_1 x10_7 x108_40 = some (r1, r2)) ∧ Aside0 (kq ≤ k7) ∧ Drawn0 w wc)
                                                  case first =>
                                                    have H := HC41.out
                                                    clear HC41
                                                    by_cases c42 : x10_7 > 9223372036854775808
                                                    · rw [if_pos c42] at H
                                                      have c42b0 : decide (9223372036854775808 < x10_7) = true := decide_eq_true c42
                                                      clear c42
                                                      (first | rw [c42b0] | (simp only [i64_w, i32_w]; rw [c42b0]) | skip)
                                                      have H' := Aside0.mk H
                                                      clear H
                                                      go_wp2
                                                      go_meet
                                                      case rel => exact ⟨_, (true), (by first | rfl | (simp; done) | (simp [ba_mk_size]; done) | (simp [ba_bne, ba_beq]; done) | (simp [*]; done)), H', ⟨by have := HJ1.out; have := HJ5.out; have := HJ8.out; have := HJ15.out; have := HJ22.out; have := HK6.out; have := HK7.out; first | omega | exact Nat.le_refl _⟩, by repeat (first | exact Drawn0.refl _ | apply Drawn0.step)⟩
                                                    · rw [if_neg c42] at H
                                                      have c42b0 : decide (9223372036854775808 < x10_7) = false := decide_eq_false c42
                                                      clear c42
                                                      (first | rw [c42b0] | (simp only [i64_w, i32_w]; rw [c42b0]) | skip)
                                                      by_cases c43 : x4_1 = true
                                                      · subst c43
                                                        have H1 : (portmanteauref16_Time.j8 k7 true x10_7 false) = some (r1, r2) := by rw [if_pos rfl] at H; exact H
                                                        clear H
                                                        have H := H1
                                                        clear H1
                                                        have H' := Aside0.mk H
                                                        clear H
                                                        go_wp2
                                                        go_meet
                                                        case rel => exact ⟨_, (false), (by first | rfl | (simp; done) | (simp [ba_mk_size]; done) | (simp [ba_bne, ba_beq]; done) | (simp [*]; done)), H', ⟨by have := HJ1.out; have := HJ5.out; have := HJ8.out; have := HJ15.out; have := HJ22.out; have := HK6.out; have := HK7.out; first | omega | exact Nat.le_refl _⟩, by repeat (first | exact Drawn0.refl _ | apply Drawn0.step)⟩
                                                      · replace c43 := Bool.eq_false_iff.mpr c43
                                                        subst c43
                                                        have H1 : (portmanteauref16_Time.j8 k7 false x10_7 (decide (x10_7 > 9223372036854775807))) = some (r1, r2) := by rw [if_neg (show ¬ (false = true) by decide)] at H; exact H
                                                        clear H
                                                        have H := H1
                                                        clear H1
                                                        have H' := Aside0.mk H
                                                        clear H
                                                        go_wp2
                                                        go_meet
                                                        case rel => exact ⟨_, (decide (x10_7 > 9223372036854775807)), (by first | rfl | (simp; done) | (simp [ba_mk_size]; done) | (simp [ba_bne, ba_beq]; done) | (simp [*]; done)), H', ⟨by have := HJ1.out; have := HJ5.out; have := HJ8.out; have := HJ15.out; have := HJ22.out; have := HK6.out; have := HK7.out; first | omega | exact Nat.le_refl _⟩, by repeat (first | exact Drawn0.refl _ | apply Drawn0.step)⟩
                                                  case rest =>
                                                    clear HC41
                                                    try clear c1
                                                    try clear p1
                                                    try clear q1
                                                    try clear hx1
                                                    try clear c2
                                                    try clear p2
                                                    try clear q2
                                                    try clear hx2
                                                    try clear c3
                                                    try clear c3b0
                                                    try clear c3b1
                                                    try clear p3
                                                    try clear q3
                                                    try clear hx3
                                                    try clear c4
                                                    try clear c4b0
                                                    try clear c4b1
                                                    try clear p4
                                                    try clear q4
                                                    try clear hx4
                                                    try clear c5
                                                    try clear p5
                                                    try clear q5
                                                    try clear hx5
                                                    try clear qi5
                                                    try clear p6
                                                    try clear c7
                                                    try clear c8
                                                    try clear c8b0
                                                    try clear c8b1
                                                    try clear c10
                                                    try clear c10b0
                                                    try clear c11
                                                    try clear c11b0
                                                    try clear p12
                                                    try clear q12
                                                    try clear hx12
                                                    try clear c13
                                                    try clear c13b0
                                                    try clear c13b1
                                                    try clear c14
                                                    try clear c14b0
                                                    try clear c14b1
                                                    try clear c15
                                                    try clear c15b0
                                                    try clear c15b1
                                                    try clear c17
                                                    try clear c17b0
                                                    try clear c19
                                                    try clear c19b0
                                                    try clear c19b1
                                                    try clear c20
                                                    try clear c20b0
                                                    try clear c20b1
                                                    try clear c21
                                                    try clear c21b0
                                                    try clear c21b1
                                                    try clear c22
                                                    try clear c22b0
                                                    try clear c22b1
                                                    try clear c24
                                                    try clear c24b0
                                                    try clear c24b1
                                                    try clear c25
                                                    try clear c26
                                                    try clear c26b0
                                                    try clear c26b1
                                                    try clear c26b2
                                                    try clear c27
                                                    try clear c27b0
                                                    try clear c28
                                                    try clear c28b0
                                                    try clear p29
                                                    try clear q29
                                                    try clear hx29
                                                    try clear c30
                                                    try clear c30b0
                                                    try clear p31
                                                    try clear q31
                                                    try clear hx31
                                                    try clear c32
                                                    try clear c32b0
                                                    try clear c33
                                                    try clear c33b0
                                                    try clear c33b1
                                                    try clear c33b2
                                                    try clear c34
                                                    try clear c34b0
                                                    try clear c34b1
                                                    try clear c35
                                                    try clear c35b0
                                                    try clear c35b1
                                                    try clear c36
                                                    try clear c36b0
                                                    try clear c36b1
                                                    try clear c36b2
                                                    try clear c37
                                                    try clear c37b0
                                                    try clear c38
                                                    try clear c38b0
                                                    try clear c39
                                                    try clear c39b0
                                                    try clear p40
                                                    try clear q40
                                                    try clear hx40
                                                    try clear c42
                                                    try clear c42b0
                                                    try clear c43
                                                    try clear p1
                                                    try clear p12
                                                    try clear p2
                                                    try clear p29
                                                    try clear p3
                                                    try clear p31
                                                    try clear p40
                                                    try clear p5
                                                    try clear p6
                                                    try clear q1
                                                    try clear q12
                                                    try clear q2
                                                    try clear q29
                                                    try clear q3
                                                    try clear q31
                                                    try clear q40
                                                    try clear q5
                                                    skip -- xfix
                                                    obtain ⟨kq, x108_40, rfl, HA, HJ40, ⟨mc40, rfl⟩⟩ := hcut
                                                    cases kq with
                                                    | zero => exact absurd HA.out (by simp [portmanteauref16_Time.j8])
                                                    | succ kj40 =>
                                                      have H := HA.out
                                                      clear HA
                                                      simp only [portmanteauref16_Time.j8] at H
                                                      by_cases c44 : x108_40 = true
                                                      · subst c44
                                                        have H1 : (some (0, false)) = some (r1, r2) := by rw [if_pos rfl] at H; exact H
                                                        clear H
                                                        have H := H1
                                                        clear H1
                                                        simp only [Option.some.injEq, Prod.mk.injEq] at H
                                                        obtain ⟨rfl, rfl⟩ := H
                                                        go_wp2
                                                        go_ret2
                                                        exact ⟨by first | rfl | (simp; done) | (simp [ba_mk_size]; done) | (simp [ba_bne, ba_beq]; done) | (simp [*]; done), by repeat (first | exact Drawn0.refl _ | apply Drawn0.step)⟩
                                                      · replace c44 := Bool.eq_false_iff.mpr c44
                                                        subst c44
                                                        have H1 : (if x4_1 = true then (some (wrap64 (IntKind.u64.wrap (-x10_7)), true)) else (some (wrap64 (x10_7), true))) = some (r1, r2) := by rw [if_neg (show ¬ (false = true) by decide)] at H; exact H
                                                        clear H
                                                        have H := H1
                                                        clear H1
                                                        by_cases c45 : x4_1 = true
                                                        · subst c45
                                                          have H1 : (some (wrap64 (IntKind.u64.wrap (-x10_7)), true)) = some (r1, r2) := by rw [if_pos rfl] at H; exact H
                                                          clear H
                                                          have H := H1
                                                          clear H1
                                                          simp only [Option.some.injEq, Prod.mk.injEq] at H
                                                          obtain ⟨rfl, rfl⟩ := H
                                                          go_wp2
                                                          go_ret2
                                                          exact ⟨by first | rfl | (simp; done) | (simp [ba_mk_size]; done) | (simp [ba_bne, ba_beq]; done) | (simp [*]; done), by repeat (first | exact Drawn0.refl _ | apply Drawn0.step)⟩
                                                        · replace c45 := Bool.eq_false_iff.mpr c45
                                                          subst c45
                                                          have H1 : (some (wrap64 (x10_7), true)) = some (r1, r2) := by rw [if_neg (show ¬ (false = true) by decide)] at H; exact H
                                                          clear H
                                                          have H := H1
                                                          clear H1
                                                          simp only [Option.some.injEq, Prod.mk.injEq] at H
                                                          obtain ⟨rfl, rfl⟩ := H
                                                          go_wp2
                                                          go_ret2
                                                          exact ⟨by first | rfl | (simp; done) | (simp [ba_mk_size]; done) | (simp [ba_bne, ba_beq]; done) | (simp [*]; done), by repeat (first | exact Drawn0.refl _ | apply Drawn0.step)⟩
                                          · rw [if_neg c36] at H
                                            exact absurd H (by simp)
                                        · rw [if_neg c35] at H
                                          exact absurd H (by simp)
                                      · rw [if_neg c34] at H
                                        exact absurd H (by simp)
                                    · rw [if_neg c33] at H
                                      exact absurd H (by simp)
                            · rw [if_neg c26] at H
                              exact absurd H (by simp)
                · rw [if_neg c15] at H
                  exact absurd H (by simp)
              · rw [if_neg c14] at H
                exact absurd H (by simp)

end Go.Proofs.YtmmmmalicndkeaaDoor.X
