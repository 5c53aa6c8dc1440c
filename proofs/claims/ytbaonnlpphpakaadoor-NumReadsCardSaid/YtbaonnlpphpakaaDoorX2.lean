-- Printed by a program of this session (wip/tools/xprint.py) out of the translation.
import Derived.Test.YtbaonnlpphpakaaDoorX0
import Derived.Test.YtbaonnlpphpakaaDoorX1
namespace Go.Proofs.YtbaonnlpphpakaaDoor.X
open Go.RowKit Go.Proofs.YtbaonnlpphpakaaDoorW.PrintWords Go.Proofs.YtbaonnlpphpakaaDoorW.PrintLast Go.Proofs.YtbaonnlpphpakaaDoorW.PrintMore
attribute [local go_sem] max2_int min2_int max_two min_two max_three min_three max_four min_four   -- for this text's walks alone
set_option linter.unusedVariables false
set_option linter.unusedSimpArgs false

/-! ### num_Read: function 12 -/
mutual
def num_Read.j0 : Nat → List Int → Bool → Option (Int × Bool)
  | 0, _, _ => none
  | k + 1, x0, x16 => if x16 = true then (some (0, false)) else (if 0 < (x0.length : Int) then (if (rd x0 0) = 128 then (if 1 ≤ (x0.length : Int) then ((num_complement.f k (x0.drop 1) 0).bind fun bt125 => (some (bt125.1, bt125.2))) else (none)) else (if (rd x0 0) = 255 then (if 1 ≤ (x0.length : Int) then ((num_complement.f k (x0.drop 1) (-1)).bind fun bt132 => (some (bt132.1, bt132.2))) else (none)) else (num_Read.l0 k x0))) else (none))
def num_Read.j2 : Nat → List Int → Option (Int × Bool)
  | 0, _ => none
  | k + 1, x0 => (num_digits.f k x0).bind fun bt140 => (if bt140.2.2 = true then (if 0 ≤ bt140.2.1 then (if bt140.2.1 ≤ (x0.length : Int) then ((some (x0.drop (bt140.2.1 : Int).toNat : List Int)).bind fun y143 => (num_Read.l1 k bt140.1 y143 (y143.length : Int) 0)) else (none)) else (none)) else (some (0, false)))
def num_Read.l1 : Nat → Int → List Int → Int → Int → Option (Int × Bool)
  | 0, _, _, _, _ => none
  | k + 1, x4, x55, x56, x57 => if x57 < x56 then (if 0 ≤ x57 then (if x57 < (x55.length : Int) then (if (rd x55 x57) = 0 then (num_Read.l1 k x4 x55 x56 (wrap64 (x57 + 1))) else (if (rd x55 x57) = 32 then (num_Read.l1 k x4 x55 x56 (wrap64 (x57 + 1))) else (some (0, false)))) else (none)) else (none)) else (some (x4, true))
def num_Read.l0 : Nat → List Int → Option (Int × Bool)
  | 0, _ => none
  | k + 1, x0 => if (x0.length : Int) > 0 then (if 0 < (x0.length : Int) then (if (rd x0 0) = 32 then (if 1 ≤ (x0.length : Int) then (num_Read.l0 k (x0.drop 1)) else (none)) else (num_Read.j2 k x0)) else (none)) else (num_Read.j2 k x0)
end
def num_Read.f (k : Nat) (l0 : List Int) : Option (Int × Bool) := if (l0.length : Int) < 1 then (num_Read.j0 k l0 true) else (num_Read.j0 k l0 (decide ((l0.length : Int) > 12)))
theorem num_Read.mono_l : ∀ k, (∀ y0 y1, LeO (num_Read.j0 k y0 y1) (num_Read.j0 (k + 1) y0 y1)) ∧ (∀ y0, LeO (num_Read.j2 k y0) (num_Read.j2 (k + 1) y0)) ∧ (∀ y0 y1 y2 y3, LeO (num_Read.l1 k y0 y1 y2 y3) (num_Read.l1 (k + 1) y0 y1 y2 y3)) ∧ (∀ y0, LeO (num_Read.l0 k y0) (num_Read.l0 (k + 1) y0))
  | 0 => ⟨fun _ _ r h => by simp [num_Read.j0] at h, fun _ r h => by simp [num_Read.j2] at h, fun _ _ _ _ r h => by simp [num_Read.l1] at h, fun _ r h => by simp [num_Read.l0] at h⟩
  | k + 1 => by
    obtain ⟨ih0, ih1, ih2, ih3⟩ := num_Read.mono_l k
    refine ⟨?_, ?_, ?_, ?_⟩
    · intro y0 y1
      unfold num_Read.j0
      repeat' first
      | (with_reducible exact ih0 _ _)
      | (with_reducible exact ih1 _)
      | (with_reducible exact ih2 _ _ _ _)
      | (with_reducible exact ih3 _)
      | (with_reducible exact num_complement.mono _ _ _)
      | (with_reducible exact num_digits.mono _ _)
      | (with_reducible exact LeO.refl _)
      | (with_reducible exact LeO.none _)
      | (with_reducible refine LeO.ite ?_ ?_)
      | (with_reducible refine LeO.bind ?_ (fun _ => ?_))
      | exact ih0 _ _
      | exact ih1 _
      | exact ih2 _ _ _ _
      | exact ih3 _
      | exact num_complement.mono _ _ _
      | exact num_digits.mono _ _
      | exact LeO.none _
      | refine LeO.ite ?_ ?_
      | refine LeO.bind ?_ (fun _ => ?_)
    · intro y0
      unfold num_Read.j2
      repeat' first
      | (with_reducible exact ih0 _ _)
      | (with_reducible exact ih1 _)
      | (with_reducible exact ih2 _ _ _ _)
      | (with_reducible exact ih3 _)
      | (with_reducible exact num_complement.mono _ _ _)
      | (with_reducible exact num_digits.mono _ _)
      | (with_reducible exact LeO.refl _)
      | (with_reducible exact LeO.none _)
      | (with_reducible refine LeO.ite ?_ ?_)
      | (with_reducible refine LeO.bind ?_ (fun _ => ?_))
      | exact ih0 _ _
      | exact ih1 _
      | exact ih2 _ _ _ _
      | exact ih3 _
      | exact num_complement.mono _ _ _
      | exact num_digits.mono _ _
      | exact LeO.none _
      | refine LeO.ite ?_ ?_
      | refine LeO.bind ?_ (fun _ => ?_)
    · intro y0 y1 y2 y3
      unfold num_Read.l1
      repeat' first
      | (with_reducible exact ih0 _ _)
      | (with_reducible exact ih1 _)
      | (with_reducible exact ih2 _ _ _ _)
      | (with_reducible exact ih3 _)
      | (with_reducible exact num_complement.mono _ _ _)
      | (with_reducible exact num_digits.mono _ _)
      | (with_reducible exact LeO.refl _)
      | (with_reducible exact LeO.none _)
      | (with_reducible refine LeO.ite ?_ ?_)
      | (with_reducible refine LeO.bind ?_ (fun _ => ?_))
      | exact ih0 _ _
      | exact ih1 _
      | exact ih2 _ _ _ _
      | exact ih3 _
      | exact num_complement.mono _ _ _
      | exact num_digits.mono _ _
      | exact LeO.none _
      | refine LeO.ite ?_ ?_
      | refine LeO.bind ?_ (fun _ => ?_)
    · intro y0
      unfold num_Read.l0
      repeat' first
      | (with_reducible exact ih0 _ _)
      | (with_reducible exact ih1 _)
      | (with_reducible exact ih2 _ _ _ _)
      | (with_reducible exact ih3 _)
      | (with_reducible exact num_complement.mono _ _ _)
      | (with_reducible exact num_digits.mono _ _)
      | (with_reducible exact LeO.refl _)
      | (with_reducible exact LeO.none _)
      | (with_reducible refine LeO.ite ?_ ?_)
      | (with_reducible refine LeO.bind ?_ (fun _ => ?_))
      | exact ih0 _ _
      | exact ih1 _
      | exact ih2 _ _ _ _
      | exact ih3 _
      | exact num_complement.mono _ _ _
      | exact num_digits.mono _ _
      | exact LeO.none _
      | refine LeO.ite ?_ ?_
      | refine LeO.bind ?_ (fun _ => ?_)
theorem num_Read.mono : ∀ a0 k, LeO (num_Read.f k a0) (num_Read.f (k + 1) a0) := by
  intro a0 k
  obtain ⟨ih0, ih1, ih2, ih3⟩ := num_Read.mono_l k
  unfold num_Read.f
  repeat' first
      | (with_reducible exact ih0 _ _)
      | (with_reducible exact ih1 _)
      | (with_reducible exact ih2 _ _ _ _)
      | (with_reducible exact ih3 _)
      | (with_reducible exact num_complement.mono _ _ _)
      | (with_reducible exact num_digits.mono _ _)
      | (with_reducible exact LeO.refl _)
      | (with_reducible exact LeO.none _)
      | (with_reducible refine LeO.ite ?_ ?_)
      | (with_reducible refine LeO.bind ?_ (fun _ => ?_))
      | exact ih0 _ _
      | exact ih1 _
      | exact ih2 _ _ _ _
      | exact ih3 _
      | exact num_complement.mono _ _ _
      | exact num_digits.mono _ _
      | exact LeO.none _
      | refine LeO.ite ?_ ?_
      | refine LeO.bind ?_ (fun _ => ?_)
set_option maxHeartbeats 8000000 in
set_option maxRecDepth 100000 in
theorem num_Read.calls (k : Nat) (P0_ : Nat → Prop) (A0 : Option Addr) (c0 : Nat) (l0 : List Int) (r1 : Int) (r2 : Bool) (w : World) (hs0 : Kd.V (Kd.int .u8) 5 w w.heap.size (fun k_ => P0_ k_) (.slice A0 l0.length c0) l0) (h : num_Read.f k l0 = some (r1, r2)) :
    Calls Tryd.prog 12 #[.slice A0 l0.length c0] w fun e w' => e = .returned (.tuple #[.int .i64 r1, .bool r2]) ∧ Below w.heap.size w w' := by
  have HO0 := Aside0.mk (show Kd.V (Kd.int .u8) 5 w w.heap.size (fun k_ => (P0_ k_ ∨ w.heap.size ≤ k_)) (.slice A0 l0.length c0) l0 from Kd.V_mono hs0 (fun k_ hk => .inl hk))
  have HB := Aside0.mk (Below.refl w.heap.size w)
  have H : (if (l0.length : Int) < 1 then (num_Read.j0 k l0 true) else (num_Read.j0 k l0 (decide ((l0.length : Int) > 12)))) = some (r1, r2) := h
  clear h
  have HC2 := Aside0.mk H
  clear H
  go_enter Tryd.func12, Tryd.ntmps12
  go_upto_region 1 with (fail)
  go_cut [16] (fun v16 wc => ∃ (kq : Nat) (x16_1 : Bool), v16 = .bool x16_1 ∧ Aside0 (num_Read.j0 kq l0 x16_1 = some (r1, r2)) ∧ Aside0 (kq ≤ k) ∧ Aside0 (Kd.V (Kd.int .u8) 5 wc w.heap.size (fun k_ => (P0_ k_ ∨ w.heap.size ≤ k_)) (.slice A0 l0.length c0) l0) ∧ Aside0 (Below w.heap.size w wc))
  case first =>
    have H := HC2.out
    clear HC2
    by_cases c3 : (l0.length : Int) < 1
    · rw [if_pos c3] at H
      have c3b0 : decide ((l0.length : Int) < 1) = true := decide_eq_true c3
      have c3b1 : decide (l0.length < 1) = true := decide_eq_true (by omega)
      clear c3
      (first | rw [c3b0] | (simp only [i64_w, i32_w]; rw [c3b0]) | skip)
      have H' := Aside0.mk H
      clear H
      go_wp2
      go_meet
      case rel => exact ⟨_, (true), (by first | rfl | (simp; done) | (simp [*]; done)), H', ⟨by first | omega | exact Nat.le_refl _⟩, ⟨by (with_reducible repeat (first | apply Kd.V_alloc | apply Kd.V_drewN | apply Kd.V_drew)); exact HO0.out⟩, ⟨by repeat (first | (with_reducible first | exact HB.out | apply below_alloc | apply pw_below_drewN | apply below_drew1) | exact HB.out)⟩⟩
    · rw [if_neg c3] at H
      have c3b0 : decide ((l0.length : Int) < 1) = false := decide_eq_false c3
      have c3b1 : decide (l0.length < 1) = false := decide_eq_false (by omega)
      clear c3
      (first | rw [c3b0] | (simp only [i64_w, i32_w]; rw [c3b0]) | skip)
      have H' := Aside0.mk H
      clear H
      go_wp2
      go_meet
      case rel => exact ⟨_, (decide ((l0.length : Int) > 12)), (by first | rfl | (simp; done) | (simp [*]; done)), H', ⟨by first | omega | exact Nat.le_refl _⟩, ⟨by (with_reducible repeat (first | apply Kd.V_alloc | apply Kd.V_drewN | apply Kd.V_drew)); exact HO0.out⟩, ⟨by repeat (first | (with_reducible first | exact HB.out | apply below_alloc | apply pw_below_drewN | apply below_drew1) | exact HB.out)⟩⟩
  case rest =>
    clear HC2
    try clear c1
    try clear p2
    try clear c3
    try clear c3b0
    try clear c3b1
    obtain ⟨kq, x16_1, rfl, HA, HJ1, HO_0, HB⟩ := hcut
    cases kq with
    | zero => exact absurd HA.out (by simp [num_Read.j0])
    | succ kj1 =>
      have H := HA.out
      clear HA
      simp only [num_Read.j0] at H
      by_cases c4 : x16_1 = true
      · subst c4
        have H1 : (some (0, false)) = some (r1, r2) := by rw [if_pos rfl] at H; exact H
        clear H
        have H := H1
        clear H1
        simp only [Option.some.injEq, Prod.mk.injEq] at H
        obtain ⟨rfl, rfl⟩ := H
        go_wp2
        go_ret2
        exact ⟨by first | rfl | (simp [errW_none, errW_some] <;> rfl) | (simp [*, errW_none, errW_some] <;> rfl), by repeat (first | (with_reducible first | exact HB.out | apply below_alloc | apply pw_below_drewN | apply below_drew1) | exact HB.out)⟩
      · replace c4 := Bool.eq_false_iff.mpr c4
        subst c4
        have H1 : (if 0 < (l0.length : Int) then (if (rd l0 0) = 128 then (if 1 ≤ (l0.length : Int) then ((num_complement.f kj1 (l0.drop 1) 0).bind fun bt125 => (some (bt125.1, bt125.2))) else (none)) else (if (rd l0 0) = 255 then (if 1 ≤ (l0.length : Int) then ((num_complement.f kj1 (l0.drop 1) (-1)).bind fun bt132 => (some (bt132.1, bt132.2))) else (none)) else (num_Read.l0 kj1 l0))) else (none)) = some (r1, r2) := by rw [if_neg (show ¬ (false = true) by decide)] at H; exact H
        clear H
        have H := H1
        clear H1
        by_cases c5 : 0 < (l0.length : Int)
        · rw [if_pos c5] at H
          have c5b0 : decide (0 < (l0.length : Int)) = true := decide_eq_true c5
          have c5b1 : decide (0 < l0.length) = true := decide_eq_true (by omega)
          clear c5
          by_cases c6 : (rd l0 0) = 128
          · rw [if_pos c6] at H
            have c6b0 : ((rd l0 0) == 128) = true := beq_iff_eq.mpr c6
            have c6b1 : ((rd l0 0) != 128) = false := bne_eq_false_iff_eq.mpr c6
            clear c6
            by_cases c7 : 1 ≤ (l0.length : Int)
            · rw [if_pos c7] at H
              have c7b0 := eq_true c7
              have c7b1 : decide (1 ≤ (l0.length : Int)) = true := decide_eq_true c7
              clear c7
              obtain ⟨y120, hy120⟩ : ∃ y_ : List Int, y_ = (l0.drop 1) := ⟨_, rfl⟩
              replace H : ((num_complement.f kj1 y120 0).bind fun bt125 => (some (bt125.1, bt125.2))) = some (r1, r2) := by first | (rw [hy120]; with_reducible exact H) | (have H2_ := (Option.bind_some _ _).symm.trans H; rw [hy120]; with_reducible exact H2_) | (have H2_ := (Option.bind_some _ _).symm.trans H; with_reducible exact H2_) | with_reducible exact H | (rw [hy120]; exact H) | exact H
              have Ny120 := Aside0.mk hy120
              clear hy120
              replace H := Option.bind_eq_some_iff.mp H
              obtain ⟨⟨t125, t126⟩, A80, H⟩ := H
              replace H : (some (t125, t126)) = some (r1, r2) := H
              have A8 := Aside0.mk A80
              clear A80
              simp only [Option.some.injEq, Prod.mk.injEq] at H
              obtain ⟨rfl, rfl⟩ := H
              have p119 : 0 ≤ (0 : Int) := (by omega)
              have q119 : 0 < (l0.length : Int) := of_decide_eq_true (by first | (with_reducible assumption) | assumption)
              obtain ⟨ad119, e119, hx119_0⟩ := Kd.at_int (Kd.V_reads' HO_0.out).2.2 0 p119 q119
              cases e119
              have qi119 : (0 < l0.length) = True := eq_true (by omega)
              (try rw [show ((0 : Int)).toNat = 0 from rfl] at hx119_0)
              (try rw [Addr.add_zero'] at hx119_0)
              replace p119 := eq_true p119
              replace q119 := eq_true q119
              have q9 : (1 : Int) ≤ ((l0.length : Int) : Int) := of_decide_eq_true (by first | (with_reducible assumption) | assumption)
              obtain ⟨i09, hi09, _, hsz9, _⟩ := info_parts info5
              have hroom9 : l0.length ≤ c0 := (Kd.V_reads' HO_0.out).2.1
              have hC9 : Kd.F (Kd.int .u8) _ _ (some ad119) l0.length l0 := (Kd.V_at (base := w.heap.size) HO_0.out).2.2
              have hcut9 := cut_from (P := Tryd.prog) 29 5 .i64 Tryd.underlying29 hi09 1 hsz9 (some ad119) l0.length c0 1 (by omega) q9
              have hr9 := Kd.F_cut (m := (1 : Int).toNat) (c := c0) hC9 (by omega) hroom9
              obtain ⟨A9, hA9⟩ : ∃ A1, A1 = (if c0 = (1 : Int).toNat then (some ad119) else ((some ad119) : Option Addr).map (·.add ((1 : Int).toNat * 1))) := ⟨_, rfl⟩
              obtain ⟨c9, hc9⟩ : ∃ c1, c1 = c0 - (1 : Int).toNat := ⟨_, rfl⟩
              have hy9 : y120.length = l0.length - (1 : Int).toNat := (by rw [Ny120.out, List.length_drop] <;> omega)
              rw [show (l0).drop (1 : Int).toNat = y120 from Ny120.out.symm] at hr9
              replace hr9 : Kd.F (Kd.int .u8) _ _ A9 y120.length y120 := (by rw [hA9]; exact hr9)
              rw [← hy9, ← hA9, ← hc9] at hcut9
              have HO124 := Aside0.mk (show Kd.V (Kd.int .u8) 5 _ w.heap.size _ (.slice A9 y120.length c9) y120 from Kd.V_mk (by rw [hy9, hc9]; exact Nat.sub_le_sub_right hroom9 _) hr9)
              have HC124 := Aside0.mk (show y120.length ≤ c9 from by rw [hy9, hc9]; exact Nat.sub_le_sub_right hroom9 _)
              clear hr9 hC9 hroom9 hi09 hsz9 hc9
              have KY9 := Aside0.mk hy9
              have KA9 := Aside0.mk hA9
              clear hy9 hA9
              replace q9 := eq_true q9
              go_wp2_with (first | ((with_reducible refine gate_callee (f := 25) rfl ?_); refine goesL_ (some 24) rfl rfl Tryd.func25 (by kernel_rfl) rfl #[.slice A9 y120.length c9, .int .i64 0] rfl (by (try simp only [List.map_toArray, List.map_cons, List.map_nil]); first | done | rfl | (simp only [List.length_drop, List.length_take]; rfl)) ?_; (with_reducible refine (num_complement.calls kj1 _ _ y120 0 t125 t126 _ ?side1 ?side2 A8.out).mono ?_); (case side1 => repeat (first | exact (Kd.V_reads' HO124.out).2.2 | (with_reducible refine Kd.C_alloc ?_ _) | (with_reducible refine Kd.C_drewN ?_ _) | (with_reducible refine Kd.C_drew ?_))); (case side2 => exact (Kd.V_reads' HO124.out).2.1); rintro e w' ⟨rfl, ⟨nd, rfl⟩⟩; refine ⟨_, rfl, ?_⟩))
              go_ret2
              exact ⟨by first | rfl | (simp [errW_none, errW_some] <;> rfl) | (simp [*, errW_none, errW_some] <;> rfl), by repeat (first | (with_reducible first | exact HB.out | apply below_alloc | apply pw_below_drewN | apply below_drew1) | exact HB.out)⟩
            · rw [if_neg c7] at H
              exact absurd H (by simp)
          · rw [if_neg c6] at H
            have c6b0 : ((rd l0 0) == 128) = false := beq_eq_false_iff_ne.mpr c6
            have c6b1 : ((rd l0 0) != 128) = true := bne_iff_ne.mpr c6
            by_cases c10 : (rd l0 0) = 255
            · rw [if_pos c10] at H
              have c10b0 : ((rd l0 0) == 255) = true := beq_iff_eq.mpr c10
              have c10b1 : ((rd l0 0) != 255) = false := bne_eq_false_iff_eq.mpr c10
              clear c10
              by_cases c11 : 1 ≤ (l0.length : Int)
              · rw [if_pos c11] at H
                have c11b0 := eq_true c11
                have c11b1 : decide (1 ≤ (l0.length : Int)) = true := decide_eq_true c11
                clear c11
                obtain ⟨y127, hy127⟩ : ∃ y_ : List Int, y_ = (l0.drop 1) := ⟨_, rfl⟩
                replace H : ((num_complement.f kj1 y127 (-1)).bind fun bt132 => (some (bt132.1, bt132.2))) = some (r1, r2) := by first | (rw [hy127]; with_reducible exact H) | (have H2_ := (Option.bind_some _ _).symm.trans H; rw [hy127]; with_reducible exact H2_) | (have H2_ := (Option.bind_some _ _).symm.trans H; with_reducible exact H2_) | with_reducible exact H | (rw [hy127]; exact H) | exact H
                have Ny127 := Aside0.mk hy127
                clear hy127
                replace H := Option.bind_eq_some_iff.mp H
                obtain ⟨⟨t132, t133⟩, A120, H⟩ := H
                replace H : (some (t132, t133)) = some (r1, r2) := H
                have A12 := Aside0.mk A120
                clear A120
                simp only [Option.some.injEq, Prod.mk.injEq] at H
                obtain ⟨rfl, rfl⟩ := H
                have p119 : 0 ≤ (0 : Int) := (by omega)
                have q119 : 0 < (l0.length : Int) := of_decide_eq_true (by first | (with_reducible assumption) | assumption)
                obtain ⟨ad119, e119, hx119_0⟩ := Kd.at_int (Kd.V_reads' HO_0.out).2.2 0 p119 q119
                cases e119
                have qi119 : (0 < l0.length) = True := eq_true (by omega)
                (try rw [show ((0 : Int)).toNat = 0 from rfl] at hx119_0)
                (try rw [Addr.add_zero'] at hx119_0)
                replace p119 := eq_true p119
                replace q119 := eq_true q119
                have q13 : (1 : Int) ≤ ((l0.length : Int) : Int) := of_decide_eq_true (by first | (with_reducible assumption) | assumption)
                obtain ⟨i013, hi013, _, hsz13, _⟩ := info_parts info5
                have hroom13 : l0.length ≤ c0 := (Kd.V_reads' HO_0.out).2.1
                have hC13 : Kd.F (Kd.int .u8) _ _ (some ad119) l0.length l0 := (Kd.V_at (base := w.heap.size) HO_0.out).2.2
                have hcut13 := cut_from (P := Tryd.prog) 29 5 .i64 Tryd.underlying29 hi013 1 hsz13 (some ad119) l0.length c0 1 (by omega) q13
                have hr13 := Kd.F_cut (m := (1 : Int).toNat) (c := c0) hC13 (by omega) hroom13
                obtain ⟨A13, hA13⟩ : ∃ A1, A1 = (if c0 = (1 : Int).toNat then (some ad119) else ((some ad119) : Option Addr).map (·.add ((1 : Int).toNat * 1))) := ⟨_, rfl⟩
                obtain ⟨c13, hc13⟩ : ∃ c1, c1 = c0 - (1 : Int).toNat := ⟨_, rfl⟩
                have hy13 : y127.length = l0.length - (1 : Int).toNat := (by rw [Ny127.out, List.length_drop] <;> omega)
                rw [show (l0).drop (1 : Int).toNat = y127 from Ny127.out.symm] at hr13
                replace hr13 : Kd.F (Kd.int .u8) _ _ A13 y127.length y127 := (by rw [hA13]; exact hr13)
                rw [← hy13, ← hA13, ← hc13] at hcut13
                have HO131 := Aside0.mk (show Kd.V (Kd.int .u8) 5 _ w.heap.size _ (.slice A13 y127.length c13) y127 from Kd.V_mk (by rw [hy13, hc13]; exact Nat.sub_le_sub_right hroom13 _) hr13)
                have HC131 := Aside0.mk (show y127.length ≤ c13 from by rw [hy13, hc13]; exact Nat.sub_le_sub_right hroom13 _)
                clear hr13 hC13 hroom13 hi013 hsz13 hc13
                have KY13 := Aside0.mk hy13
                have KA13 := Aside0.mk hA13
                clear hy13 hA13
                replace q13 := eq_true q13
                go_wp2_with (first | ((with_reducible refine gate_callee (f := 25) rfl ?_); refine goesL_ (some 31) rfl rfl Tryd.func25 (by kernel_rfl) rfl #[.slice A13 y127.length c13, .int .i64 (-1)] rfl (by (try simp only [List.map_toArray, List.map_cons, List.map_nil]); first | done | rfl | (simp only [List.length_drop, List.length_take]; rfl)) ?_; (with_reducible refine (num_complement.calls kj1 _ _ y127 (-1) t132 t133 _ ?side1 ?side2 A12.out).mono ?_); (case side1 => repeat (first | exact (Kd.V_reads' HO131.out).2.2 | (with_reducible refine Kd.C_alloc ?_ _) | (with_reducible refine Kd.C_drewN ?_ _) | (with_reducible refine Kd.C_drew ?_))); (case side2 => exact (Kd.V_reads' HO131.out).2.1); rintro e w' ⟨rfl, ⟨nd, rfl⟩⟩; refine ⟨_, rfl, ?_⟩))
                go_ret2
                exact ⟨by first | rfl | (simp [errW_none, errW_some] <;> rfl) | (simp [*, errW_none, errW_some] <;> rfl), by repeat (first | (with_reducible first | exact HB.out | apply below_alloc | apply pw_below_drewN | apply below_drew1) | exact HB.out)⟩
              · rw [if_neg c11] at H
                exact absurd H (by simp)
            · rw [if_neg c10] at H
              have c10b0 : ((rd l0 0) == 255) = false := beq_eq_false_iff_ne.mpr c10
              have c10b1 : ((rd l0 0) != 255) = true := bne_iff_ne.mpr c10
              have HC14 := Aside0.mk H
              clear H
              have p119 : 0 ≤ (0 : Int) := (by omega)
              have q119 : 0 < (l0.length : Int) := of_decide_eq_true (by first | (with_reducible assumption) | assumption)
              obtain ⟨ad119, e119, hx119_0⟩ := Kd.at_int (Kd.V_reads' HO_0.out).2.2 0 p119 q119
              cases e119
              have qi119 : (0 < l0.length) = True := eq_true (by omega)
              (try rw [show ((0 : Int)).toNat = 0 from rfl] at hx119_0)
              (try rw [Addr.add_zero'] at hx119_0)
              replace p119 := eq_true p119
              replace q119 := eq_true q119
              go_upto_block 1 with (fail)
              go_cut [0] (fun v0 wc => ∃ (kq : Nat) (x0_13 : List Int), Aside0 (num_Read.j2 kq x0_13 = some (r1, r2)) ∧ Aside0 (kq ≤ kj1) ∧ Aside0 (Kd.V (Kd.int .u8) 5 wc w.heap.size (fun k_ => (P0_ k_ ∨ w.heap.size ≤ k_)) v0 x0_13) ∧ Aside0 (Below w.heap.size w wc))
              case first =>
                have H := HC14.out
                clear HC14
                have H' := Aside0.mk H
                clear H
                go_wp2
                go_loopg [0] kj1 (fun kq v0 w' => ∃ (x0_2 : List Int), Aside0 (num_Read.l0 kq x0_2 = some (r1, r2)) ∧ Aside0 (kq ≤ kj1) ∧ Aside0 (Kd.V (Kd.int .u8) 5 w' w.heap.size (fun k_ => (P0_ k_ ∨ w.heap.size ≤ k_)) v0 x0_2) ∧ Aside0 (Below w.heap.size w w'))
                case atStart => exact ⟨(l0), H', ⟨Nat.le_refl _⟩, ⟨by (with_reducible repeat (first | apply Kd.V_alloc | apply Kd.V_drewN | apply Kd.V_drew)); exact HO_0.out⟩, ⟨by repeat (first | (with_reducible first | exact HB.out | apply below_alloc | apply pw_below_drewN | apply below_drew1) | exact HB.out)⟩⟩
                case round =>
                  clear H'
                  try clear c1
                  try clear p1
                  try clear q1
                  try clear hx1
                  try clear qi1
                  try clear c2
                  try clear p2
                  try clear c3
                  try clear c3b0
                  try clear c3b1
                  try clear c4
                  try clear c5
                  try clear c5b0
                  try clear c5b1
                  try clear c6
                  try clear c6b0
                  try clear c6b1
                  try clear c7
                  try clear c7b0
                  try clear c7b1
                  try clear c9
                  try clear q9
                  try clear c10
                  try clear c10b0
                  try clear c10b1
                  try clear c11
                  try clear c11b0
                  try clear c11b1
                  try clear p11
                  try clear q11
                  try clear hx11
                  try clear qi11
                  try clear c12
                  try clear c13
                  try clear q13
                  try clear hx119_0
                  try clear p119
                  try clear p2
                  try clear q119
                  try clear q13
                  try clear q9
                  obtain ⟨x0_2, HA, HK2, HO_0, HB⟩ := hrel
                  cases gk with
                  | zero => exact absurd HA.out (by simp [num_Read.l0])
                  | succ k2 =>
                    have H := HA.out
                    clear HA
                    simp only [num_Read.l0] at H
                    by_cases c15 : (x0_2.length : Int) > 0
                    · rw [if_pos c15] at H
                      have c15b0 : decide (0 < (x0_2.length : Int)) = true := decide_eq_true c15
                      have c15b1 : decide (0 < x0_2.length) = true := decide_eq_true (by omega)
                      clear c15
                      (first | rw [c15b0] | (simp only [i64_w, i32_w]; rw [c15b0]) | skip)
                      by_cases c16 : 0 < (x0_2.length : Int)
                      · rw [if_pos c16] at H
                        have c16b0 : decide (0 < (x0_2.length : Int)) = true := decide_eq_true c16
                        have c16b1 : decide (0 < x0_2.length) = true := decide_eq_true (by omega)
                        clear c16
                        by_cases c17 : (rd x0_2 0) = 32
                        · rw [if_pos c17] at H
                          have c17b0 : ((rd x0_2 0) == 32) = true := beq_iff_eq.mpr c17
                          have c17b1 : ((rd x0_2 0) != 32) = false := bne_eq_false_iff_eq.mpr c17
                          clear c17
                          by_cases c18 : 1 ≤ (x0_2.length : Int)
                          · rw [if_pos c18] at H
                            have c18b0 := eq_true c18
                            have c18b1 : decide (1 ≤ (x0_2.length : Int)) = true := decide_eq_true c18
                            clear c18
                            obtain ⟨y135, hy135⟩ : ∃ y_ : List Int, y_ = (x0_2.drop 1) := ⟨_, rfl⟩
                            replace H : (num_Read.l0 k2 y135) = some (r1, r2) := by first | (rw [hy135]; with_reducible exact H) | (have H2_ := (Option.bind_some _ _).symm.trans H; rw [hy135]; with_reducible exact H2_) | (have H2_ := (Option.bind_some _ _).symm.trans H; with_reducible exact H2_) | with_reducible exact H | (rw [hy135]; exact H) | exact H
                            have Ny135 := Aside0.mk hy135
                            clear hy135
                            have H' := Aside0.mk H
                            clear H
                            obtain ⟨Ao19, co19, eo19⟩ := Kd.V_slice HO_0.out
                            subst eo19
                            have p134 : 0 ≤ (0 : Int) := (by omega)
                            have q134 : 0 < (x0_2.length : Int) := of_decide_eq_true (by first | (with_reducible assumption) | assumption)
                            obtain ⟨ad134, e134, hx134_0⟩ := Kd.at_int (Kd.V_reads' HO_0.out).2.2 0 p134 q134
                            cases e134
                            have qi134 : (0 < x0_2.length) = True := eq_true (by omega)
                            (try rw [show ((0 : Int)).toNat = 0 from rfl] at hx134_0)
                            (try rw [Addr.add_zero'] at hx134_0)
                            replace p134 := eq_true p134
                            replace q134 := eq_true q134
                            have q20 : (1 : Int) ≤ ((x0_2.length : Int) : Int) := of_decide_eq_true (by first | (with_reducible assumption) | assumption)
                            obtain ⟨i020, hi020, _, hsz20, _⟩ := info_parts info5
                            have hroom20 : x0_2.length ≤ co19 := (Kd.V_reads' HO_0.out).2.1
                            have hC20 : Kd.F (Kd.int .u8) _ _ (some ad134) x0_2.length x0_2 := (Kd.V_at (base := w.heap.size) HO_0.out).2.2
                            have hcut20 := cut_from (P := Tryd.prog) 29 5 .i64 Tryd.underlying29 hi020 1 hsz20 (some ad134) x0_2.length co19 1 (by omega) q20
                            have hr20 := Kd.F_cut (m := (1 : Int).toNat) (c := co19) hC20 (by omega) hroom20
                            obtain ⟨A20, hA20⟩ : ∃ A1, A1 = (if co19 = (1 : Int).toNat then (some ad134) else ((some ad134) : Option Addr).map (·.add ((1 : Int).toNat * 1))) := ⟨_, rfl⟩
                            obtain ⟨c20, hc20⟩ : ∃ c1, c1 = co19 - (1 : Int).toNat := ⟨_, rfl⟩
                            have hy20 : y135.length = x0_2.length - (1 : Int).toNat := (by rw [Ny135.out, List.length_drop] <;> omega)
                            rw [show (x0_2).drop (1 : Int).toNat = y135 from Ny135.out.symm] at hr20
                            replace hr20 : Kd.F (Kd.int .u8) _ _ A20 y135.length y135 := (by rw [hA20]; exact hr20)
                            rw [← hy20, ← hA20, ← hc20] at hcut20
                            have HO139 := Aside0.mk (show Kd.V (Kd.int .u8) 5 _ w.heap.size _ (.slice A20 y135.length c20) y135 from Kd.V_mk (by rw [hy20, hc20]; exact Nat.sub_le_sub_right hroom20 _) hr20)
                            have HC139 := Aside0.mk (show y135.length ≤ c20 from by rw [hy20, hc20]; exact Nat.sub_le_sub_right hroom20 _)
                            clear hr20 hC20 hroom20 hi020 hsz20 hc20
                            have KY20 := Aside0.mk hy20
                            have KA20 := Aside0.mk hA20
                            clear hy20 hA20
                            replace q20 := eq_true q20
                            go_wp2
                            go_roundg k2
                            case measure => have := HJ1.out; have := HK2.out; omega
                            case rel => exact ⟨(y135), H', ⟨by have := HJ1.out; have := HK2.out; omega⟩, ⟨by (with_reducible repeat (first | apply Kd.V_alloc | apply Kd.V_drewN | apply Kd.V_drew)); exact HO139.out⟩, ⟨by repeat (first | (with_reducible first | exact HB.out | apply below_alloc | apply pw_below_drewN | apply below_drew1) | exact HB.out)⟩⟩
                          · rw [if_neg c18] at H
                            exact absurd H (by simp)
                        · rw [if_neg c17] at H
                          have c17b0 : ((rd x0_2 0) == 32) = false := beq_eq_false_iff_ne.mpr c17
                          have c17b1 : ((rd x0_2 0) != 32) = true := bne_iff_ne.mpr c17
                          have H' := Aside0.mk H
                          clear H
                          obtain ⟨Ao21, co21, eo21⟩ := Kd.V_slice HO_0.out
                          subst eo21
                          have p134 : 0 ≤ (0 : Int) := (by omega)
                          have q134 : 0 < (x0_2.length : Int) := of_decide_eq_true (by first | (with_reducible assumption) | assumption)
                          obtain ⟨ad134, e134, hx134_0⟩ := Kd.at_int (Kd.V_reads' HO_0.out).2.2 0 p134 q134
                          cases e134
                          have qi134 : (0 < x0_2.length) = True := eq_true (by omega)
                          (try rw [show ((0 : Int)).toNat = 0 from rfl] at hx134_0)
                          (try rw [Addr.add_zero'] at hx134_0)
                          replace p134 := eq_true p134
                          replace q134 := eq_true q134
                          go_wp2
                          go_meet
                          case rel => exact ⟨_, (x0_2), H', ⟨by have := HJ1.out; have := HK2.out; first | omega | exact Nat.le_refl _⟩, ⟨by (with_reducible repeat (first | apply Kd.V_alloc | apply Kd.V_drewN | apply Kd.V_drew)); exact HO_0.out⟩, ⟨by repeat (first | (with_reducible first | exact HB.out | apply below_alloc | apply pw_below_drewN | apply below_drew1) | exact HB.out)⟩⟩
                      · rw [if_neg c16] at H
                        exact absurd H (by simp)
                    · rw [if_neg c15] at H
                      have c15b0 : decide (0 < (x0_2.length : Int)) = false := decide_eq_false c15
                      have c15b1 : decide (0 < x0_2.length) = false := decide_eq_false (by omega)
                      have c15b2 : (0 < x0_2.length) = False := eq_false (by omega)
                      clear c15
                      (first | rw [c15b0] | (simp only [i64_w, i32_w]; rw [c15b0]) | skip)
                      have H' := Aside0.mk H
                      clear H
                      obtain ⟨Ao22, co22, eo22⟩ := Kd.V_slice HO_0.out
                      subst eo22
                      go_wp2
                      go_meet
                      case rel => exact ⟨_, (x0_2), H', ⟨by have := HJ1.out; have := HK2.out; first | omega | exact Nat.le_refl _⟩, ⟨by (with_reducible repeat (first | apply Kd.V_alloc | apply Kd.V_drewN | apply Kd.V_drew)); exact HO_0.out⟩, ⟨by repeat (first | (with_reducible first | exact HB.out | apply below_alloc | apply pw_below_drewN | apply below_drew1) | exact HB.out)⟩⟩
              case rest =>
                clear HC14
                try clear c1
                try clear p1
                try clear q1
                try clear hx1
                try clear qi1
                try clear c2
                try clear p2
                try clear q2
                try clear c3
                try clear c3b0
                try clear c3b1
                try clear c4
                try clear c5
                try clear c5b0
                try clear c5b1
                try clear c6
                try clear c6b0
                try clear c6b1
                try clear c7
                try clear c7b0
                try clear c7b1
                try clear c9
                try clear q9
                try clear c10
                try clear c10b0
                try clear c10b1
                try clear c11
                try clear c11b0
                try clear c11b1
                try clear p11
                try clear q11
                try clear hx11
                try clear qi11
                try clear c12
                try clear c13
                try clear p13
                try clear q13
                try clear hx13
                try clear qi13
                try clear c15
                try clear c15b0
                try clear c15b1
                try clear c15b2
                try clear c16
                try clear c16b0
                try clear c16b1
                try clear c17
                try clear c17b0
                try clear c17b1
                try clear c18
                try clear c18b0
                try clear c18b1
                try clear c20
                try clear q20
                try clear hx119_0
                try clear hx134_0
                try clear p1
                try clear p11
                try clear p119
                try clear p134
                try clear p2
                try clear q1
                try clear q11
                try clear q119
                try clear q13
                try clear q134
                try clear q20
                try clear q9
                obtain ⟨kq, x0_13, HA, HJ13, HO_0, HB⟩ := hcut
                cases kq with
                | zero => exact absurd HA.out (by simp [num_Read.j2])
                | succ kj13 =>
                  have H := HA.out
                  clear HA
                  simp only [num_Read.j2] at H
                  replace H := Option.bind_eq_some_iff.mp H
                  obtain ⟨⟨t140, t141, t142⟩, A230, H⟩ := H
                  replace H : (if t142 = true then (if 0 ≤ t141 then (if t141 ≤ (x0_13.length : Int) then ((some (x0_13.drop (t141 : Int).toNat : List Int)).bind fun y143 => (num_Read.l1 kj13 t140 y143 (y143.length : Int) 0)) else (none)) else (none)) else (some (0, false))) = some (r1, r2) := H
                  have A23 := Aside0.mk A230
                  clear A230
                  by_cases c24 : t142 = true
                  · subst c24
                    have H1 : (if 0 ≤ t141 then (if t141 ≤ (x0_13.length : Int) then ((some (x0_13.drop (t141 : Int).toNat : List Int)).bind fun y143 => (num_Read.l1 kj13 t140 y143 (y143.length : Int) 0)) else (none)) else (none)) = some (r1, r2) := by rw [if_pos rfl] at H; exact H
                    clear H
                    have H := H1
                    clear H1
                    by_cases c25 : 0 ≤ t141
                    · rw [if_pos c25] at H
                      have c25b0 := eq_true c25
                      have c25b1 : decide (0 ≤ t141) = true := decide_eq_true c25
                      clear c25
                      by_cases c26 : t141 ≤ (x0_13.length : Int)
                      · rw [if_pos c26] at H
                        have c26b0 := eq_true c26
                        have c26b1 : decide (t141 ≤ (x0_13.length : Int)) = true := decide_eq_true c26
                        clear c26
                        obtain ⟨y143, hy143⟩ : ∃ y_ : List Int, y_ = (x0_13.drop (t141 : Int).toNat) := ⟨_, rfl⟩
                        replace H : (num_Read.l1 kj13 t140 y143 (y143.length : Int) 0) = some (r1, r2) := by first | (rw [hy143]; with_reducible exact H) | (have H2_ := (Option.bind_some _ _).symm.trans H; rw [hy143]; with_reducible exact H2_) | (have H2_ := (Option.bind_some _ _).symm.trans H; with_reducible exact H2_) | with_reducible exact H | (rw [hy143]; exact H) | exact H
                        have Ny143 := Aside0.mk hy143
                        clear hy143
                        have H' := Aside0.mk H
                        clear H
                        obtain ⟨Ao27, co27, eo27⟩ := Kd.V_slice HO_0.out
                        subst eo27
                        go_wp2_with (first | ((with_reducible refine gate_callee (f := 26) rfl ?_); refine goesL_ (some 47) rfl rfl Tryd.func26 (by kernel_rfl) rfl #[.slice Ao27 x0_13.length co27] rfl (by (try simp only [List.map_toArray, List.map_cons, List.map_nil]); first | done | rfl | (simp only [List.length_drop, List.length_take]; rfl)) ?_; (with_reducible refine (num_digits.calls kj13 _ _ x0_13 t140 t141 true _ ?side1 ?side2 A23.out).mono ?_); (case side1 => repeat (first | exact (Kd.V_reads' HO_0.out).2.2 | (with_reducible refine Kd.C_alloc ?_ _) | (with_reducible refine Kd.C_drewN ?_ _) | (with_reducible refine Kd.C_drew ?_))); (case side2 => exact (Kd.V_reads' HO_0.out).2.1); rintro e w' ⟨rfl, ⟨nd, rfl⟩⟩; refine ⟨_, rfl, ?_⟩; have q28 : (t141 : Int) ≤ ((x0_13.length : Int) : Int) := of_decide_eq_true (by first | (with_reducible assumption) | assumption); obtain ⟨i028, hi028, _, hsz28, _⟩ := info_parts info5; have hroom28 : x0_13.length ≤ co27 := (Kd.V_reads' HO_0.out).2.1; have hC28 : Kd.F (Kd.int .u8) _ _ Ao27 x0_13.length x0_13 := (Kd.V_at (base := w.heap.size) HO_0.out).2.2; have q028 : (0 : Int) ≤ (t141 : Int) := of_decide_eq_true (by first | (with_reducible assumption) | assumption); have hcut28 := cut_from (P := Tryd.prog) 29 5 .i64 Tryd.underlying29 hi028 1 hsz28 Ao27 x0_13.length co27 t141 q028 q28; have hr28 := Kd.F_cut (m := (t141 : Int).toNat) (c := co27) hC28 (by omega) hroom28; obtain ⟨A28, hA28⟩ : ∃ A1, A1 = (if co27 = (t141 : Int).toNat then Ao27 else (Ao27 : Option Addr).map (·.add ((t141 : Int).toNat * 1))) := ⟨_, rfl⟩; obtain ⟨c28, hc28⟩ : ∃ c1, c1 = co27 - (t141 : Int).toNat := ⟨_, rfl⟩; have hy28 : y143.length = x0_13.length - (t141 : Int).toNat := (by rw [Ny143.out, List.length_drop] <;> omega); rw [show (x0_13).drop (t141 : Int).toNat = y143 from Ny143.out.symm] at hr28; replace hr28 : Kd.F (Kd.int .u8) _ _ A28 y143.length y143 := (by rw [hA28]; exact hr28); rw [← hy28, ← hA28, ← hc28] at hcut28; have HO147 := Aside0.mk (show Kd.V (Kd.int .u8) 5 _ w.heap.size _ (.slice A28 y143.length c28) y143 from Kd.V_mk (by rw [hy28, hc28]; exact Nat.sub_le_sub_right hroom28 _) hr28); have HC147 := Aside0.mk (show y143.length ≤ c28 from by rw [hy28, hc28]; exact Nat.sub_le_sub_right hroom28 _); clear hr28 hC28 hroom28 hi028 hsz28 hc28; have KY28 := Aside0.mk hy28; have KA28 := Aside0.mk hA28; clear hy28 hA28; replace q28 := eq_true q28))
                        go_loopg [57] kj13 (fun kq v57 w' => ∃ (x57_3 : Int), v57 = .int .i64 x57_3 ∧ Aside0 (num_Read.l1 kq t140 y143 (y143.length : Int) x57_3 = some (r1, r2)) ∧ Aside0 (kq ≤ kj13) ∧ Aside0 (Kd.V (Kd.int .u8) 5 w' w.heap.size (fun k_ => (P0_ k_ ∨ w.heap.size ≤ k_)) (.slice A28 y143.length c28) y143) ∧ Aside0 (Below w.heap.size w w'))
                        case atStart => exact ⟨(0), (by first | rfl | (simp; done) | (simp [*]; done)), H', ⟨Nat.le_refl _⟩, ⟨by (with_reducible repeat (first | apply Kd.V_alloc | apply Kd.V_drewN | apply Kd.V_drew)); exact HO147.out⟩, ⟨by repeat (first | (with_reducible first | exact HB.out | apply below_alloc | apply pw_below_drewN | apply below_drew1) | exact HB.out)⟩⟩
                        case round =>
                          clear H'
                          try clear c1
                          try clear p1
                          try clear q1
                          try clear hx1
                          try clear qi1
                          try clear c2
                          try clear p2
                          try clear q2
                          try clear c3
                          try clear c3b0
                          try clear c3b1
                          try clear c4
                          try clear c5
                          try clear c5b0
                          try clear c5b1
                          try clear c6
                          try clear c6b0
                          try clear c6b1
                          try clear c7
                          try clear c7b0
                          try clear c7b1
                          try clear c9
                          try clear q9
                          try clear c10
                          try clear c10b0
                          try clear c10b1
                          try clear c11
                          try clear c11b0
                          try clear c11b1
                          try clear p11
                          try clear q11
                          try clear hx11
                          try clear qi11
                          try clear c12
                          try clear c13
                          try clear p13
                          try clear q13
                          try clear hx13
                          try clear qi13
                          try clear c15
                          try clear c15b0
                          try clear c15b1
                          try clear c15b2
                          try clear c16
                          try clear c16b0
                          try clear c16b1
                          try clear c17
                          try clear c17b0
                          try clear c17b1
                          try clear c18
                          try clear c18b0
                          try clear c18b1
                          try clear c20
                          try clear q20
                          try clear c24
                          try clear c25
                          try clear c25b0
                          try clear c25b1
                          try clear c26
                          try clear c26b0
                          try clear c26b1
                          try clear c28
                          try clear q28
                          try clear hx119_0
                          try clear hx134_0
                          try clear p1
                          try clear p11
                          try clear p119
                          try clear p13
                          try clear p134
                          try clear p2
                          try clear q028
                          try clear q1
                          try clear q11
                          try clear q119
                          try clear q13
                          try clear q134
                          try clear q2
                          try clear q20
                          try clear q28
                          try clear q9
                          obtain ⟨x57_3, rfl, HA, HK3, HO_55, HB⟩ := hrel
                          cases gk with
                          | zero => exact absurd HA.out (by simp [num_Read.l1])
                          | succ k3 =>
                            have H := HA.out
                            clear HA
                            simp only [num_Read.l1] at H
                            by_cases c29 : x57_3 < (y143.length : Int)
                            · rw [if_pos c29] at H
                              have c29b0 : decide (x57_3 < (y143.length : Int)) = true := decide_eq_true c29
                              clear c29
                              by_cases c30 : 0 ≤ x57_3
                              · rw [if_pos c30] at H
                                have c30b0 : decide (0 ≤ x57_3) = true := decide_eq_true c30
                                clear c30
                                by_cases c31 : x57_3 < (y143.length : Int)
                                · rw [if_pos c31] at H
                                  have c31b0 : decide (x57_3 < (y143.length : Int)) = true := decide_eq_true c31
                                  clear c31
                                  by_cases c32 : (rd y143 x57_3) = 0
                                  · rw [if_pos c32] at H
                                    have c32b0 : ((rd y143 x57_3) == 0) = true := beq_iff_eq.mpr c32
                                    have c32b1 : ((rd y143 x57_3) != 0) = false := bne_eq_false_iff_eq.mpr c32
                                    clear c32
                                    have H' := Aside0.mk H
                                    clear H
                                    have p148 : 0 ≤ (x57_3 : Int) := of_decide_eq_true (by first | (with_reducible assumption) | assumption)
                                    have q148 : x57_3 < (y143.length : Int) := of_decide_eq_true (by first | (with_reducible assumption) | assumption)
                                    obtain ⟨ad148, e148, hx148_0⟩ := Kd.at_int (Kd.V_reads' HO_55.out).2.2 x57_3 p148 q148
                                    cases e148
                                    replace p148 := eq_true p148
                                    replace q148 := eq_true q148
                                    go_wp2
                                    go_roundg k3
                                    case measure => have := HJ1.out; have := HJ13.out; have := HK3.out; omega
                                    case rel => exact ⟨(wrap64 (x57_3 + 1)), (by first | rfl | (simp; done) | (simp [*]; done)), H', ⟨by have := HJ1.out; have := HJ13.out; have := HK3.out; omega⟩, ⟨by (with_reducible repeat (first | apply Kd.V_alloc | apply Kd.V_drewN | apply Kd.V_drew)); exact HO_55.out⟩, ⟨by repeat (first | (with_reducible first | exact HB.out | apply below_alloc | apply pw_below_drewN | apply below_drew1) | exact HB.out)⟩⟩
                                  · rw [if_neg c32] at H
                                    have c32b0 : ((rd y143 x57_3) == 0) = false := beq_eq_false_iff_ne.mpr c32
                                    have c32b1 : ((rd y143 x57_3) != 0) = true := bne_iff_ne.mpr c32
                                    by_cases c33 : (rd y143 x57_3) = 32
                                    · rw [if_pos c33] at H
                                      have c33b0 : ((rd y143 x57_3) == 32) = true := beq_iff_eq.mpr c33
                                      have c33b1 : ((rd y143 x57_3) != 32) = false := bne_eq_false_iff_eq.mpr c33
                                      clear c33
                                      have H' := Aside0.mk H
                                      clear H
                                      have p148 : 0 ≤ (x57_3 : Int) := of_decide_eq_true (by first | (with_reducible assumption) | assumption)
                                      have q148 : x57_3 < (y143.length : Int) := of_decide_eq_true (by first | (with_reducible assumption) | assumption)
                                      obtain ⟨ad148, e148, hx148_0⟩ := Kd.at_int (Kd.V_reads' HO_55.out).2.2 x57_3 p148 q148
                                      cases e148
                                      replace p148 := eq_true p148
                                      replace q148 := eq_true q148
                                      go_wp2
                                      go_roundg k3
                                      case measure => have := HJ1.out; have := HJ13.out; have := HK3.out; omega
                                      case rel => exact ⟨(wrap64 (x57_3 + 1)), (by first | rfl | (simp; done) | (simp [*]; done)), H', ⟨by have := HJ1.out; have := HJ13.out; have := HK3.out; omega⟩, ⟨by (with_reducible repeat (first | apply Kd.V_alloc | apply Kd.V_drewN | apply Kd.V_drew)); exact HO_55.out⟩, ⟨by repeat (first | (with_reducible first | exact HB.out | apply below_alloc | apply pw_below_drewN | apply below_drew1) | exact HB.out)⟩⟩
                                    · rw [if_neg c33] at H
                                      have c33b0 : ((rd y143 x57_3) == 32) = false := beq_eq_false_iff_ne.mpr c33
                                      have c33b1 : ((rd y143 x57_3) != 32) = true := bne_iff_ne.mpr c33
                                      simp only [Option.some.injEq, Prod.mk.injEq] at H
                                      obtain ⟨rfl, rfl⟩ := H
                                      have p148 : 0 ≤ (x57_3 : Int) := of_decide_eq_true (by first | (with_reducible assumption) | assumption)
                                      have q148 : x57_3 < (y143.length : Int) := of_decide_eq_true (by first | (with_reducible assumption) | assumption)
                                      obtain ⟨ad148, e148, hx148_0⟩ := Kd.at_int (Kd.V_reads' HO_55.out).2.2 x57_3 p148 q148
                                      cases e148
                                      replace p148 := eq_true p148
                                      replace q148 := eq_true q148
                                      go_wp2
                                      go_ret2
                                      exact ⟨by first | rfl | (simp [errW_none, errW_some] <;> rfl) | (simp [*, errW_none, errW_some] <;> rfl), by repeat (first | (with_reducible first | exact HB.out | apply below_alloc | apply pw_below_drewN | apply below_drew1) | exact HB.out)⟩
                                · rw [if_neg c31] at H
                                  exact absurd H (by simp)
                              · rw [if_neg c30] at H
                                exact absurd H (by simp)
                            · rw [if_neg c29] at H
                              have c29b0 : decide (x57_3 < (y143.length : Int)) = false := decide_eq_false c29
                              clear c29
                              simp only [Option.some.injEq, Prod.mk.injEq] at H
                              obtain ⟨rfl, rfl⟩ := H
                              go_wp2
                              go_ret2
                              exact ⟨by first | rfl | (simp [errW_none, errW_some] <;> rfl) | (simp [*, errW_none, errW_some] <;> rfl), by repeat (first | (with_reducible first | exact HB.out | apply below_alloc | apply pw_below_drewN | apply below_drew1) | exact HB.out)⟩
                      · rw [if_neg c26] at H
                        exact absurd H (by simp)
                    · rw [if_neg c25] at H
                      exact absurd H (by simp)
                  · replace c24 := Bool.eq_false_iff.mpr c24
                    subst c24
                    have H1 : (some (0, false)) = some (r1, r2) := by rw [if_neg (show ¬ (false = true) by decide)] at H; exact H
                    clear H
                    have H := H1
                    clear H1
                    simp only [Option.some.injEq, Prod.mk.injEq] at H
                    obtain ⟨rfl, rfl⟩ := H
                    obtain ⟨Ao34, co34, eo34⟩ := Kd.V_slice HO_0.out
                    subst eo34
                    go_wp2_with (first | ((with_reducible refine gate_callee (f := 26) rfl ?_); refine goesL_ (some 47) rfl rfl Tryd.func26 (by kernel_rfl) rfl #[.slice Ao34 x0_13.length co34] rfl (by (try simp only [List.map_toArray, List.map_cons, List.map_nil]); first | done | rfl | (simp only [List.length_drop, List.length_take]; rfl)) ?_; (with_reducible refine (num_digits.calls kj13 _ _ x0_13 t140 t141 false _ ?side1 ?side2 A23.out).mono ?_); (case side1 => repeat (first | exact (Kd.V_reads' HO_0.out).2.2 | (with_reducible refine Kd.C_alloc ?_ _) | (with_reducible refine Kd.C_drewN ?_ _) | (with_reducible refine Kd.C_drew ?_))); (case side2 => exact (Kd.V_reads' HO_0.out).2.1); rintro e w' ⟨rfl, ⟨nd, rfl⟩⟩; refine ⟨_, rfl, ?_⟩))
                    go_ret2
                    exact ⟨by first | rfl | (simp [errW_none, errW_some] <;> rfl) | (simp [*, errW_none, errW_some] <;> rfl), by repeat (first | (with_reducible first | exact HB.out | apply below_alloc | apply pw_below_drewN | apply below_drew1) | exact HB.out)⟩
        · rw [if_neg c5] at H
          exact absurd H (by simp)

end Go.Proofs.YtbaonnlpphpakaaDoor.X
