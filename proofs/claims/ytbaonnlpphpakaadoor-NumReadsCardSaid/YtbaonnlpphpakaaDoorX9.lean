-- Printed by a program of this session (wip/tools/xprint.py) out of the translation.
import Derived.Test.YtbaonnlpphpakaaDoorX0
import Derived.Test.YtbaonnlpphpakaaDoorX1
import Derived.Test.YtbaonnlpphpakaaDoorX2
import Derived.Test.YtbaonnlpphpakaaDoorX3
import Derived.Test.YtbaonnlpphpakaaDoorX5
import Derived.Test.YtbaonnlpphpakaaDoorX8
import Derived.Test.YtbaonnlpphpakaaDoorExt
namespace Go.Proofs.YtbaonnlpphpakaaDoor.X
open Go.RowKit Go.Proofs.YtbaonnlpphpakaaDoorW.PrintWords Go.Proofs.YtbaonnlpphpakaaDoorW.PrintLast Go.Proofs.YtbaonnlpphpakaaDoorW.PrintMore
attribute [local go_sem] max2_int min2_int max_two min_two max_three min_three max_four min_four   -- for this text's walks alone
set_option linter.unusedVariables false
set_option linter.unusedSimpArgs false

/-! ### portmanteaulaw16_NumFields: function 7 -/
mutual
def portmanteaulaw16_NumFields.l0 : Nat → Int → Int → Bool → Int → Option (Bool)
  | 0, _, _, _, _ => none
  | k + 1, x0, x1, x2, x7 => if x7 < 2 then ((num_Octal.f k x0 x1).bind fun bt253 => ((portmanteauref16_Octal.f k x0 x1).bind fun bt257 => (if (bt253.2 != bt257.2) = true then (portmanteaulaw16_NumFields.j1 k x0 x1 x2 x7 true) else (if bt253.2 = true then (if (strOfNums bt253.1).toList = bt257.1.toList then (portmanteaulaw16_NumFields.j1 k x0 x1 x2 x7 false) else (portmanteaulaw16_NumFields.j1 k x0 x1 x2 x7 true)) else (portmanteaulaw16_NumFields.j1 k x0 x1 x2 x7 ((bt253.1.length : Int) != 0)))))) else ((portmanteaulaw16_awake.f k).bind fun t252 => (some t252))
def portmanteaulaw16_NumFields.j1 : Nat → Int → Int → Bool → Int → Bool → Option (Bool)
  | 0, _, _, _, _, _ => none
  | k + 1, x0, x1, x2, x7, x50 => if x50 = true then (some false) else ((num_Wide.f k x0 x1).bind fun bt259 => ((portmanteauref16_Wide.f k x0 x1).bind fun bt263 => (if (bt259.2 != bt263.2) = true then (portmanteaulaw16_NumFields.j2 k x0 x1 x2 x7 true) else (if bt259.2 = true then (if (strOfNums bt259.1).toList = bt263.1.toList then (portmanteaulaw16_NumFields.j2 k x0 x1 x2 x7 false) else (portmanteaulaw16_NumFields.j2 k x0 x1 x2 x7 true)) else (portmanteaulaw16_NumFields.j2 k x0 x1 x2 x7 ((bt259.1.length : Int) != 0))))))
def portmanteaulaw16_NumFields.j2 : Nat → Int → Int → Bool → Int → Bool → Option (Bool)
  | 0, _, _, _, _, _ => none
  | k + 1, x0, x1, x2, x7, x83 => if x83 = true then (some false) else ((num_Field.f k x0 x1 x2).bind fun bt265 => ((portmanteauref16_Field.f k x0 x1 x2).bind fun bt269 => (if (bt265.2 != bt269.2) = true then (portmanteaulaw16_NumFields.j3 k x0 x1 x2 x7 bt265.1 bt265.2 true) else (portmanteaulaw16_NumFields.j3 k x0 x1 x2 x7 bt265.1 bt265.2 ((strOfNums bt265.1).toList != bt269.1.toList)))))
def portmanteaulaw16_NumFields.j3 : Nat → Int → Int → Bool → Int → List Int → Bool → Bool → Option (Bool)
  | 0, _, _, _, _, _, _, _ => none
  | k + 1, x0, x1, x2, x7, x8, x9, x106 => if x106 = true then (some false) else (if x9 = true then ((num_Read.f k x8).bind fun bt271 => (if bt271.2 = true then (if bt271.1 = x0 then (portmanteaulaw16_NumFields.l0 k x0 (wrap64 ((Int.tmod (Go.bits .and .i64 x1 255) 11) + 2)) x2 (wrap64 (x7 + 1))) else (some false)) else (some false))) else (portmanteaulaw16_NumFields.l0 k x0 (wrap64 ((Int.tmod (Go.bits .and .i64 x1 255) 11) + 2)) x2 (wrap64 (x7 + 1))))
end
def portmanteaulaw16_NumFields.f (k : Nat) (a0 : Int) (a1 : Int) (a2 : Bool) : Option (Bool) := portmanteaulaw16_NumFields.l0 k a0 a1 a2 0
theorem portmanteaulaw16_NumFields.mono_l : ∀ k, (∀ y0 y1 y2 y3, LeO (portmanteaulaw16_NumFields.l0 k y0 y1 y2 y3) (portmanteaulaw16_NumFields.l0 (k + 1) y0 y1 y2 y3)) ∧ (∀ y0 y1 y2 y3 y4, LeO (portmanteaulaw16_NumFields.j1 k y0 y1 y2 y3 y4) (portmanteaulaw16_NumFields.j1 (k + 1) y0 y1 y2 y3 y4)) ∧ (∀ y0 y1 y2 y3 y4, LeO (portmanteaulaw16_NumFields.j2 k y0 y1 y2 y3 y4) (portmanteaulaw16_NumFields.j2 (k + 1) y0 y1 y2 y3 y4)) ∧ (∀ y0 y1 y2 y3 y4 y5 y6, LeO (portmanteaulaw16_NumFields.j3 k y0 y1 y2 y3 y4 y5 y6) (portmanteaulaw16_NumFields.j3 (k + 1) y0 y1 y2 y3 y4 y5 y6))
  | 0 => ⟨fun _ _ _ _ r h => by simp [portmanteaulaw16_NumFields.l0] at h, fun _ _ _ _ _ r h => by simp [portmanteaulaw16_NumFields.j1] at h, fun _ _ _ _ _ r h => by simp [portmanteaulaw16_NumFields.j2] at h, fun _ _ _ _ _ _ _ r h => by simp [portmanteaulaw16_NumFields.j3] at h⟩
  | k + 1 => by
    obtain ⟨ih0, ih1, ih2, ih3⟩ := portmanteaulaw16_NumFields.mono_l k
    refine ⟨?_, ?_, ?_, ?_⟩
    · intro y0 y1 y2 y3
      unfold portmanteaulaw16_NumFields.l0
      repeat' first
      | (with_reducible exact ih0 _ _ _ _)
      | (with_reducible exact ih1 _ _ _ _ _)
      | (with_reducible exact ih2 _ _ _ _ _)
      | (with_reducible exact ih3 _ _ _ _ _ _ _)
      | (with_reducible exact num_Field.mono _ _ _ _)
      | (with_reducible exact num_Octal.mono _ _ _)
      | (with_reducible exact num_Read.mono _ _)
      | (with_reducible exact num_Wide.mono _ _ _)
      | (with_reducible exact portmanteaulaw16_awake.mono _)
      | (with_reducible exact portmanteauref16_Field.mono _ _ _ _)
      | (with_reducible exact portmanteauref16_Octal.mono _ _ _)
      | (with_reducible exact portmanteauref16_Wide.mono _ _ _)
      | (with_reducible exact LeO.refl _)
      | (with_reducible exact LeO.none _)
      | (with_reducible refine LeO.ite ?_ ?_)
      | (with_reducible refine LeO.bind ?_ (fun _ => ?_))
      | exact ih0 _ _ _ _
      | exact ih1 _ _ _ _ _
      | exact ih2 _ _ _ _ _
      | exact ih3 _ _ _ _ _ _ _
      | exact num_Field.mono _ _ _ _
      | exact num_Octal.mono _ _ _
      | exact num_Read.mono _ _
      | exact num_Wide.mono _ _ _
      | exact portmanteaulaw16_awake.mono _
      | exact portmanteauref16_Field.mono _ _ _ _
      | exact portmanteauref16_Octal.mono _ _ _
      | exact portmanteauref16_Wide.mono _ _ _
      | exact LeO.none _
      | refine LeO.ite ?_ ?_
      | refine LeO.bind ?_ (fun _ => ?_)
    · intro y0 y1 y2 y3 y4
      unfold portmanteaulaw16_NumFields.j1
      repeat' first
      | (with_reducible exact ih0 _ _ _ _)
      | (with_reducible exact ih1 _ _ _ _ _)
      | (with_reducible exact ih2 _ _ _ _ _)
      | (with_reducible exact ih3 _ _ _ _ _ _ _)
      | (with_reducible exact num_Field.mono _ _ _ _)
      | (with_reducible exact num_Octal.mono _ _ _)
      | (with_reducible exact num_Read.mono _ _)
      | (with_reducible exact num_Wide.mono _ _ _)
      | (with_reducible exact portmanteaulaw16_awake.mono _)
      | (with_reducible exact portmanteauref16_Field.mono _ _ _ _)
      | (with_reducible exact portmanteauref16_Octal.mono _ _ _)
      | (with_reducible exact portmanteauref16_Wide.mono _ _ _)
      | (with_reducible exact LeO.refl _)
      | (with_reducible exact LeO.none _)
      | (with_reducible refine LeO.ite ?_ ?_)
      | (with_reducible refine LeO.bind ?_ (fun _ => ?_))
      | exact ih0 _ _ _ _
      | exact ih1 _ _ _ _ _
      | exact ih2 _ _ _ _ _
      | exact ih3 _ _ _ _ _ _ _
      | exact num_Field.mono _ _ _ _
      | exact num_Octal.mono _ _ _
      | exact num_Read.mono _ _
      | exact num_Wide.mono _ _ _
      | exact portmanteaulaw16_awake.mono _
      | exact portmanteauref16_Field.mono _ _ _ _
      | exact portmanteauref16_Octal.mono _ _ _
      | exact portmanteauref16_Wide.mono _ _ _
      | exact LeO.none _
      | refine LeO.ite ?_ ?_
      | refine LeO.bind ?_ (fun _ => ?_)
    · intro y0 y1 y2 y3 y4
      unfold portmanteaulaw16_NumFields.j2
      repeat' first
      | (with_reducible exact ih0 _ _ _ _)
      | (with_reducible exact ih1 _ _ _ _ _)
      | (with_reducible exact ih2 _ _ _ _ _)
      | (with_reducible exact ih3 _ _ _ _ _ _ _)
      | (with_reducible exact num_Field.mono _ _ _ _)
      | (with_reducible exact num_Octal.mono _ _ _)
      | (with_reducible exact num_Read.mono _ _)
      | (with_reducible exact num_Wide.mono _ _ _)
      | (with_reducible exact portmanteaulaw16_awake.mono _)
      | (with_reducible exact portmanteauref16_Field.mono _ _ _ _)
      | (with_reducible exact portmanteauref16_Octal.mono _ _ _)
      | (with_reducible exact portmanteauref16_Wide.mono _ _ _)
      | (with_reducible exact LeO.refl _)
      | (with_reducible exact LeO.none _)
      | (with_reducible refine LeO.ite ?_ ?_)
      | (with_reducible refine LeO.bind ?_ (fun _ => ?_))
      | exact ih0 _ _ _ _
      | exact ih1 _ _ _ _ _
      | exact ih2 _ _ _ _ _
      | exact ih3 _ _ _ _ _ _ _
      | exact num_Field.mono _ _ _ _
      | exact num_Octal.mono _ _ _
      | exact num_Read.mono _ _
      | exact num_Wide.mono _ _ _
      | exact portmanteaulaw16_awake.mono _
      | exact portmanteauref16_Field.mono _ _ _ _
      | exact portmanteauref16_Octal.mono _ _ _
      | exact portmanteauref16_Wide.mono _ _ _
      | exact LeO.none _
      | refine LeO.ite ?_ ?_
      | refine LeO.bind ?_ (fun _ => ?_)
    · intro y0 y1 y2 y3 y4 y5 y6
      unfold portmanteaulaw16_NumFields.j3
      repeat' first
      | (with_reducible exact ih0 _ _ _ _)
      | (with_reducible exact ih1 _ _ _ _ _)
      | (with_reducible exact ih2 _ _ _ _ _)
      | (with_reducible exact ih3 _ _ _ _ _ _ _)
      | (with_reducible exact num_Field.mono _ _ _ _)
      | (with_reducible exact num_Octal.mono _ _ _)
      | (with_reducible exact num_Read.mono _ _)
      | (with_reducible exact num_Wide.mono _ _ _)
      | (with_reducible exact portmanteaulaw16_awake.mono _)
      | (with_reducible exact portmanteauref16_Field.mono _ _ _ _)
      | (with_reducible exact portmanteauref16_Octal.mono _ _ _)
      | (with_reducible exact portmanteauref16_Wide.mono _ _ _)
      | (with_reducible exact LeO.refl _)
      | (with_reducible exact LeO.none _)
      | (with_reducible refine LeO.ite ?_ ?_)
      | (with_reducible refine LeO.bind ?_ (fun _ => ?_))
      | exact ih0 _ _ _ _
      | exact ih1 _ _ _ _ _
      | exact ih2 _ _ _ _ _
      | exact ih3 _ _ _ _ _ _ _
      | exact num_Field.mono _ _ _ _
      | exact num_Octal.mono _ _ _
      | exact num_Read.mono _ _
      | exact num_Wide.mono _ _ _
      | exact portmanteaulaw16_awake.mono _
      | exact portmanteauref16_Field.mono _ _ _ _
      | exact portmanteauref16_Octal.mono _ _ _
      | exact portmanteauref16_Wide.mono _ _ _
      | exact LeO.none _
      | refine LeO.ite ?_ ?_
      | refine LeO.bind ?_ (fun _ => ?_)
theorem portmanteaulaw16_NumFields.mono : ∀ a0 a1 a2 k, LeO (portmanteaulaw16_NumFields.f k a0 a1 a2) (portmanteaulaw16_NumFields.f (k + 1) a0 a1 a2) := by
  intro a0 a1 a2 k
  obtain ⟨ih0, ih1, ih2, ih3⟩ := portmanteaulaw16_NumFields.mono_l k
  unfold portmanteaulaw16_NumFields.f
  repeat' first
      | (with_reducible exact ih0 _ _ _ _)
      | (with_reducible exact ih1 _ _ _ _ _)
      | (with_reducible exact ih2 _ _ _ _ _)
      | (with_reducible exact ih3 _ _ _ _ _ _ _)
      | (with_reducible exact num_Field.mono _ _ _ _)
      | (with_reducible exact num_Octal.mono _ _ _)
      | (with_reducible exact num_Read.mono _ _)
      | (with_reducible exact num_Wide.mono _ _ _)
      | (with_reducible exact portmanteaulaw16_awake.mono _)
      | (with_reducible exact portmanteauref16_Field.mono _ _ _ _)
      | (with_reducible exact portmanteauref16_Octal.mono _ _ _)
      | (with_reducible exact portmanteauref16_Wide.mono _ _ _)
      | (with_reducible exact LeO.refl _)
      | (with_reducible exact LeO.none _)
      | (with_reducible refine LeO.ite ?_ ?_)
      | (with_reducible refine LeO.bind ?_ (fun _ => ?_))
      | exact ih0 _ _ _ _
      | exact ih1 _ _ _ _ _
      | exact ih2 _ _ _ _ _
      | exact ih3 _ _ _ _ _ _ _
      | exact num_Field.mono _ _ _ _
      | exact num_Octal.mono _ _ _
      | exact num_Read.mono _ _
      | exact num_Wide.mono _ _ _
      | exact portmanteaulaw16_awake.mono _
      | exact portmanteauref16_Field.mono _ _ _ _
      | exact portmanteauref16_Octal.mono _ _ _
      | exact portmanteauref16_Wide.mono _ _ _
      | exact LeO.none _
      | refine LeO.ite ?_ ?_
      | refine LeO.bind ?_ (fun _ => ?_)
set_option maxHeartbeats 8000000 in
set_option maxRecDepth 100000 in
theorem portmanteaulaw16_NumFields.calls (k : Nat) (a0 : Int) (a1 : Int) (a2 : Bool) (r : Bool) (w : World) (hG : Glob 1 w) (h : portmanteaulaw16_NumFields.f k a0 a1 a2 = some r) :
    Calls Tryd.prog 7 #[.int .i64 a0, .int .i64 a1, .bool a2] w fun e w' => e = .returned (.bool r) ∧ Below w.heap.size w w' := by
  have HB := Aside0.mk (Below.refl w.heap.size w)
  have HG := Aside0.mk hG
  clear hG
  have H : (portmanteaulaw16_NumFields.l0 k a0 a1 a2 0) = some r := h
  clear h
  have H' := Aside0.mk H
  clear H
  go_enter Tryd.func7, Tryd.ntmps7
  go_wp2
  go_loopg [1, 7] k (fun kq v1 v7 w' => ∃ (x1_1 : Int) (x7_1 : Int), v1 = .int .i64 x1_1 ∧ v7 = .int .i64 x7_1 ∧ Aside0 (portmanteaulaw16_NumFields.l0 kq a0 x1_1 a2 x7_1 = some r) ∧ Aside0 (kq ≤ k) ∧ Aside0 (Below w.heap.size w w'))
  case atStart => exact ⟨(a1), (0), (by first | rfl | (simp; done) | (simp [*]; done)), (by first | rfl | (simp; done) | (simp [*]; done)), H', ⟨Nat.le_refl _⟩, ⟨by repeat (first | (with_reducible first | exact HB.out | apply below_alloc | apply pw_below_drewN | apply below_drew1) | exact HB.out)⟩⟩
  case round =>
    clear H'
    try clear p2
    obtain ⟨x1_1, x7_1, rfl, rfl, HA, HK1, HB⟩ := hrel
    cases gk with
    | zero => exact absurd HA.out (by simp [portmanteaulaw16_NumFields.l0])
    | succ k1 =>
      have H := HA.out
      clear HA
      simp only [portmanteaulaw16_NumFields.l0] at H
      by_cases c4 : x7_1 < 2
      · rw [if_pos c4] at H
        have c4b0 : decide (x7_1 < 2) = true := decide_eq_true c4
        clear c4
        replace H := Option.bind_eq_some_iff.mp H
        obtain ⟨⟨t253, t254⟩, A50, H⟩ := H
        replace H : ((portmanteauref16_Octal.f k1 a0 x1_1).bind fun bt257 => (if (t254 != bt257.2) = true then (portmanteaulaw16_NumFields.j1 k1 a0 x1_1 a2 x7_1 true) else (if t254 = true then (if (strOfNums t253).toList = bt257.1.toList then (portmanteaulaw16_NumFields.j1 k1 a0 x1_1 a2 x7_1 false) else (portmanteaulaw16_NumFields.j1 k1 a0 x1_1 a2 x7_1 true)) else (portmanteaulaw16_NumFields.j1 k1 a0 x1_1 a2 x7_1 ((t253.length : Int) != 0))))) = some r := H
        have A5 := Aside0.mk A50
        clear A50
        replace H := Option.bind_eq_some_iff.mp H
        obtain ⟨⟨t257, t258⟩, A60, H⟩ := H
        replace H : (if (t254 != t258) = true then (portmanteaulaw16_NumFields.j1 k1 a0 x1_1 a2 x7_1 true) else (if t254 = true then (if (strOfNums t253).toList = t257.toList then (portmanteaulaw16_NumFields.j1 k1 a0 x1_1 a2 x7_1 false) else (portmanteaulaw16_NumFields.j1 k1 a0 x1_1 a2 x7_1 true)) else (portmanteaulaw16_NumFields.j1 k1 a0 x1_1 a2 x7_1 ((t253.length : Int) != 0)))) = some r := H
        have A6 := Aside0.mk A60
        clear A60
        have HC7 := Aside0.mk H
        clear H
        go_upto_region 6 with (first | ((with_reducible refine gate_callee (f := 11) rfl ?_); refine goesL_ (some 21) rfl rfl Tryd.func11 (by kernel_rfl) rfl #[.int .i64 a0, .int .i64 x1_1] rfl (by (try simp only [List.map_toArray, List.map_cons, List.map_nil]); first | done | rfl | (simp only [List.length_drop, List.length_take]; rfl)) ?_; (with_reducible refine (num_Octal.calls k1 a0 x1_1 t253 t254 _ A5.out).mono ?_); rintro e w8 ⟨v255, rfl, ho0, hb⟩; refine ⟨_, rfl, ?_⟩; have n0_ := Aside0.mk (Kd.R_lower ho0 (below_size (by repeat (first | (with_reducible first | exact HB.out | apply below_alloc | apply pw_below_drewN | apply below_drew1) | exact HB.out)))); have n1_ := Aside0.mk (below_step (by repeat (first | (with_reducible first | exact HB.out | apply below_alloc | apply pw_below_drewN | apply below_drew1) | exact HB.out)) hb); clear HB; have HO256 := n0_; have HB := n1_; clear n0_ n1_; (try clear hb); (try clear hb2); (try clear hk); (try clear hi); (try clear ho0)) | ((with_reducible refine gate_callee (f := 17) rfl ?_); refine goesL_ (some 27) rfl rfl Tryd.func17 (by kernel_rfl) rfl #[.int .i64 a0, .int .i64 x1_1] rfl (by (try simp only [List.map_toArray, List.map_cons, List.map_nil]); first | done | rfl | (simp only [List.length_drop, List.length_take]; rfl)) ?_; (with_reducible refine (portmanteauref16_Octal.calls k1 a0 x1_1 t257 t258 _ A6.out).mono ?_); rintro e w' ⟨rfl, ⟨nd, rfl⟩⟩; refine ⟨_, rfl, ?_⟩))
        (try simp only [Act.put, List.setIfInBounds_toArray, List.set_cons_zero, List.set_cons_succ])
        go_cut [50] (fun v50 wc => ∃ (kq : Nat) (x50_6 : Bool), v50 = .bool x50_6 ∧ Aside0 (portmanteaulaw16_NumFields.j1 kq a0 x1_1 a2 x7_1 x50_6 = some r) ∧ Aside0 (kq ≤ k1) ∧ Aside0 (Below w.heap.size w wc))
        case first =>
          have H := HC7.out
          clear HC7
          by_cases c9 : (t254 != t258) = true
          · rw [if_pos c9] at H
            have c9b0 : (t254 != t258) = true := c9
            (try (have c9b1 : decide (t254 = t258) = false := by simpa using c9))
            (try (have c9b2 : (t254 == t258) = false := by simpa using c9))
            (try (have c9b3 : ¬ (t254 = t258) := by simpa using c9))
            clear c9
            (first | rw [c9b0] | (simp only [i64_w, i32_w]; rw [c9b0]) | skip)
            have H' := Aside0.mk H
            clear H
            go_wp2
            go_meet
            case rel => exact ⟨_, (true), (by first | rfl | (simp; done) | (simp [*]; done)), H', ⟨by have := HK1.out; first | omega | exact Nat.le_refl _⟩, ⟨by repeat (first | (with_reducible first | exact HB.out | apply below_alloc | apply pw_below_drewN | apply below_drew1) | exact HB.out)⟩⟩
          · rw [if_neg c9] at H
            have c9b0 : (t254 != t258) = false := by simpa using c9
            (try (have c9b1 : decide (t254 = t258) = true := by simpa using c9))
            (try (have c9b2 : (t254 == t258) = true := by simpa using c9))
            clear c9
            (first | rw [c9b0] | (simp only [i64_w, i32_w]; rw [c9b0]) | skip)
            by_cases c10 : t254 = true
            · subst c10
              have H1 : (if (strOfNums t253).toList = t257.toList then (portmanteaulaw16_NumFields.j1 k1 a0 x1_1 a2 x7_1 false) else (portmanteaulaw16_NumFields.j1 k1 a0 x1_1 a2 x7_1 true)) = some r := by rw [if_pos rfl] at H; exact H
              clear H
              have H := H1
              clear H1
              by_cases c11 : (strOfNums t253).toList = t257.toList
              · rw [if_pos c11] at H
                have c11b0 : ((strOfNums t253).toList == t257.toList) = true := beq_iff_eq.mpr c11
                have c11b1 : ((strOfNums t253).toList != t257.toList) = false := bne_eq_false_iff_eq.mpr c11
                clear c11
                have H' := Aside0.mk H
                clear H
                (try have hcv12 := fun (m_ : Nat) => own_string (P := Tryd.prog) Tryd.underlying29 Tryd.underlying5 Tryd.underlying9 (Kd.own_of_R (Kd.R_drewN HO256.out m_)))
                have hcv13 := own_string (P := Tryd.prog) Tryd.underlying29 Tryd.underlying5 Tryd.underlying9 (Kd.own_of_R HO256.out)
                go_wp2
                go_meet
                case rel => exact ⟨_, (false), (by first | rfl | (simp; done) | (simp [*]; done)), H', ⟨by have := HK1.out; first | omega | exact Nat.le_refl _⟩, ⟨by repeat (first | (with_reducible first | exact HB.out | apply below_alloc | apply pw_below_drewN | apply below_drew1) | exact HB.out)⟩⟩
              · rw [if_neg c11] at H
                have c11b0 : ((strOfNums t253).toList == t257.toList) = false := beq_eq_false_iff_ne.mpr c11
                have c11b1 : ((strOfNums t253).toList != t257.toList) = true := bne_iff_ne.mpr c11
                have H' := Aside0.mk H
                clear H
                (try have hcv14 := fun (m_ : Nat) => own_string (P := Tryd.prog) Tryd.underlying29 Tryd.underlying5 Tryd.underlying9 (Kd.own_of_R (Kd.R_drewN HO256.out m_)))
                have hcv15 := own_string (P := Tryd.prog) Tryd.underlying29 Tryd.underlying5 Tryd.underlying9 (Kd.own_of_R HO256.out)
                go_wp2
                go_meet
                case rel => exact ⟨_, (true), (by first | rfl | (simp; done) | (simp [*]; done)), H', ⟨by have := HK1.out; first | omega | exact Nat.le_refl _⟩, ⟨by repeat (first | (with_reducible first | exact HB.out | apply below_alloc | apply pw_below_drewN | apply below_drew1) | exact HB.out)⟩⟩
            · replace c10 := Bool.eq_false_iff.mpr c10
              subst c10
              have H1 : (portmanteaulaw16_NumFields.j1 k1 a0 x1_1 a2 x7_1 ((t253.length : Int) != 0)) = some r := by rw [if_neg (show ¬ (false = true) by decide)] at H; exact H
              clear H
              have H := H1
              clear H1
              have H' := Aside0.mk H
              clear H
              obtain ⟨Ao16, co16, eo16⟩ := Kd.R_slice HO256.out
              subst eo16
              go_wp2
              go_meet
              case rel => exact ⟨_, (((t253.length : Int) != 0)), (by first | rfl | (simp; done) | (simp [*]; done)), H', ⟨by have := HK1.out; first | omega | exact Nat.le_refl _⟩, ⟨by repeat (first | (with_reducible first | exact HB.out | apply below_alloc | apply pw_below_drewN | apply below_drew1) | exact HB.out)⟩⟩
        case rest =>
          clear HC7
          try clear c1
          try clear hcv1
          try clear p2
          try clear c4
          try clear c4b0
          try clear c7
          try clear c9
          try clear c9b0
          try clear c9b1
          try clear c9b2
          try clear c10
          try clear c11
          try clear c11b0
          try clear c11b1
          try clear hcv12
          try clear hcv13
          try clear hcv14
          try clear hcv15
          try clear p2
          obtain ⟨kq, x50_6, rfl, HA, HJ6, HB⟩ := hcut
          cases kq with
          | zero => exact absurd HA.out (by simp [portmanteaulaw16_NumFields.j1])
          | succ kj6 =>
            have H := HA.out
            clear HA
            simp only [portmanteaulaw16_NumFields.j1] at H
            by_cases c17 : x50_6 = true
            · subst c17
              have H1 : (some false) = some r := by rw [if_pos rfl] at H; exact H
              clear H
              have H := H1
              clear H1
              obtain rfl := Option.some.inj H
              go_wp2
              go_ret
              exact ⟨by first | rfl | (simp [errW_none, errW_some] <;> rfl) | (simp [*, errW_none, errW_some] <;> rfl), by repeat (first | (with_reducible first | exact HB.out | apply below_alloc | apply pw_below_drewN | apply below_drew1) | exact HB.out)⟩
            · replace c17 := Bool.eq_false_iff.mpr c17
              subst c17
              have H1 : ((num_Wide.f kj6 a0 x1_1).bind fun bt259 => ((portmanteauref16_Wide.f kj6 a0 x1_1).bind fun bt263 => (if (bt259.2 != bt263.2) = true then (portmanteaulaw16_NumFields.j2 kj6 a0 x1_1 a2 x7_1 true) else (if bt259.2 = true then (if (strOfNums bt259.1).toList = bt263.1.toList then (portmanteaulaw16_NumFields.j2 kj6 a0 x1_1 a2 x7_1 false) else (portmanteaulaw16_NumFields.j2 kj6 a0 x1_1 a2 x7_1 true)) else (portmanteaulaw16_NumFields.j2 kj6 a0 x1_1 a2 x7_1 ((bt259.1.length : Int) != 0)))))) = some r := by rw [if_neg (show ¬ (false = true) by decide)] at H; exact H
              clear H
              have H := H1
              clear H1
              replace H := Option.bind_eq_some_iff.mp H
              obtain ⟨⟨t259, t260⟩, A180, H⟩ := H
              replace H : ((portmanteauref16_Wide.f kj6 a0 x1_1).bind fun bt263 => (if (t260 != bt263.2) = true then (portmanteaulaw16_NumFields.j2 kj6 a0 x1_1 a2 x7_1 true) else (if t260 = true then (if (strOfNums t259).toList = bt263.1.toList then (portmanteaulaw16_NumFields.j2 kj6 a0 x1_1 a2 x7_1 false) else (portmanteaulaw16_NumFields.j2 kj6 a0 x1_1 a2 x7_1 true)) else (portmanteaulaw16_NumFields.j2 kj6 a0 x1_1 a2 x7_1 ((t259.length : Int) != 0))))) = some r := H
              have A18 := Aside0.mk A180
              clear A180
              replace H := Option.bind_eq_some_iff.mp H
              obtain ⟨⟨t263, t264⟩, A190, H⟩ := H
              replace H : (if (t260 != t264) = true then (portmanteaulaw16_NumFields.j2 kj6 a0 x1_1 a2 x7_1 true) else (if t260 = true then (if (strOfNums t259).toList = t263.toList then (portmanteaulaw16_NumFields.j2 kj6 a0 x1_1 a2 x7_1 false) else (portmanteaulaw16_NumFields.j2 kj6 a0 x1_1 a2 x7_1 true)) else (portmanteaulaw16_NumFields.j2 kj6 a0 x1_1 a2 x7_1 ((t259.length : Int) != 0)))) = some r := H
              have A19 := Aside0.mk A190
              clear A190
              have HC20 := Aside0.mk H
              clear H
              go_upto_region 10 with (first | ((with_reducible refine gate_callee (f := 13) rfl ?_); refine goesL_ (some 54) rfl rfl Tryd.func13 (by kernel_rfl) rfl #[.int .i64 a0, .int .i64 x1_1] rfl (by (try simp only [List.map_toArray, List.map_cons, List.map_nil]); first | done | rfl | (simp only [List.length_drop, List.length_take]; rfl)) ?_; (with_reducible refine (num_Wide.calls kj6 a0 x1_1 t259 t260 _ A18.out).mono ?_); rintro e w21 ⟨v261, rfl, ho0, hb⟩; refine ⟨_, rfl, ?_⟩; have n0_ := Aside0.mk (Kd.R_lower ho0 (below_size (by repeat (first | (with_reducible first | exact HB.out | apply below_alloc | apply pw_below_drewN | apply below_drew1) | exact HB.out)))); have n1_ := Aside0.mk (below_step (by repeat (first | (with_reducible first | exact HB.out | apply below_alloc | apply pw_below_drewN | apply below_drew1) | exact HB.out)) hb); clear HB; have HO262 := n0_; have HB := n1_; clear n0_ n1_; (try clear hb); (try clear hb2); (try clear hk); (try clear hi); (try clear ho0)) | ((with_reducible refine gate_callee (f := 15) rfl ?_); refine goesL_ (some 60) rfl rfl Tryd.func15 (by kernel_rfl) rfl #[.int .i64 a0, .int .i64 x1_1] rfl (by (try simp only [List.map_toArray, List.map_cons, List.map_nil]); first | done | rfl | (simp only [List.length_drop, List.length_take]; rfl)) ?_; (with_reducible refine (portmanteauref16_Wide.calls kj6 a0 x1_1 t263 t264 _ A19.out).mono ?_); rintro e w22 ⟨rfl, hb⟩; refine ⟨_, rfl, ?_⟩; have n0_ := Aside0.mk (Kd.R_below (by (with_reducible repeat (first | apply Kd.R_alloc | apply Kd.R_drewN | apply Kd.R_drew)); exact HO262.out) hb); have n1_ := Aside0.mk (below_step (by repeat (first | (with_reducible first | exact HB.out | apply below_alloc | apply pw_below_drewN | apply below_drew1) | exact HB.out)) hb); clear HO262; clear HB; have HO262 := n0_; have HB := n1_; clear n0_ n1_; (try clear hb); (try clear hb2); (try clear hk); (try clear hi)))
              (try simp only [Act.put, List.setIfInBounds_toArray, List.set_cons_zero, List.set_cons_succ])
              go_cut [83] (fun v83 wc => ∃ (kq : Nat) (x83_19 : Bool), v83 = .bool x83_19 ∧ Aside0 (portmanteaulaw16_NumFields.j2 kq a0 x1_1 a2 x7_1 x83_19 = some r) ∧ Aside0 (kq ≤ kj6) ∧ Aside0 (Below w.heap.size w wc))
              case first =>
                have H := HC20.out
                clear HC20
                by_cases c23 : (t260 != t264) = true
                · rw [if_pos c23] at H
                  have c23b0 : (t260 != t264) = true := c23
                  (try (have c23b1 : decide (t260 = t264) = false := by simpa using c23))
                  (try (have c23b2 : (t260 == t264) = false := by simpa using c23))
                  (try (have c23b3 : ¬ (t260 = t264) := by simpa using c23))
                  clear c23
                  (first | rw [c23b0] | (simp only [i64_w, i32_w]; rw [c23b0]) | skip)
                  have H' := Aside0.mk H
                  clear H
                  go_wp2
                  go_meet
                  case rel => exact ⟨_, (true), (by first | rfl | (simp; done) | (simp [*]; done)), H', ⟨by have := HK1.out; have := HJ6.out; first | omega | exact Nat.le_refl _⟩, ⟨by repeat (first | (with_reducible first | exact HB.out | apply below_alloc | apply pw_below_drewN | apply below_drew1) | exact HB.out)⟩⟩
                · rw [if_neg c23] at H
                  have c23b0 : (t260 != t264) = false := by simpa using c23
                  (try (have c23b1 : decide (t260 = t264) = true := by simpa using c23))
                  (try (have c23b2 : (t260 == t264) = true := by simpa using c23))
                  clear c23
                  (first | rw [c23b0] | (simp only [i64_w, i32_w]; rw [c23b0]) | skip)
                  by_cases c24 : t260 = true
                  · subst c24
                    have H1 : (if (strOfNums t259).toList = t263.toList then (portmanteaulaw16_NumFields.j2 kj6 a0 x1_1 a2 x7_1 false) else (portmanteaulaw16_NumFields.j2 kj6 a0 x1_1 a2 x7_1 true)) = some r := by rw [if_pos rfl] at H; exact H
                    clear H
                    have H := H1
                    clear H1
                    by_cases c25 : (strOfNums t259).toList = t263.toList
                    · rw [if_pos c25] at H
                      have c25b0 : ((strOfNums t259).toList == t263.toList) = true := beq_iff_eq.mpr c25
                      have c25b1 : ((strOfNums t259).toList != t263.toList) = false := bne_eq_false_iff_eq.mpr c25
                      clear c25
                      have H' := Aside0.mk H
                      clear H
                      (try have hcv26 := fun (m_ : Nat) => own_string (P := Tryd.prog) Tryd.underlying29 Tryd.underlying5 Tryd.underlying9 (Kd.own_of_R (Kd.R_drewN HO262.out m_)))
                      have hcv27 := own_string (P := Tryd.prog) Tryd.underlying29 Tryd.underlying5 Tryd.underlying9 (Kd.own_of_R HO262.out)
                      go_wp2
                      go_meet
                      case rel => exact ⟨_, (false), (by first | rfl | (simp; done) | (simp [*]; done)), H', ⟨by have := HK1.out; have := HJ6.out; first | omega | exact Nat.le_refl _⟩, ⟨by repeat (first | (with_reducible first | exact HB.out | apply below_alloc | apply pw_below_drewN | apply below_drew1) | exact HB.out)⟩⟩
                    · rw [if_neg c25] at H
                      have c25b0 : ((strOfNums t259).toList == t263.toList) = false := beq_eq_false_iff_ne.mpr c25
                      have c25b1 : ((strOfNums t259).toList != t263.toList) = true := bne_iff_ne.mpr c25
                      have H' := Aside0.mk H
                      clear H
                      (try have hcv28 := fun (m_ : Nat) => own_string (P := Tryd.prog) Tryd.underlying29 Tryd.underlying5 Tryd.underlying9 (Kd.own_of_R (Kd.R_drewN HO262.out m_)))
                      have hcv29 := own_string (P := Tryd.prog) Tryd.underlying29 Tryd.underlying5 Tryd.underlying9 (Kd.own_of_R HO262.out)
                      go_wp2
                      go_meet
                      case rel => exact ⟨_, (true), (by first | rfl | (simp; done) | (simp [*]; done)), H', ⟨by have := HK1.out; have := HJ6.out; first | omega | exact Nat.le_refl _⟩, ⟨by repeat (first | (with_reducible first | exact HB.out | apply below_alloc | apply pw_below_drewN | apply below_drew1) | exact HB.out)⟩⟩
                  · replace c24 := Bool.eq_false_iff.mpr c24
                    subst c24
                    have H1 : (portmanteaulaw16_NumFields.j2 kj6 a0 x1_1 a2 x7_1 ((t259.length : Int) != 0)) = some r := by rw [if_neg (show ¬ (false = true) by decide)] at H; exact H
                    clear H
                    have H := H1
                    clear H1
                    have H' := Aside0.mk H
                    clear H
                    obtain ⟨Ao30, co30, eo30⟩ := Kd.R_slice HO262.out
                    subst eo30
                    go_wp2
                    go_meet
                    case rel => exact ⟨_, (((t259.length : Int) != 0)), (by first | rfl | (simp; done) | (simp [*]; done)), H', ⟨by have := HK1.out; have := HJ6.out; first | omega | exact Nat.le_refl _⟩, ⟨by repeat (first | (with_reducible first | exact HB.out | apply below_alloc | apply pw_below_drewN | apply below_drew1) | exact HB.out)⟩⟩
              case rest =>
                clear HC20
                try clear c1
                try clear hcv1
                try clear c2
                try clear p2
                try clear hcv2
                try clear c4
                try clear c4b0
                try clear c7
                try clear c9
                try clear c9b0
                try clear c9b1
                try clear c9b2
                try clear c10
                try clear c11
                try clear c11b0
                try clear c11b1
                try clear hcv12
                try clear c13
                try clear hcv13
                try clear hcv14
                try clear c15
                try clear hcv15
                try clear c17
                try clear c23
                try clear c23b0
                try clear c23b1
                try clear c23b2
                try clear c24
                try clear c25
                try clear c25b0
                try clear c25b1
                try clear hcv26
                try clear hcv27
                try clear hcv28
                try clear hcv29
                try clear p2
                obtain ⟨kq, x83_19, rfl, HA, HJ19, HB⟩ := hcut
                cases kq with
                | zero => exact absurd HA.out (by simp [portmanteaulaw16_NumFields.j2])
                | succ kj19 =>
                  have H := HA.out
                  clear HA
                  simp only [portmanteaulaw16_NumFields.j2] at H
                  by_cases c31 : x83_19 = true
                  · subst c31
                    have H1 : (some false) = some r := by rw [if_pos rfl] at H; exact H
                    clear H
                    have H := H1
                    clear H1
                    obtain rfl := Option.some.inj H
                    go_wp2
                    go_ret
                    exact ⟨by first | rfl | (simp [errW_none, errW_some] <;> rfl) | (simp [*, errW_none, errW_some] <;> rfl), by repeat (first | (with_reducible first | exact HB.out | apply below_alloc | apply pw_below_drewN | apply below_drew1) | exact HB.out)⟩
                  · replace c31 := Bool.eq_false_iff.mpr c31
                    subst c31
                    have H1 : ((num_Field.f kj19 a0 x1_1 a2).bind fun bt265 => ((portmanteauref16_Field.f kj19 a0 x1_1 a2).bind fun bt269 => (if (bt265.2 != bt269.2) = true then (portmanteaulaw16_NumFields.j3 kj19 a0 x1_1 a2 x7_1 bt265.1 bt265.2 true) else (portmanteaulaw16_NumFields.j3 kj19 a0 x1_1 a2 x7_1 bt265.1 bt265.2 ((strOfNums bt265.1).toList != bt269.1.toList))))) = some r := by rw [if_neg (show ¬ (false = true) by decide)] at H; exact H
                    clear H
                    have H := H1
                    clear H1
                    replace H := Option.bind_eq_some_iff.mp H
                    obtain ⟨⟨t265, t266⟩, A320, H⟩ := H
                    replace H : ((portmanteauref16_Field.f kj19 a0 x1_1 a2).bind fun bt269 => (if (t266 != bt269.2) = true then (portmanteaulaw16_NumFields.j3 kj19 a0 x1_1 a2 x7_1 t265 t266 true) else (portmanteaulaw16_NumFields.j3 kj19 a0 x1_1 a2 x7_1 t265 t266 ((strOfNums t265).toList != bt269.1.toList)))) = some r := H
                    have A32 := Aside0.mk A320
                    clear A320
                    replace H := Option.bind_eq_some_iff.mp H
                    obtain ⟨⟨t269, t270⟩, A330, H⟩ := H
                    replace H : (if (t266 != t270) = true then (portmanteaulaw16_NumFields.j3 kj19 a0 x1_1 a2 x7_1 t265 t266 true) else (portmanteaulaw16_NumFields.j3 kj19 a0 x1_1 a2 x7_1 t265 t266 ((strOfNums t265).toList != t269.toList))) = some r := H
                    have A33 := Aside0.mk A330
                    clear A330
                    have HC34 := Aside0.mk H
                    clear H
                    go_upto_region 14 with (first | ((with_reducible refine gate_callee (f := 18) rfl ?_); refine goesL_ (some 88) rfl rfl Tryd.func18 (by kernel_rfl) rfl #[.int .i64 a0, .int .i64 x1_1, .bool a2] rfl (by (try simp only [List.map_toArray, List.map_cons, List.map_nil]); first | done | rfl | (simp only [List.length_drop, List.length_take]; rfl)) ?_; (with_reducible refine (num_Field.calls kj19 a0 x1_1 a2 t265 t266 _ A32.out).mono ?_); rintro e w35 ⟨v267, rfl, ho0, hb⟩; refine ⟨_, rfl, ?_⟩; have n0_ := Aside0.mk (Kd.R_lower ho0 (below_size (by repeat (first | (with_reducible first | exact HB.out | apply below_alloc | apply pw_below_drewN | apply below_drew1) | exact HB.out)))); have n1_ := Aside0.mk (below_step (by repeat (first | (with_reducible first | exact HB.out | apply below_alloc | apply pw_below_drewN | apply below_drew1) | exact HB.out)) hb); clear HB; have HO268 := n0_; have HB := n1_; clear n0_ n1_; (try clear hb); (try clear hb2); (try clear hk); (try clear hi); (try clear ho0)) | ((with_reducible refine gate_callee (f := 19) rfl ?_); refine goesL_ (some 95) rfl rfl Tryd.func19 (by kernel_rfl) rfl #[.int .i64 a0, .int .i64 x1_1, .bool a2] rfl (by (try simp only [List.map_toArray, List.map_cons, List.map_nil]); first | done | rfl | (simp only [List.length_drop, List.length_take]; rfl)) ?_; (with_reducible refine (portmanteauref16_Field.calls kj19 a0 x1_1 a2 t269 t270 _ A33.out).mono ?_); rintro e w36 ⟨rfl, hb⟩; refine ⟨_, rfl, ?_⟩; have n0_ := Aside0.mk (Kd.R_below (by (with_reducible repeat (first | apply Kd.R_alloc | apply Kd.R_drewN | apply Kd.R_drew)); exact HO268.out) hb); have n1_ := Aside0.mk (below_step (by repeat (first | (with_reducible first | exact HB.out | apply below_alloc | apply pw_below_drewN | apply below_drew1) | exact HB.out)) hb); clear HO268; clear HB; have HO268 := n0_; have HB := n1_; clear n0_ n1_; (try clear hb); (try clear hb2); (try clear hk); (try clear hi)))
                    (try simp only [Act.put, List.setIfInBounds_toArray, List.set_cons_zero, List.set_cons_succ])
                    go_cut [106] (fun v106 wc => ∃ (kq : Nat) (x106_33 : Bool), v106 = .bool x106_33 ∧ Aside0 (portmanteaulaw16_NumFields.j3 kq a0 x1_1 a2 x7_1 t265 t266 x106_33 = some r) ∧ Aside0 (kq ≤ kj19) ∧ Aside0 (Kd.R (Kd.int .u8) 5 wc w.heap.size (fun _ => True) v267 t265) ∧ Aside0 (Below w.heap.size w wc))
                    case first =>
                      have H := HC34.out
                      clear HC34
                      by_cases c37 : (t266 != t270) = true
                      · rw [if_pos c37] at H
                        have c37b0 : (t266 != t270) = true := c37
                        (try (have c37b1 : decide (t266 = t270) = false := by simpa using c37))
                        (try (have c37b2 : (t266 == t270) = false := by simpa using c37))
                        (try (have c37b3 : ¬ (t266 = t270) := by simpa using c37))
                        clear c37
                        (first | rw [c37b0] | (simp only [i64_w, i32_w]; rw [c37b0]) | skip)
                        have H' := Aside0.mk H
                        clear H
                        go_wp2
                        go_meet
                        case rel => exact ⟨_, (true), (by first | rfl | (simp; done) | (simp [*]; done)), H', ⟨by have := HK1.out; have := HJ6.out; have := HJ19.out; first | omega | exact Nat.le_refl _⟩, ⟨by (with_reducible repeat (first | apply Kd.R_alloc | apply Kd.R_drewN | apply Kd.R_drew)); exact HO268.out⟩, ⟨by repeat (first | (with_reducible first | exact HB.out | apply below_alloc | apply pw_below_drewN | apply below_drew1) | exact HB.out)⟩⟩
                      · rw [if_neg c37] at H
                        have c37b0 : (t266 != t270) = false := by simpa using c37
                        (try (have c37b1 : decide (t266 = t270) = true := by simpa using c37))
                        (try (have c37b2 : (t266 == t270) = true := by simpa using c37))
                        clear c37
                        (first | rw [c37b0] | (simp only [i64_w, i32_w]; rw [c37b0]) | skip)
                        have H' := Aside0.mk H
                        clear H
                        (try have hcv38 := fun (m_ : Nat) => own_string (P := Tryd.prog) Tryd.underlying29 Tryd.underlying5 Tryd.underlying9 (Kd.own_of_R (Kd.R_drewN HO268.out m_)))
                        have hcv39 := own_string (P := Tryd.prog) Tryd.underlying29 Tryd.underlying5 Tryd.underlying9 (Kd.own_of_R HO268.out)
                        go_wp2
                        go_meet
                        case rel => exact ⟨_, (((strOfNums t265).toList != t269.toList)), (by first | rfl | (simp; done) | (simp [*]; done)), H', ⟨by have := HK1.out; have := HJ6.out; have := HJ19.out; first | omega | exact Nat.le_refl _⟩, ⟨by (with_reducible repeat (first | apply Kd.R_alloc | apply Kd.R_drewN | apply Kd.R_drew)); exact HO268.out⟩, ⟨by repeat (first | (with_reducible first | exact HB.out | apply below_alloc | apply pw_below_drewN | apply below_drew1) | exact HB.out)⟩⟩
                    case rest =>
                      clear HC34
                      try clear c1
                      try clear hcv1
                      try clear c2
                      try clear p2
                      try clear hcv2
                      try clear c3
                      try clear hcv3
                      try clear c4
                      try clear c4b0
                      try clear c7
                      try clear c9
                      try clear c9b0
                      try clear c9b1
                      try clear c9b2
                      try clear c10
                      try clear c11
                      try clear c11b0
                      try clear c11b1
                      try clear hcv12
                      try clear c13
                      try clear hcv13
                      try clear hcv14
                      try clear c15
                      try clear hcv15
                      try clear c17
                      try clear c18
                      try clear c19
                      try clear c23
                      try clear c23b0
                      try clear c23b1
                      try clear c23b2
                      try clear c24
                      try clear c25
                      try clear c25b0
                      try clear c25b1
                      try clear hcv26
                      try clear hcv27
                      try clear hcv28
                      try clear hcv29
                      try clear c31
                      try clear c37
                      try clear c37b0
                      try clear c37b1
                      try clear c37b2
                      try clear hcv38
                      try clear hcv39
                      try clear p2
                      obtain ⟨kq, x106_33, rfl, HA, HJ33, HO_8, HB⟩ := hcut
                      cases kq with
                      | zero => exact absurd HA.out (by simp [portmanteaulaw16_NumFields.j3])
                      | succ kj33 =>
                        have H := HA.out
                        clear HA
                        simp only [portmanteaulaw16_NumFields.j3] at H
                        by_cases c40 : x106_33 = true
                        · subst c40
                          have H1 : (some false) = some r := by rw [if_pos rfl] at H; exact H
                          clear H
                          have H := H1
                          clear H1
                          obtain rfl := Option.some.inj H
                          go_wp2
                          go_ret
                          exact ⟨by first | rfl | (simp [errW_none, errW_some] <;> rfl) | (simp [*, errW_none, errW_some] <;> rfl), by repeat (first | (with_reducible first | exact HB.out | apply below_alloc | apply pw_below_drewN | apply below_drew1) | exact HB.out)⟩
                        · replace c40 := Bool.eq_false_iff.mpr c40
                          subst c40
                          have H1 : (if t266 = true then ((num_Read.f kj33 t265).bind fun bt271 => (if bt271.2 = true then (if bt271.1 = a0 then (portmanteaulaw16_NumFields.l0 kj33 a0 (wrap64 ((Int.tmod (Go.bits .and .i64 x1_1 255) 11) + 2)) a2 (wrap64 (x7_1 + 1))) else (some false)) else (some false))) else (portmanteaulaw16_NumFields.l0 kj33 a0 (wrap64 ((Int.tmod (Go.bits .and .i64 x1_1 255) 11) + 2)) a2 (wrap64 (x7_1 + 1)))) = some r := by rw [if_neg (show ¬ (false = true) by decide)] at H; exact H
                          clear H
                          have H := H1
                          clear H1
                          by_cases c41 : t266 = true
                          · subst c41
                            have H1 : ((num_Read.f kj33 t265).bind fun bt271 => (if bt271.2 = true then (if bt271.1 = a0 then (portmanteaulaw16_NumFields.l0 kj33 a0 (wrap64 ((Int.tmod (Go.bits .and .i64 x1_1 255) 11) + 2)) a2 (wrap64 (x7_1 + 1))) else (some false)) else (some false))) = some r := by rw [if_pos rfl] at H; exact H
                            clear H
                            have H := H1
                            clear H1
                            replace H := Option.bind_eq_some_iff.mp H
                            obtain ⟨⟨t271, t272⟩, A420, H⟩ := H
                            replace H : (if t272 = true then (if t271 = a0 then (portmanteaulaw16_NumFields.l0 kj33 a0 (wrap64 ((Int.tmod (Go.bits .and .i64 x1_1 255) 11) + 2)) a2 (wrap64 (x7_1 + 1))) else (some false)) else (some false)) = some r := H
                            have A42 := Aside0.mk A420
                            clear A420
                            by_cases c43 : t272 = true
                            · subst c43
                              have H1 : (if t271 = a0 then (portmanteaulaw16_NumFields.l0 kj33 a0 (wrap64 ((Int.tmod (Go.bits .and .i64 x1_1 255) 11) + 2)) a2 (wrap64 (x7_1 + 1))) else (some false)) = some r := by rw [if_pos rfl] at H; exact H
                              clear H
                              have H := H1
                              clear H1
                              by_cases c44 : t271 = a0
                              · rw [if_pos c44] at H
                                have c44b0 : (t271 == a0) = true := beq_iff_eq.mpr c44
                                have c44b1 : (t271 != a0) = false := bne_eq_false_iff_eq.mpr c44
                                clear c44
                                have H' := Aside0.mk H
                                clear H
                                obtain ⟨Ao45, co45, eo45⟩ := Kd.R_slice HO_8.out
                                subst eo45
                                go_wp2_with (first | ((with_reducible refine gate_callee (f := 12) rfl ?_); refine goesL_ (some 110) rfl rfl Tryd.func12 (by kernel_rfl) rfl #[.slice Ao45 t265.length co45] rfl (by (try simp only [List.map_toArray, List.map_cons, List.map_nil]); first | done | rfl | (simp only [List.length_drop, List.length_take]; rfl)) ?_; (with_reducible refine (num_Read.calls kj33 (fun k_ => some k_ = (.slice Ao45 t265.length co45 : Value).ownBlock) _ _ t265 t271 true _ ?side1 A42.out).mono ?_); (case side1 => exact Kd.R_V (Kd.R_tight rfl (HO_8.out))); rintro e w46 ⟨rfl, hb⟩; refine ⟨_, rfl, ?_⟩; have n0_ := Aside0.mk (Kd.R_below (by (with_reducible repeat (first | apply Kd.R_alloc | apply Kd.R_drewN | apply Kd.R_drew)); exact HO_8.out) hb); have n1_ := Aside0.mk (below_step (by repeat (first | (with_reducible first | exact HB.out | apply below_alloc | apply pw_below_drewN | apply below_drew1) | exact HB.out)) hb); clear HO_8; clear HB; have HO_8 := n0_; have HB := n1_; clear n0_ n1_; (try clear hb); (try clear hb2); (try clear hk); (try clear hi)))
                                go_roundg kj33
                                case measure => have := HK1.out; have := HJ6.out; have := HJ19.out; have := HJ33.out; omega
                                case rel => exact ⟨(wrap64 ((Int.tmod (Go.bits .and .i64 x1_1 255) 11) + 2)), (wrap64 (x7_1 + 1)), (by first | rfl | (simp; done) | (simp [*]; done)), (by first | rfl | (simp; done) | (simp [*]; done)), H', ⟨by have := HK1.out; have := HJ6.out; have := HJ19.out; have := HJ33.out; omega⟩, ⟨by repeat (first | (with_reducible first | exact HB.out | apply below_alloc | apply pw_below_drewN | apply below_drew1) | exact HB.out)⟩⟩
                              · rw [if_neg c44] at H
                                have c44b0 : (t271 == a0) = false := beq_eq_false_iff_ne.mpr c44
                                have c44b1 : (t271 != a0) = true := bne_iff_ne.mpr c44
                                obtain rfl := Option.some.inj H
                                obtain ⟨Ao47, co47, eo47⟩ := Kd.R_slice HO_8.out
                                subst eo47
                                go_wp2_with (first | ((with_reducible refine gate_callee (f := 12) rfl ?_); refine goesL_ (some 110) rfl rfl Tryd.func12 (by kernel_rfl) rfl #[.slice Ao47 t265.length co47] rfl (by (try simp only [List.map_toArray, List.map_cons, List.map_nil]); first | done | rfl | (simp only [List.length_drop, List.length_take]; rfl)) ?_; (with_reducible refine (num_Read.calls kj33 (fun k_ => some k_ = (.slice Ao47 t265.length co47 : Value).ownBlock) _ _ t265 t271 true _ ?side1 A42.out).mono ?_); (case side1 => exact Kd.R_V (Kd.R_tight rfl (HO_8.out))); rintro e w48 ⟨rfl, hb⟩; refine ⟨_, rfl, ?_⟩; have n0_ := Aside0.mk (Kd.R_below (by (with_reducible repeat (first | apply Kd.R_alloc | apply Kd.R_drewN | apply Kd.R_drew)); exact HO_8.out) hb); have n1_ := Aside0.mk (below_step (by repeat (first | (with_reducible first | exact HB.out | apply below_alloc | apply pw_below_drewN | apply below_drew1) | exact HB.out)) hb); clear HO_8; clear HB; have HO_8 := n0_; have HB := n1_; clear n0_ n1_; (try clear hb); (try clear hb2); (try clear hk); (try clear hi)))
                                go_ret
                                exact ⟨by first | rfl | (simp [errW_none, errW_some] <;> rfl) | (simp [*, errW_none, errW_some] <;> rfl), by repeat (first | (with_reducible first | exact HB.out | apply below_alloc | apply pw_below_drewN | apply below_drew1) | exact HB.out)⟩
                            · replace c43 := Bool.eq_false_iff.mpr c43
                              subst c43
                              have H1 : (some false) = some r := by rw [if_neg (show ¬ (false = true) by decide)] at H; exact H
                              clear H
                              have H := H1
                              clear H1
                              obtain rfl := Option.some.inj H
                              obtain ⟨Ao49, co49, eo49⟩ := Kd.R_slice HO_8.out
                              subst eo49
                              go_wp2_with (first | ((with_reducible refine gate_callee (f := 12) rfl ?_); refine goesL_ (some 110) rfl rfl Tryd.func12 (by kernel_rfl) rfl #[.slice Ao49 t265.length co49] rfl (by (try simp only [List.map_toArray, List.map_cons, List.map_nil]); first | done | rfl | (simp only [List.length_drop, List.length_take]; rfl)) ?_; (with_reducible refine (num_Read.calls kj33 (fun k_ => some k_ = (.slice Ao49 t265.length co49 : Value).ownBlock) _ _ t265 t271 false _ ?side1 A42.out).mono ?_); (case side1 => exact Kd.R_V (Kd.R_tight rfl (HO_8.out))); rintro e w50 ⟨rfl, hb⟩; refine ⟨_, rfl, ?_⟩; have n0_ := Aside0.mk (Kd.R_below (by (with_reducible repeat (first | apply Kd.R_alloc | apply Kd.R_drewN | apply Kd.R_drew)); exact HO_8.out) hb); have n1_ := Aside0.mk (below_step (by repeat (first | (with_reducible first | exact HB.out | apply below_alloc | apply pw_below_drewN | apply below_drew1) | exact HB.out)) hb); clear HO_8; clear HB; have HO_8 := n0_; have HB := n1_; clear n0_ n1_; (try clear hb); (try clear hb2); (try clear hk); (try clear hi)))
                              go_ret
                              exact ⟨by first | rfl | (simp [errW_none, errW_some] <;> rfl) | (simp [*, errW_none, errW_some] <;> rfl), by repeat (first | (with_reducible first | exact HB.out | apply below_alloc | apply pw_below_drewN | apply below_drew1) | exact HB.out)⟩
                          · replace c41 := Bool.eq_false_iff.mpr c41
                            subst c41
                            have H1 : (portmanteaulaw16_NumFields.l0 kj33 a0 (wrap64 ((Int.tmod (Go.bits .and .i64 x1_1 255) 11) + 2)) a2 (wrap64 (x7_1 + 1))) = some r := by rw [if_neg (show ¬ (false = true) by decide)] at H; exact H
                            clear H
                            have H := H1
                            clear H1
                            have H' := Aside0.mk H
                            clear H
                            go_wp2
                            go_roundg kj33
                            case measure => have := HK1.out; have := HJ6.out; have := HJ19.out; have := HJ33.out; omega
                            case rel => exact ⟨(wrap64 ((Int.tmod (Go.bits .and .i64 x1_1 255) 11) + 2)), (wrap64 (x7_1 + 1)), (by first | rfl | (simp; done) | (simp [*]; done)), (by first | rfl | (simp; done) | (simp [*]; done)), H', ⟨by have := HK1.out; have := HJ6.out; have := HJ19.out; have := HJ33.out; omega⟩, ⟨by repeat (first | (with_reducible first | exact HB.out | apply below_alloc | apply pw_below_drewN | apply below_drew1) | exact HB.out)⟩⟩
      · rw [if_neg c4] at H
        have c4b0 : decide (x7_1 < 2) = false := decide_eq_false c4
        clear c4
        replace H := Option.bind_eq_some_iff.mp H
        obtain ⟨t252, A510, H⟩ := H
        replace H : (some t252) = some r := H
        have A51 := Aside0.mk A510
        clear A510
        obtain rfl := Option.some.inj H
        go_wp2_with (first | ((with_reducible refine gate_callee (f := 14) rfl ?_); refine goesL_ (some 124) rfl rfl Tryd.func14 (by kernel_rfl) rfl #[] rfl (by (try simp only [List.map_toArray, List.map_cons, List.map_nil]); first | done | rfl | (simp only [List.length_drop, List.length_take]; rfl)) ?_; (with_reducible refine (portmanteaulaw16_awake.calls k1  t252 _ ?side1 A51.out).mono ?_); (case side1 => exact Glob.to (by decide) HG.out (by repeat (first | (with_reducible first | exact HB.out | apply below_alloc | apply pw_below_drewN | apply below_drew1) | exact HB.out))); rintro e w52 ⟨rfl, hb⟩; refine ⟨_, rfl, ?_⟩; have n0_ := Aside0.mk (below_step (by repeat (first | (with_reducible first | exact HB.out | apply below_alloc | apply pw_below_drewN | apply below_drew1) | exact HB.out)) hb); clear HB; have HB := n0_; clear n0_; (try clear hb); (try clear hb2); (try clear hk); (try clear hi)))
        go_ret
        exact ⟨by first | rfl | (simp [errW_none, errW_some] <;> rfl) | (simp [*, errW_none, errW_some] <;> rfl), by repeat (first | (with_reducible first | exact HB.out | apply below_alloc | apply pw_below_drewN | apply below_drew1) | exact HB.out)⟩

/-- THE ONE PURE STATEMENT of portmanteaulaw16_NumFields: yours. -/
def portmanteaulaw16_NumFields.Pure : Prop := ∀ (a0 : Int) (a1 : Int) (a2 : Bool), (Lit.int .i64 a0).wf = true → (Lit.int .i64 a1).wf = true → ∃ k, portmanteaulaw16_NumFields.f k a0 a1 a2 = some true
theorem portmanteaulaw16_NumFields.walk (P : portmanteaulaw16_NumFields.Pure) (a0 : Int) (a1 : Int) (a2 : Bool) (w : World) (w0 : (Lit.int .i64 a0).wf = true) (w1 : (Lit.int .i64 a1).wf = true) (hG : Glob 1 w) :
    Calls Tryd.prog 7 #[.int .i64 a0, .int .i64 a1, .bool a2] w fun e w' => e = .returned (.bool true) ∧ Below w.heap.size w w' := by
  obtain ⟨k, h⟩ := P a0 a1 a2 w0 w1
  refine (portmanteaulaw16_NumFields.calls k a0 a1 a2 true w hG h).mono ?_
  rintro e w' ⟨rfl, hd⟩
  exact ⟨rfl, hd⟩

/-! ### portmanteauref13_Digits: function 21 -/
mutual
def portmanteauref13_Digits.j0 : Nat → Int → ByteArray → ByteArray → Option (ByteArray)
  | 0, _, _, _ => none
  | k + 1, x3, x4, x5 => portmanteauref13_Digits.l0 k x3 x4 x5
def portmanteauref13_Digits.l0 : Nat → Int → ByteArray → ByteArray → Option (ByteArray)
  | 0, _, _, _ => none
  | k + 1, x3, x4, x5 => if x3 > 9 then (if 0 ≤ (wrap64 (Int.tmod x3 10)) then (if (wrap64 (Int.tmod x3 10)) ≤ (wrap64 ((wrap64 (Int.tmod x3 10)) + 1)) then (if (wrap64 ((wrap64 (Int.tmod x3 10)) + 1)) ≤ 10 then (if ((⟨#[48, 49, 50, 51, 52, 53, 54, 55, 56, 57]⟩ : ByteArray).extract ((wrap64 (Int.tmod x3 10)) : Int).toNat ((wrap64 ((wrap64 (Int.tmod x3 10)) + 1)) : Int).toNat).size + x4.size ≤ 9223372036854775807 then (portmanteauref13_Digits.l0 k (IntKind.u64.wrap (Int.tdiv x3 10)) (((⟨#[48, 49, 50, 51, 52, 53, 54, 55, 56, 57]⟩ : ByteArray).extract ((wrap64 (Int.tmod x3 10)) : Int).toNat ((wrap64 ((wrap64 (Int.tmod x3 10)) + 1)) : Int).toNat) ++ x4) x5) else (none)) else (none)) else (none)) else (none)) else (if 0 ≤ (wrap64 (x3)) then (if (wrap64 (x3)) ≤ (wrap64 ((wrap64 (x3)) + 1)) then (if (wrap64 ((wrap64 (x3)) + 1)) ≤ 10 then (if x5.size + ((⟨#[48, 49, 50, 51, 52, 53, 54, 55, 56, 57]⟩ : ByteArray).extract ((wrap64 (x3)) : Int).toNat ((wrap64 ((wrap64 (x3)) + 1)) : Int).toNat).size ≤ 9223372036854775807 then (if (x5 ++ ((⟨#[48, 49, 50, 51, 52, 53, 54, 55, 56, 57]⟩ : ByteArray).extract ((wrap64 (x3)) : Int).toNat ((wrap64 ((wrap64 (x3)) + 1)) : Int).toNat)).size + x4.size ≤ 9223372036854775807 then (some ((x5 ++ ((⟨#[48, 49, 50, 51, 52, 53, 54, 55, 56, 57]⟩ : ByteArray).extract ((wrap64 (x3)) : Int).toNat ((wrap64 ((wrap64 (x3)) + 1)) : Int).toNat)) ++ x4)) else (none)) else (none)) else (none)) else (none)) else (none))
end
def portmanteauref13_Digits.f (k : Nat) (a0 : Int) : Option (ByteArray) := if a0 < 0 then (portmanteauref13_Digits.j0 k (IntKind.u64.wrap (-(IntKind.u64.wrap (a0)))) (⟨#[]⟩ : ByteArray) (⟨#[45]⟩ : ByteArray)) else (portmanteauref13_Digits.j0 k (IntKind.u64.wrap (a0)) (⟨#[]⟩ : ByteArray) (⟨#[]⟩ : ByteArray))
theorem portmanteauref13_Digits.mono_l : ∀ k, (∀ y0 y1 y2, LeO (portmanteauref13_Digits.j0 k y0 y1 y2) (portmanteauref13_Digits.j0 (k + 1) y0 y1 y2)) ∧ (∀ y0 y1 y2, LeO (portmanteauref13_Digits.l0 k y0 y1 y2) (portmanteauref13_Digits.l0 (k + 1) y0 y1 y2))
  | 0 => ⟨fun _ _ _ r h => by simp [portmanteauref13_Digits.j0] at h, fun _ _ _ r h => by simp [portmanteauref13_Digits.l0] at h⟩
  | k + 1 => by
    obtain ⟨ih0, ih1⟩ := portmanteauref13_Digits.mono_l k
    refine ⟨?_, ?_⟩
    · intro y0 y1 y2
      unfold portmanteauref13_Digits.j0
      repeat' first
      | (with_reducible exact ih0 _ _ _)
      | (with_reducible exact ih1 _ _ _)
      | (with_reducible exact LeO.refl _)
      | (with_reducible exact LeO.none _)
      | (with_reducible refine LeO.ite ?_ ?_)
      | (with_reducible refine LeO.bind ?_ (fun _ => ?_))
      | exact ih0 _ _ _
      | exact ih1 _ _ _
      | exact LeO.none _
      | refine LeO.ite ?_ ?_
      | refine LeO.bind ?_ (fun _ => ?_)
    · intro y0 y1 y2
      unfold portmanteauref13_Digits.l0
      repeat' first
      | (with_reducible exact ih0 _ _ _)
      | (with_reducible exact ih1 _ _ _)
      | (with_reducible exact LeO.refl _)
      | (with_reducible exact LeO.none _)
      | (with_reducible refine LeO.ite ?_ ?_)
      | (with_reducible refine LeO.bind ?_ (fun _ => ?_))
      | exact ih0 _ _ _
      | exact ih1 _ _ _
      | exact LeO.none _
      | refine LeO.ite ?_ ?_
      | refine LeO.bind ?_ (fun _ => ?_)
theorem portmanteauref13_Digits.mono : ∀ a0 k, LeO (portmanteauref13_Digits.f k a0) (portmanteauref13_Digits.f (k + 1) a0) := by
  intro a0 k
  obtain ⟨ih0, ih1⟩ := portmanteauref13_Digits.mono_l k
  unfold portmanteauref13_Digits.f
  repeat' first
      | (with_reducible exact ih0 _ _ _)
      | (with_reducible exact ih1 _ _ _)
      | (with_reducible exact LeO.refl _)
      | (with_reducible exact LeO.none _)
      | (with_reducible refine LeO.ite ?_ ?_)
      | (with_reducible refine LeO.bind ?_ (fun _ => ?_))
      | exact ih0 _ _ _
      | exact ih1 _ _ _
      | exact LeO.none _
      | refine LeO.ite ?_ ?_
      | refine LeO.bind ?_ (fun _ => ?_)
set_option maxHeartbeats 8000000 in
set_option maxRecDepth 100000 in
theorem portmanteauref13_Digits.calls (k : Nat) (a0 : Int) (r : ByteArray) (w : World) (h : portmanteauref13_Digits.f k a0 = some r) :
    Calls Tryd.prog 21 #[.int .i64 a0] w fun e w' => e = .returned (.string r) ∧ Drawn0 w w' := by
  have H : (if a0 < 0 then (portmanteauref13_Digits.j0 k (IntKind.u64.wrap (-(IntKind.u64.wrap (a0)))) (⟨#[]⟩ : ByteArray) (⟨#[45]⟩ : ByteArray)) else (portmanteauref13_Digits.j0 k (IntKind.u64.wrap (a0)) (⟨#[]⟩ : ByteArray) (⟨#[]⟩ : ByteArray))) = some r := h
  clear h
  have HC2 := Aside0.mk H
  clear H
  go_enter Tryd.func21, Tryd.ntmps21
  go_upto_if 11 with (fail)
  go_cut [3, 5] (fun v3 v5 wc => ∃ (kq : Nat) (x3_1 : Int) (x5_1 : ByteArray), v3 = .int .u64 x3_1 ∧ v5 = .string x5_1 ∧ Aside0 (portmanteauref13_Digits.j0 kq x3_1 (⟨#[]⟩ : ByteArray) x5_1 = some r) ∧ Aside0 (kq ≤ k) ∧ Drawn0 w wc)
  case first =>
    have H := HC2.out
    clear HC2
    by_cases c3 : a0 < 0
    · rw [if_pos c3] at H
      have c3b0 : decide (a0 < 0) = true := decide_eq_true c3
      clear c3
      (first | rw [c3b0] | (simp only [i64_w, i32_w]; rw [c3b0]) | skip)
      have H' := Aside0.mk H
      clear H
      go_wp2
      go_meet
      case rel => exact ⟨_, (IntKind.u64.wrap (-(IntKind.u64.wrap (a0)))), ((⟨#[45]⟩ : ByteArray)), (by first | rfl | (simp; done) | (simp [*]; done)), (by first | rfl | (simp; done) | (simp [*]; done)), H', ⟨by first | omega | exact Nat.le_refl _⟩, by repeat (first | exact Drawn0.refl _ | apply Drawn0.step)⟩
    · rw [if_neg c3] at H
      have c3b0 : decide (a0 < 0) = false := decide_eq_false c3
      clear c3
      (first | rw [c3b0] | (simp only [i64_w, i32_w]; rw [c3b0]) | skip)
      have H' := Aside0.mk H
      clear H
      go_wp2
      go_meet
      case rel => exact ⟨_, (IntKind.u64.wrap (a0)), ((⟨#[]⟩ : ByteArray)), (by first | rfl | (simp; done) | (simp [*]; done)), (by first | rfl | (simp; done) | (simp [*]; done)), H', ⟨by first | omega | exact Nat.le_refl _⟩, by repeat (first | exact Drawn0.refl _ | apply Drawn0.step)⟩
  case rest =>
    clear HC2
    try clear c2
    try clear p2
    try clear c3
    try clear c3b0
    obtain ⟨kq, x3_1, x5_1, rfl, rfl, HA, HJ1, ⟨mc1, rfl⟩⟩ := hcut
    cases kq with
    | zero => exact absurd HA.out (by simp [portmanteauref13_Digits.j0])
    | succ kj1 =>
      have H := HA.out
      clear HA
      simp only [portmanteauref13_Digits.j0] at H
      have H' := Aside0.mk H
      clear H
      go_wp2
      go_loopg [3, 4] kj1 (fun kq v3 v4 w' => ∃ (x3_2 : Int) (x4_2 : ByteArray), v3 = .int .u64 x3_2 ∧ v4 = .string x4_2 ∧ Aside0 (portmanteauref13_Digits.l0 kq x3_2 x4_2 x5_1 = some r) ∧ Aside0 (kq ≤ kj1) ∧ Drawn0 w w')
      case atStart => exact ⟨(x3_1), ((⟨#[]⟩ : ByteArray)), (by first | rfl | (simp; done) | (simp [*]; done)), (by first | rfl | (simp; done) | (simp [*]; done)), H', ⟨Nat.le_refl _⟩, by repeat (first | exact Drawn0.refl _ | apply Drawn0.step)⟩
      case round =>
        clear H'
        try clear c1
        try clear c2
        try clear p2
        try clear c3
        try clear c3b0
        try clear p2
        obtain ⟨x3_2, x4_2, rfl, rfl, HA, HK2, ⟨m2, rfl⟩⟩ := hrel
        cases gk with
        | zero => exact absurd HA.out (by simp [portmanteauref13_Digits.l0])
        | succ k2 =>
          have H := HA.out
          clear HA
          simp only [portmanteauref13_Digits.l0] at H
          by_cases c4 : x3_2 > 9
          · rw [if_pos c4] at H
            have c4b0 : decide (9 < x3_2) = true := decide_eq_true c4
            clear c4
            obtain ⟨ji5, hji5⟩ : ∃ j_ : Int, (wrap64 (Int.tmod x3_2 10)) = j_ := ⟨_, rfl⟩
            replace H : (if 0 ≤ (ji5) then (if (ji5) ≤ (wrap64 ((ji5) + 1)) then (if (wrap64 ((ji5) + 1)) ≤ 10 then (if ((⟨#[48, 49, 50, 51, 52, 53, 54, 55, 56, 57]⟩ : ByteArray).extract ((ji5) : Int).toNat ((wrap64 ((ji5) + 1)) : Int).toNat).size + x4_2.size ≤ 9223372036854775807 then (portmanteauref13_Digits.l0 k2 (IntKind.u64.wrap (Int.tdiv x3_2 10)) (((⟨#[48, 49, 50, 51, 52, 53, 54, 55, 56, 57]⟩ : ByteArray).extract ((ji5) : Int).toNat ((wrap64 ((ji5) + 1)) : Int).toNat) ++ x4_2) x5_1) else (none)) else (none)) else (none)) else (none)) = some r := by first | (rw [hji5] at H; exact H) | (simp only [hji5] at H ⊢; exact H)
            have hji5w : (IntKind.i64.wrap (Int.tmod x3_2 10)) = ji5 := (i64_w _).trans hji5
            by_cases c6 : 0 ≤ (ji5)
            · rw [if_pos c6] at H
              have c6b0 := eq_true c6
              have c6b1 : decide (0 ≤ (ji5)) = true := decide_eq_true c6
              clear c6
              by_cases c7 : (ji5) ≤ (wrap64 ((ji5) + 1))
              · rw [if_pos c7] at H
                have c7b0 := eq_true c7
                have c7b1 : decide ((ji5) ≤ (wrap64 ((ji5) + 1))) = true := decide_eq_true c7
                by_cases c8 : (wrap64 ((ji5) + 1)) ≤ 10
                · rw [if_pos c8] at H
                  have c8b0 := eq_true c8
                  have c8b1 : decide ((wrap64 ((ji5) + 1)) ≤ 10) = true := decide_eq_true c8
                  by_cases c9 : ((⟨#[48, 49, 50, 51, 52, 53, 54, 55, 56, 57]⟩ : ByteArray).extract ((ji5) : Int).toNat ((wrap64 ((ji5) + 1)) : Int).toNat).size + x4_2.size ≤ 9223372036854775807
                  · rw [if_pos c9] at H
                    have c9b0 := eq_true c9
                    have c9b1 : decide (((⟨#[48, 49, 50, 51, 52, 53, 54, 55, 56, 57]⟩ : ByteArray).extract ((ji5) : Int).toNat ((wrap64 ((ji5) + 1)) : Int).toNat).size + x4_2.size ≤ 9223372036854775807) = true := decide_eq_true c9
                    try have c9b2 : (9223372036854775807 < ((⟨#[48, 49, 50, 51, 52, 53, 54, 55, 56, 57]⟩ : ByteArray).extract ((ji5) : Int).toNat ((wrap64 ((ji5) + 1)) : Int).toNat).size + x4_2.size) = False := eq_false (Nat.not_lt.2 c9)
                    have H' := Aside0.mk H
                    clear H
                    go_wp2
                    go_roundg k2
                    case measure => have := HJ1.out; have := HK2.out; omega
                    case rel => exact ⟨(IntKind.u64.wrap (Int.tdiv x3_2 10)), (((⟨#[48, 49, 50, 51, 52, 53, 54, 55, 56, 57]⟩ : ByteArray).extract ((ji5) : Int).toNat ((wrap64 ((ji5) + 1)) : Int).toNat) ++ x4_2), (by first | rfl | (simp; done) | (simp [*]; done)), (by first | rfl | (simp; done) | (simp only [← hji5] <;> (first | rfl | simp)) | (simp [*]; done)), H', ⟨by have := HJ1.out; have := HK2.out; omega⟩, by repeat (first | exact Drawn0.refl _ | apply Drawn0.step)⟩
                  · rw [if_neg c9] at H
                    exact absurd H (by simp)
                · rw [if_neg c8] at H
                  exact absurd H (by simp)
              · rw [if_neg c7] at H
                exact absurd H (by simp)
            · rw [if_neg c6] at H
              exact absurd H (by simp)
          · rw [if_neg c4] at H
            have c4b0 : decide (9 < x3_2) = false := decide_eq_false c4
            clear c4
            obtain ⟨ji10, hji10⟩ : ∃ j_ : Int, (wrap64 (x3_2)) = j_ := ⟨_, rfl⟩
            replace H : (if 0 ≤ (ji10) then (if (ji10) ≤ (wrap64 ((ji10) + 1)) then (if (wrap64 ((ji10) + 1)) ≤ 10 then (if x5_1.size + ((⟨#[48, 49, 50, 51, 52, 53, 54, 55, 56, 57]⟩ : ByteArray).extract ((ji10) : Int).toNat ((wrap64 ((ji10) + 1)) : Int).toNat).size ≤ 9223372036854775807 then (if (x5_1 ++ ((⟨#[48, 49, 50, 51, 52, 53, 54, 55, 56, 57]⟩ : ByteArray).extract ((ji10) : Int).toNat ((wrap64 ((ji10) + 1)) : Int).toNat)).size + x4_2.size ≤ 9223372036854775807 then (some ((x5_1 ++ ((⟨#[48, 49, 50, 51, 52, 53, 54, 55, 56, 57]⟩ : ByteArray).extract ((ji10) : Int).toNat ((wrap64 ((ji10) + 1)) : Int).toNat)) ++ x4_2)) else (none)) else (none)) else (none)) else (none)) else (none)) = some r := by first | (rw [hji10] at H; exact H) | (simp only [hji10] at H ⊢; exact H)
            have hji10w : (IntKind.i64.wrap (x3_2)) = ji10 := (i64_w _).trans hji10
            by_cases c11 : 0 ≤ (ji10)
            · rw [if_pos c11] at H
              have c11b0 := eq_true c11
              have c11b1 : decide (0 ≤ (ji10)) = true := decide_eq_true c11
              clear c11
              by_cases c12 : (ji10) ≤ (wrap64 ((ji10) + 1))
              · rw [if_pos c12] at H
                have c12b0 := eq_true c12
                have c12b1 : decide ((ji10) ≤ (wrap64 ((ji10) + 1))) = true := decide_eq_true c12
                by_cases c13 : (wrap64 ((ji10) + 1)) ≤ 10
                · rw [if_pos c13] at H
                  have c13b0 := eq_true c13
                  have c13b1 : decide ((wrap64 ((ji10) + 1)) ≤ 10) = true := decide_eq_true c13
                  by_cases c14 : x5_1.size + ((⟨#[48, 49, 50, 51, 52, 53, 54, 55, 56, 57]⟩ : ByteArray).extract ((ji10) : Int).toNat ((wrap64 ((ji10) + 1)) : Int).toNat).size ≤ 9223372036854775807
                  · rw [if_pos c14] at H
                    have c14b0 := eq_true c14
                    have c14b1 : decide (x5_1.size + ((⟨#[48, 49, 50, 51, 52, 53, 54, 55, 56, 57]⟩ : ByteArray).extract ((ji10) : Int).toNat ((wrap64 ((ji10) + 1)) : Int).toNat).size ≤ 9223372036854775807) = true := decide_eq_true c14
                    try have c14b2 : (9223372036854775807 < x5_1.size + ((⟨#[48, 49, 50, 51, 52, 53, 54, 55, 56, 57]⟩ : ByteArray).extract ((ji10) : Int).toNat ((wrap64 ((ji10) + 1)) : Int).toNat).size) = False := eq_false (Nat.not_lt.2 c14)
                    by_cases c15 : (x5_1 ++ ((⟨#[48, 49, 50, 51, 52, 53, 54, 55, 56, 57]⟩ : ByteArray).extract ((ji10) : Int).toNat ((wrap64 ((ji10) + 1)) : Int).toNat)).size + x4_2.size ≤ 9223372036854775807
                    · rw [if_pos c15] at H
                      have c15b0 := eq_true c15
                      have c15b1 : decide ((x5_1 ++ ((⟨#[48, 49, 50, 51, 52, 53, 54, 55, 56, 57]⟩ : ByteArray).extract ((ji10) : Int).toNat ((wrap64 ((ji10) + 1)) : Int).toNat)).size + x4_2.size ≤ 9223372036854775807) = true := decide_eq_true c15
                      try have c15b2 : (9223372036854775807 < (x5_1 ++ ((⟨#[48, 49, 50, 51, 52, 53, 54, 55, 56, 57]⟩ : ByteArray).extract ((ji10) : Int).toNat ((wrap64 ((ji10) + 1)) : Int).toNat)).size + x4_2.size) = False := eq_false (Nat.not_lt.2 c15)
                      obtain rfl := Option.some.inj H
                      go_wp2
                      go_ret
                      exact ⟨by first | rfl | (simp; done) | (simp only [← hji10] <;> (first | rfl | simp)) | (simp [*]; done), by repeat (first | exact Drawn0.refl _ | apply Drawn0.step)⟩
                    · rw [if_neg c15] at H
                      exact absurd H (by simp)
                  · rw [if_neg c14] at H
                    exact absurd H (by simp)
                · rw [if_neg c13] at H
                  exact absurd H (by simp)
              · rw [if_neg c12] at H
                exact absurd H (by simp)
            · rw [if_neg c11] at H
              exact absurd H (by simp)

end Go.Proofs.YtbaonnlpphpakaaDoor.X
