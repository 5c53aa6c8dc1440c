-- Printed by a program of this session (wip/tools/xprint.py) out of the translation.
import Derived.Test.YtbaonnlpphpakaaDoorX0
import Derived.Test.YtbaonnlpphpakaaDoorX3
import Derived.Test.YtbaonnlpphpakaaDoorX9
import Derived.Test.YtbaonnlpphpakaaDoorX10
import Derived.Test.YtbaonnlpphpakaaDoorExt
namespace Go.Proofs.YtbaonnlpphpakaaDoor.X
open Go.RowKit Go.Proofs.YtbaonnlpphpakaaDoorW.PrintWords Go.Proofs.YtbaonnlpphpakaaDoorW.PrintLast Go.Proofs.YtbaonnlpphpakaaDoorW.PrintMore
attribute [local go_sem] max2_int min2_int max_two min_two max_three min_three max_four min_four   -- for this text's walks alone
set_option linter.unusedVariables false
set_option linter.unusedSimpArgs false

/-! ### portmanteaulaw16_NumTexts: function 8 -/
def portmanteaulaw16_NumTexts.l0 : Nat → Int → ByteArray → Int → Bool → List Int → Int → Option (Bool)
  | 0, _, _, _, _, _, _ => none
  | k + 1, x0, x1, x10, x11, x12, x13 => if x13 < 2 then ((some (([x1, strOfNums x12] : List ByteArray) : List ByteArray)).bind fun y287 => (if 0 ≤ x13 then (if x13 < (y287.length : Int) then ((num_Number.f (rdOf ByteArray.empty y287 x13)).bind fun bt291 => ((portmanteauref16_Number.f k (rdOf ByteArray.empty y287 x13)).bind fun bt293 => (if (bt291.2 != bt293.2) = true then (some false) else (if bt291.1 = bt293.1 then (portmanteaulaw16_NumTexts.l0 k x0 x1 x10 x11 x12 (wrap64 (x13 + 1))) else (some false))))) else (none)) else (none))) else (if x11 = true then (if x10 = x0 then ((portmanteaulaw16_awake.f k).bind fun t286 => (some t286)) else (some false)) else (some false))
def portmanteaulaw16_NumTexts.f (k : Nat) (a0 : Int) (a1 : ByteArray) (a2 : Int) (a3 : Int) : Option (Bool) := if (a1.size : Int) > 60 then ((portmanteaulaw16_awake.f k).bind fun t275 => (some t275)) else ((num_Digits.f a0).bind fun t276 => ((portmanteauref13_Digits.f k a0).bind fun t277 => (if t276.toList = t277.toList then ((num_Number.f t276).bind fun bt278 => ((portmanteauref13_Digits.f k a0).bind fun t280 => ((conv_S.f t280).bind fun t281 => (if (t281.length : Int) = 0 then (none) else (if 0 ≤ (Int.tmod (Go.bits .and .i64 a2 255) (t281.length : Int)) then (if (Int.tmod (Go.bits .and .i64 a2 255) (t281.length : Int)) < (t281.length : Int) then (portmanteaulaw16_NumTexts.l0 k a0 a1 bt278.1 bt278.2 (t281.set ((Int.tmod (Go.bits .and .i64 a2 255) (t281.length : Int)) : Int).toNat (Go.bits .xor .u8 (rd t281 (Int.tmod (Go.bits .and .i64 a2 255) (t281.length : Int))) a3)) 0) else (none)) else (none)))))) else (some false))))
theorem portmanteaulaw16_NumTexts.mono_l : ∀ k, (∀ y0 y1 y2 y3 y4 y5, LeO (portmanteaulaw16_NumTexts.l0 k y0 y1 y2 y3 y4 y5) (portmanteaulaw16_NumTexts.l0 (k + 1) y0 y1 y2 y3 y4 y5))
  | 0 => fun _ _ _ _ _ _ r h => by simp [portmanteaulaw16_NumTexts.l0] at h
  | k + 1 => by
    have ih0 := portmanteaulaw16_NumTexts.mono_l k
    · intro y0 y1 y2 y3 y4 y5
      unfold portmanteaulaw16_NumTexts.l0
      repeat' first
      | (with_reducible exact ih0 _ _ _ _ _ _)
      | (with_reducible exact portmanteaulaw16_awake.mono _)
      | (with_reducible exact portmanteauref13_Digits.mono _ _)
      | (with_reducible exact portmanteauref16_Number.mono _ _)
      | (with_reducible exact LeO.refl _)
      | (with_reducible exact LeO.none _)
      | (with_reducible refine LeO.ite ?_ ?_)
      | (with_reducible refine LeO.bind ?_ (fun _ => ?_))
      | exact ih0 _ _ _ _ _ _
      | exact portmanteaulaw16_awake.mono _
      | exact portmanteauref13_Digits.mono _ _
      | exact portmanteauref16_Number.mono _ _
      | exact LeO.none _
      | refine LeO.ite ?_ ?_
      | refine LeO.bind ?_ (fun _ => ?_)
theorem portmanteaulaw16_NumTexts.mono : ∀ a0 a1 a2 a3 k, LeO (portmanteaulaw16_NumTexts.f k a0 a1 a2 a3) (portmanteaulaw16_NumTexts.f (k + 1) a0 a1 a2 a3) := by
  intro a0 a1 a2 a3 k
  have ih0 := portmanteaulaw16_NumTexts.mono_l k
  unfold portmanteaulaw16_NumTexts.f
  repeat' first
      | (with_reducible exact ih0 _ _ _ _ _ _)
      | (with_reducible exact portmanteaulaw16_awake.mono _)
      | (with_reducible exact portmanteauref13_Digits.mono _ _)
      | (with_reducible exact portmanteauref16_Number.mono _ _)
      | (with_reducible exact LeO.refl _)
      | (with_reducible exact LeO.none _)
      | (with_reducible refine LeO.ite ?_ ?_)
      | (with_reducible refine LeO.bind ?_ (fun _ => ?_))
      | exact ih0 _ _ _ _ _ _
      | exact portmanteaulaw16_awake.mono _
      | exact portmanteauref13_Digits.mono _ _
      | exact portmanteauref16_Number.mono _ _
      | exact LeO.none _
      | refine LeO.ite ?_ ?_
      | refine LeO.bind ?_ (fun _ => ?_)
set_option maxHeartbeats 8000000 in
set_option maxRecDepth 100000 in
theorem portmanteaulaw16_NumTexts.calls (k : Nat) (a0 : Int) (a1 : ByteArray) (a2 : Int) (a3 : Int) (r : Bool) (w : World) (hG : Glob 2 w) (h : portmanteaulaw16_NumTexts.f k a0 a1 a2 a3 = some r) :
    Calls Tryd.prog 8 #[.int .i64 a0, .string a1, .int .i64 a2, .int .u8 a3] w fun e w' => e = .returned (.bool r) ∧ Below w.heap.size w w' := by
  have HB := Aside0.mk (Below.refl w.heap.size w)
  have HG := Aside0.mk hG
  clear hG
  have H : (if (a1.size : Int) > 60 then ((portmanteaulaw16_awake.f k).bind fun t275 => (some t275)) else ((num_Digits.f a0).bind fun t276 => ((portmanteauref13_Digits.f k a0).bind fun t277 => (if t276.toList = t277.toList then ((num_Number.f t276).bind fun bt278 => ((portmanteauref13_Digits.f k a0).bind fun t280 => ((conv_S.f t280).bind fun t281 => (if (t281.length : Int) = 0 then (none) else (if 0 ≤ (Int.tmod (Go.bits .and .i64 a2 255) (t281.length : Int)) then (if (Int.tmod (Go.bits .and .i64 a2 255) (t281.length : Int)) < (t281.length : Int) then (portmanteaulaw16_NumTexts.l0 k a0 a1 bt278.1 bt278.2 (t281.set ((Int.tmod (Go.bits .and .i64 a2 255) (t281.length : Int)) : Int).toNat (Go.bits .xor .u8 (rd t281 (Int.tmod (Go.bits .and .i64 a2 255) (t281.length : Int))) a3)) 0) else (none)) else (none)))))) else (some false))))) = some r := h
  clear h
  by_cases c5 : (a1.size : Int) > 60
  · rw [if_pos c5] at H
    have c5b0 : decide (60 < (a1.size : Int)) = true := decide_eq_true c5
    have c5b1 : decide (60 < a1.size) = true := decide_eq_true (by omega)
    clear c5
    replace H := Option.bind_eq_some_iff.mp H
    obtain ⟨t275, A60, H⟩ := H
    replace H : (some t275) = some r := H
    have A6 := Aside0.mk A60
    clear A60
    obtain rfl := Option.some.inj H
    go_enter Tryd.func8, Tryd.ntmps8
    go_wp2_with (first | ((with_reducible refine gate_callee (f := 14) rfl ?_); refine goesL_ (some 22) rfl rfl Tryd.func14 (by kernel_rfl) rfl #[] rfl (by (try simp only [List.map_toArray, List.map_cons, List.map_nil]); first | done | rfl | (simp only [List.length_drop, List.length_take]; rfl)) ?_; (with_reducible refine (portmanteaulaw16_awake.calls k  t275 _ ?side1 A6.out).mono ?_); (case side1 => exact Glob.to (by decide) HG.out (by repeat (first | (with_reducible first | exact HB.out | apply below_alloc | apply pw_below_drewN | apply below_drew1) | exact HB.out))); rintro e w7 ⟨rfl, hb⟩; refine ⟨_, rfl, ?_⟩; have n0_ := Aside0.mk (below_step (by repeat (first | (with_reducible first | exact HB.out | apply below_alloc | apply pw_below_drewN | apply below_drew1) | exact HB.out)) hb); clear HB; have HB := n0_; clear n0_; (try clear hb); (try clear hb2); (try clear hk); (try clear hi)))
    go_ret
    exact ⟨by first | rfl | (simp [errW_none, errW_some] <;> rfl) | (simp [*, errW_none, errW_some] <;> rfl), by repeat (first | (with_reducible first | exact HB.out | apply below_alloc | apply pw_below_drewN | apply below_drew1) | exact HB.out)⟩
  · rw [if_neg c5] at H
    have c5b0 : decide (60 < (a1.size : Int)) = false := decide_eq_false c5
    have c5b1 : decide (60 < a1.size) = false := decide_eq_false (by omega)
    clear c5
    replace H := Option.bind_eq_some_iff.mp H
    obtain ⟨t276, A80, H⟩ := H
    replace H : ((portmanteauref13_Digits.f k a0).bind fun t277 => (if t276.toList = t277.toList then ((num_Number.f t276).bind fun bt278 => ((portmanteauref13_Digits.f k a0).bind fun t280 => ((conv_S.f t280).bind fun t281 => (if (t281.length : Int) = 0 then (none) else (if 0 ≤ (Int.tmod (Go.bits .and .i64 a2 255) (t281.length : Int)) then (if (Int.tmod (Go.bits .and .i64 a2 255) (t281.length : Int)) < (t281.length : Int) then (portmanteaulaw16_NumTexts.l0 k a0 a1 bt278.1 bt278.2 (t281.set ((Int.tmod (Go.bits .and .i64 a2 255) (t281.length : Int)) : Int).toNat (Go.bits .xor .u8 (rd t281 (Int.tmod (Go.bits .and .i64 a2 255) (t281.length : Int))) a3)) 0) else (none)) else (none)))))) else (some false))) = some r := H
    have A8 := Aside0.mk A80
    clear A80
    replace H := Option.bind_eq_some_iff.mp H
    obtain ⟨t277, A90, H⟩ := H
    replace H : (if t276.toList = t277.toList then ((num_Number.f t276).bind fun bt278 => ((portmanteauref13_Digits.f k a0).bind fun t280 => ((conv_S.f t280).bind fun t281 => (if (t281.length : Int) = 0 then (none) else (if 0 ≤ (Int.tmod (Go.bits .and .i64 a2 255) (t281.length : Int)) then (if (Int.tmod (Go.bits .and .i64 a2 255) (t281.length : Int)) < (t281.length : Int) then (portmanteaulaw16_NumTexts.l0 k a0 a1 bt278.1 bt278.2 (t281.set ((Int.tmod (Go.bits .and .i64 a2 255) (t281.length : Int)) : Int).toNat (Go.bits .xor .u8 (rd t281 (Int.tmod (Go.bits .and .i64 a2 255) (t281.length : Int))) a3)) 0) else (none)) else (none)))))) else (some false)) = some r := H
    have A9 := Aside0.mk A90
    clear A90
    by_cases c10 : t276.toList = t277.toList
    · rw [if_pos c10] at H
      have c10b0 : (t276.toList == t277.toList) = true := beq_iff_eq.mpr c10
      have c10b1 : (t276.toList != t277.toList) = false := bne_eq_false_iff_eq.mpr c10
      clear c10
      replace H := Option.bind_eq_some_iff.mp H
      obtain ⟨⟨t278, t279⟩, A110, H⟩ := H
      replace H : ((portmanteauref13_Digits.f k a0).bind fun t280 => ((conv_S.f t280).bind fun t281 => (if (t281.length : Int) = 0 then (none) else (if 0 ≤ (Int.tmod (Go.bits .and .i64 a2 255) (t281.length : Int)) then (if (Int.tmod (Go.bits .and .i64 a2 255) (t281.length : Int)) < (t281.length : Int) then (portmanteaulaw16_NumTexts.l0 k a0 a1 t278 t279 (t281.set ((Int.tmod (Go.bits .and .i64 a2 255) (t281.length : Int)) : Int).toNat (Go.bits .xor .u8 (rd t281 (Int.tmod (Go.bits .and .i64 a2 255) (t281.length : Int))) a3)) 0) else (none)) else (none))))) = some r := H
      have A11 := Aside0.mk A110
      clear A110
      replace H := Option.bind_eq_some_iff.mp H
      obtain ⟨t280, A120, H⟩ := H
      replace H : ((conv_S.f t280).bind fun t281 => (if (t281.length : Int) = 0 then (none) else (if 0 ≤ (Int.tmod (Go.bits .and .i64 a2 255) (t281.length : Int)) then (if (Int.tmod (Go.bits .and .i64 a2 255) (t281.length : Int)) < (t281.length : Int) then (portmanteaulaw16_NumTexts.l0 k a0 a1 t278 t279 (t281.set ((Int.tmod (Go.bits .and .i64 a2 255) (t281.length : Int)) : Int).toNat (Go.bits .xor .u8 (rd t281 (Int.tmod (Go.bits .and .i64 a2 255) (t281.length : Int))) a3)) 0) else (none)) else (none)))) = some r := H
      have A12 := Aside0.mk A120
      clear A120
      replace H := Option.bind_eq_some_iff.mp H
      obtain ⟨t281, A130, H⟩ := H
      replace H : (if (t281.length : Int) = 0 then (none) else (if 0 ≤ (Int.tmod (Go.bits .and .i64 a2 255) (t281.length : Int)) then (if (Int.tmod (Go.bits .and .i64 a2 255) (t281.length : Int)) < (t281.length : Int) then (portmanteaulaw16_NumTexts.l0 k a0 a1 t278 t279 (t281.set ((Int.tmod (Go.bits .and .i64 a2 255) (t281.length : Int)) : Int).toNat (Go.bits .xor .u8 (rd t281 (Int.tmod (Go.bits .and .i64 a2 255) (t281.length : Int))) a3)) 0) else (none)) else (none))) = some r := H
      have A13 := Aside0.mk A130
      clear A130
      by_cases c14 : (t281.length : Int) = 0
      · rw [if_pos c14] at H
        exact absurd H (by simp)
      · rw [if_neg c14] at H
        have c14b0 : ((t281.length : Int) == 0) = false := beq_eq_false_iff_ne.mpr c14
        have c14b1 : ((t281.length : Int) != 0) = true := bne_iff_ne.mpr c14
        have c14b2 : ¬ (t281 = []) := fun h_ => c14 (by rw [h_]; rfl)
        obtain ⟨ji15, hji15⟩ : ∃ j_ : Int, (Int.tmod (Go.bits .and .i64 a2 255) (t281.length : Int)) = j_ := ⟨_, rfl⟩
        replace H : (if 0 ≤ (ji15) then (if (ji15) < (t281.length : Int) then (portmanteaulaw16_NumTexts.l0 k a0 a1 t278 t279 (t281.set ((ji15) : Int).toNat (Go.bits .xor .u8 (rd t281 (ji15)) a3)) 0) else (none)) else (none)) = some r := by first | (rw [hji15] at H; exact H) | (simp only [hji15] at H ⊢; exact H)
        (try rw [hji15] at A8)
        (try rw [hji15] at A9)
        (try rw [hji15] at A11)
        (try rw [hji15] at A12)
        (try rw [hji15] at A13)
        by_cases c16 : 0 ≤ (ji15)
        · rw [if_pos c16] at H
          have c16b0 : decide (0 ≤ (ji15)) = true := decide_eq_true c16
          clear c16
          by_cases c17 : (ji15) < (t281.length : Int)
          · rw [if_pos c17] at H
            have c17b0 : decide ((ji15) < (t281.length : Int)) = true := decide_eq_true c17
            clear c17
            obtain ⟨y285, hy285⟩ : ∃ y_ : List Int, y_ = (t281.set ((ji15) : Int).toNat (Go.bits .xor .u8 (rd t281 (ji15)) a3)) := ⟨_, rfl⟩
            replace H : (portmanteaulaw16_NumTexts.l0 k a0 a1 t278 t279 y285 0) = some r := by first | (rw [hy285]; with_reducible exact H) | (have H2_ := (Option.bind_some _ _).symm.trans H; rw [hy285]; with_reducible exact H2_) | (have H2_ := (Option.bind_some _ _).symm.trans H; with_reducible exact H2_) | with_reducible exact H | (rw [hy285]; exact H) | exact H
            have Ny285 := Aside0.mk hy285
            clear hy285
            have H' := Aside0.mk H
            clear H
            go_enter Tryd.func8, Tryd.ntmps8
            go_wp2_with (first | ((with_reducible refine gate_callee (f := 20) rfl ?_); refine goesL_ (some 24) rfl rfl Tryd.func20 (by kernel_rfl) rfl #[.int .i64 a0] rfl (by (try simp only [List.map_toArray, List.map_cons, List.map_nil]); first | done | rfl | (simp only [List.length_drop, List.length_take]; rfl)) ?_; (with_reducible refine (num_Digits.calls a0 t276 _ ?side1 A8.out).mono ?_); (case side1 => exact Glob.to (by decide) HG.out (by repeat (first | (with_reducible first | exact HB.out | apply below_alloc | apply pw_below_drewN | apply below_drew1) | exact HB.out))); rintro e w19 ⟨rfl, hb⟩; refine ⟨_, rfl, ?_⟩; have n0_ := Aside0.mk (below_step (by repeat (first | (with_reducible first | exact HB.out | apply below_alloc | apply pw_below_drewN | apply below_drew1) | exact HB.out)) hb); clear HB; have HB := n0_; clear n0_; (try clear hb); (try clear hb2); (try clear hk); (try clear hi)) | ((with_reducible refine gate_callee (f := 21) rfl ?_); refine goesL_ (some 27) rfl rfl Tryd.func21 (by kernel_rfl) rfl #[.int .i64 a0] rfl (by (try simp only [List.map_toArray, List.map_cons, List.map_nil]); first | done | rfl | (simp only [List.length_drop, List.length_take]; rfl)) ?_; (with_reducible refine (portmanteauref13_Digits.calls k a0 t277 _ A9.out).mono ?_); rintro e w' ⟨rfl, ⟨nd, rfl⟩⟩; refine ⟨_, rfl, ?_⟩; (try (rw [drewN_self w19]; generalize hq_ : World.drewN w19 _ = w19; have n0_ : Aside0 (Below w.heap.size w w19) := ⟨by rw [← hq_]; exact (by repeat (first | (with_reducible first | exact HB.out | apply below_alloc | apply pw_below_drewN | apply below_drew1) | exact HB.out))⟩; clear HB hq_; have HB := n0_; clear n0_))) | ((with_reducible refine gate_callee (f := 22) rfl ?_); refine goesL_ (some 31) rfl rfl Tryd.func22 (by kernel_rfl) rfl #[.string t276] rfl (by (try simp only [List.map_toArray, List.map_cons, List.map_nil]); first | done | rfl | (simp only [List.length_drop, List.length_take]; rfl)) ?_; (with_reducible refine (num_Number.calls t276 t278 t279 _ ?side1 A11.out).mono ?_); (case side1 => exact Glob.to (by decide) HG.out (by repeat (first | (with_reducible first | exact HB.out | apply below_alloc | apply pw_below_drewN | apply below_drew1) | exact HB.out))); rintro e w20 ⟨rfl, hb⟩; refine ⟨_, rfl, ?_⟩; have n0_ := Aside0.mk (below_step (by repeat (first | (with_reducible first | exact HB.out | apply below_alloc | apply pw_below_drewN | apply below_drew1) | exact HB.out)) hb); clear HB; have HB := n0_; clear n0_; (try clear hb); (try clear hb2); (try clear hk); (try clear hi)) | ((with_reducible refine gate_callee (f := 21) rfl ?_); refine goesL_ (some 35) rfl rfl Tryd.func21 (by kernel_rfl) rfl #[.int .i64 a0] rfl (by (try simp only [List.map_toArray, List.map_cons, List.map_nil]); first | done | rfl | (simp only [List.length_drop, List.length_take]; rfl)) ?_; (with_reducible refine (portmanteauref13_Digits.calls k a0 t280 _ A12.out).mono ?_); rintro e w' ⟨rfl, ⟨nd, rfl⟩⟩; refine ⟨_, rfl, ?_⟩; (try (rw [drewN_self w20]; generalize hq_ : World.drewN w20 _ = w20; have n0_ : Aside0 (Below w.heap.size w w20) := ⟨by rw [← hq_]; exact (by repeat (first | (with_reducible first | exact HB.out | apply below_alloc | apply pw_below_drewN | apply below_drew1) | exact HB.out))⟩; clear HB hq_; have HB := n0_; clear n0_))) | ((with_reducible refine gate_dst (N := 36) rfl ?_); refine conv_ev_SZ 9 29 5 5 Tryd.underlying9 Tryd.underlying29 Tryd.underlying5 rfl _ rfl (N := 36) rfl rfl t280 rfl _ A13.out ?_; rintro e w21 ⟨v282, rfl, ho0, hb⟩; refine ⟨_, rfl, ?_⟩; have n0_ := Aside0.mk (Kd.Z_lower (Kd.Z_mono (ok' := fun k_ => True) ho0 (fun _ hk_ => trivial)) (below_size (by repeat (first | (with_reducible first | exact HB.out | apply below_alloc | apply pw_below_drewN | apply below_drew1) | exact HB.out)))); have n1_ := Aside0.mk (below_step (by repeat (first | (with_reducible first | exact HB.out | apply below_alloc | apply pw_below_drewN | apply below_drew1) | exact HB.out)) hb); clear HB; have HO283 := n0_; have HB := n1_; clear n0_ n1_; (try clear hb); (try clear hb2); (try clear hk); (try clear hi); (try clear ho0); obtain ⟨Ao22, co22, eo22⟩ := Kd.Z_slice HO283.out; subst eo22; have p284 : 0 ≤ ((ji15) : Int) := of_decide_eq_true (by first | (with_reducible assumption) | assumption); have q284 : (ji15) < (t281.length : Int) := of_decide_eq_true (by first | (with_reducible assumption) | assumption); obtain ⟨ad284, e284, hx284_0⟩ := Kd.at_int (Kd.Z_reads' HO283.out).2.2 (ji15) p284 q284; cases e284; replace p284 := eq_true p284; replace q284 := eq_true q284; have p18 : 0 ≤ ((ji15) : Int) := of_decide_eq_true (by first | (with_reducible assumption) | assumption); have q18 : ((ji15) : Int) < ((t281.length : Int) : Int) := of_decide_eq_true (by first | (with_reducible assumption) | assumption); obtain ⟨go18, co18, eo18, gb18, gl18, cl18, HG18⟩ := Kd.Z_form HO283.out (by omega); (first | cases eo18 | (injection eo18 with ea_ en_ ec_; (first | subst ea_ | (injection ea_ with ea_; subst ea_)); subst ec_; clear en_)); have GB18 := Aside0.mk gb18; have GG18 := Aside0.mk HG18; clear gb18 gl18 HG18; (first | simp only [add_plain] at hx284_0 | skip); obtain ⟨hx18_0, hf18_0⟩ := Kd.Z_celln 0 HO283.out ((ji15) : Int) p18 q18; replace p18 := eq_true p18; replace q18 := eq_true q18; obtain ⟨hy23_, hz23_⟩ := Kd.Z_celln 0 HO283.out ((ji15) : Int) (of_decide_eq_true (by first | (with_reducible assumption) | assumption)) (of_decide_eq_true (by first | (with_reducible assumption) | assumption)); have HP23 := Kd.Z_putg HO283.out ((ji15) : Int) (Go.bits .xor .u8 (rd t281 (ji15)) a3)) | ((with_reducible refine gate_store (t := 5) (p := 47) rfl ?_); refine store_event (t := 5) (p := 47) (v := ?vo_w24) (w1 := (w21.setCell ⟨go18, ((ji15) : Int).toNat, none⟩ (.int .u8 (Go.bits .xor .u8 (rd t281 (ji15)) a3)))) ?hg ?ho ?hn ?hr ?_; (case ho => rfl); (case hg => rfl); (case hn => rfl); (case hr => first | (go_simp; done) | (go_simp; rfl)); intro w24 hw; have hg : w21.grownBy w24 (some go18) := (by rw [hw]; exact HP23.2); have hp_ : Kd.Z (Kd.int .u8) 5 w24 w.heap.size (fun _ => True) (.slice (some ⟨go18, 0, none⟩) t281.length co22) y285 := (by rw [hw, Ny285.out]; exact HP23.1); clear HP23; have n0_ := Aside0.mk (hp_); have n1_ := Aside0.mk ((by rw [hw]; exact below_set (HB.out) GB18.out : Below w.heap.size w w24)); clear HO283; clear HB; have HO283 := n0_; have HB := n1_; clear n0_ n1_; clear hg hw hp_))
            go_loopg [13] k (fun kq v13 w' => ∃ (x13_1 : Int), v13 = .int .i64 x13_1 ∧ Aside0 (portmanteaulaw16_NumTexts.l0 kq a0 a1 t278 t279 y285 x13_1 = some r) ∧ Aside0 (kq ≤ k) ∧ Aside0 (Kd.Z (Kd.int .u8) 5 w' w.heap.size (fun _ => True) (.slice (some ⟨go18, 0, none⟩) t281.length co22) y285) ∧ Aside0 (Below w.heap.size w w'))
            case atStart => exact ⟨(0), (by first | rfl | (simp; done) | (simp [*]; done)), H', ⟨Nat.le_refl _⟩, ⟨by (with_reducible repeat (first | apply Kd.Z_alloc | apply Kd.Z_drewN | apply Kd.Z_drew)); exact HO283.out⟩, ⟨by repeat (first | (with_reducible first | exact HB.out | apply below_alloc | apply pw_below_drewN | apply below_drew1) | exact HB.out)⟩⟩
            case round =>
              clear H'
              try clear c1
              try clear p1
              try clear q1
              try clear hx1
              try clear c2
              try clear p2
              try clear q2
              try clear hx2
              try clear c5
              try clear c5b0
              try clear c5b1
              try clear c8
              try clear c10
              try clear c10b0
              try clear c10b1
              try clear c14
              try clear c14b0
              try clear c14b1
              try clear c14b2
              try clear c16
              try clear c16b0
              try clear c17
              try clear c17b0
              try clear p18
              try clear q18
              try clear hx18
              try clear hf18
              try clear c20
              try clear c21
              try clear c22
              try clear hx18_0
              try clear hx284_0
              try clear p18
              try clear p284
              try clear q18
              try clear q284
              obtain ⟨x13_1, rfl, HA, HK1, HO_12, HB⟩ := hrel
              have hl12_1 := (Kd.Z_reads' HO_12.out).1
              rw [hl12_1] at HO_12
              (try simp only [hl12_1])
              cases gk with
              | zero => exact absurd HA.out (by simp [portmanteaulaw16_NumTexts.l0])
              | succ k1 =>
                have H := HA.out
                clear HA
                simp only [portmanteaulaw16_NumTexts.l0] at H
                by_cases c25 : x13_1 < 2
                · rw [if_pos c25] at H
                  have c25b0 : decide (x13_1 < 2) = true := decide_eq_true c25
                  clear c25
                  obtain ⟨y287, hy287⟩ : ∃ y_ : List ByteArray, y_ = (([a1, strOfNums y285] : List ByteArray)) := ⟨_, rfl⟩
                  replace H : (if 0 ≤ x13_1 then (if x13_1 < (y287.length : Int) then ((num_Number.f (rdOf ByteArray.empty y287 x13_1)).bind fun bt291 => ((portmanteauref16_Number.f k1 (rdOf ByteArray.empty y287 x13_1)).bind fun bt293 => (if (bt291.2 != bt293.2) = true then (some false) else (if bt291.1 = bt293.1 then (portmanteaulaw16_NumTexts.l0 k1 a0 a1 t278 t279 y285 (wrap64 (x13_1 + 1))) else (some false))))) else (none)) else (none)) = some r := by first | (rw [hy287]; with_reducible exact H) | (have H2_ := (Option.bind_some _ _).symm.trans H; rw [hy287]; with_reducible exact H2_) | (have H2_ := (Option.bind_some _ _).symm.trans H; with_reducible exact H2_) | with_reducible exact H | (rw [hy287]; exact H) | exact H
                  have Ny287 := Aside0.mk hy287
                  clear hy287
                  by_cases c26 : 0 ≤ x13_1
                  · rw [if_pos c26] at H
                    have c26b0 : decide (0 ≤ x13_1) = true := decide_eq_true c26
                    clear c26
                    by_cases c27 : x13_1 < (y287.length : Int)
                    · rw [if_pos c27] at H
                      have c27b0 : decide (x13_1 < (y287.length : Int)) = true := decide_eq_true c27
                      clear c27
                      replace H := Option.bind_eq_some_iff.mp H
                      obtain ⟨⟨t291, t292⟩, A280, H⟩ := H
                      replace H : ((portmanteauref16_Number.f k1 (rdOf ByteArray.empty y287 x13_1)).bind fun bt293 => (if (t292 != bt293.2) = true then (some false) else (if t291 = bt293.1 then (portmanteaulaw16_NumTexts.l0 k1 a0 a1 t278 t279 y285 (wrap64 (x13_1 + 1))) else (some false)))) = some r := H
                      have A28 := Aside0.mk A280
                      clear A280
                      replace H := Option.bind_eq_some_iff.mp H
                      obtain ⟨⟨t293, t294⟩, A290, H⟩ := H
                      replace H : (if (t292 != t294) = true then (some false) else (if t291 = t293 then (portmanteaulaw16_NumTexts.l0 k1 a0 a1 t278 t279 y285 (wrap64 (x13_1 + 1))) else (some false))) = some r := H
                      have A29 := Aside0.mk A290
                      clear A290
                      by_cases c30 : (t292 != t294) = true
                      · rw [if_pos c30] at H
                        have c30b0 : (t292 != t294) = true := c30
                        (try (have c30b1 : decide (t292 = t294) = false := by simpa using c30))
                        (try (have c30b2 : (t292 == t294) = false := by simpa using c30))
                        (try (have c30b3 : ¬ (t292 = t294) := by simpa using c30))
                        clear c30
                        obtain rfl := Option.some.inj H
                        have hcv31 := fun (m_ : Nat) => Kd.C_string (P := Tryd.prog) (A := (some ⟨go18, 0, none⟩)) (c := co22) Tryd.underlying29 Tryd.underlying5 Tryd.underlying9 (Kd.Z_reads' (Kd.Z_drewN HO_12.out m_)).2.2
                        have hcv32 := Kd.C_string (P := Tryd.prog) (A := (some ⟨go18, 0, none⟩)) (c := co22) Tryd.underlying29 Tryd.underlying5 Tryd.underlying9 (Kd.Z_reads' HO_12.out).2.2
                        go_wp2_with (first | ((with_reducible refine gate_dst (N := 55) rfl ?_); refine Kd.R_lit Kd.string _ 9 ?hg (N := 55) ?hd (xs := ([a1, strOfNums y285] : List ByteArray)) (inner := [.string a1, .string (strOfNums y285)]) (ok := fun _ => True) (okp := fun _ => True) ?hr ?hp (fun _ hk => hk) trivial (Below.refl _ _) (Nat.le_refl _) (by simp) ?_; (case hd => rfl); (case hg => rfl); (case hr => first | (go_simp; done) | (go_simp; rfl)); (case hp => exact (Reps.one (show Kd.M Kd.string _ _ _ a1 [.string a1] from rfl) (Reps.one (show Kd.M Kd.string _ _ _ (strOfNums y285) [.string (strOfNums y285)] from rfl) (Reps.none _ _)))); intro v288 w33 ho34 hb hg_ hnew_; clear hg_ hnew_; (first | rw [← Ny287.out] at ho34 | (simp only [Int.reduceToNat] at ho34; rw [← Ny287.out] at ho34)); have n0_ := Aside0.mk (Kd.Z_below (by (with_reducible repeat (first | apply Kd.Z_alloc | apply Kd.Z_drewN | apply Kd.Z_drew)); exact HO_12.out) hb); have n1_ := Aside0.mk (Kd.R_lower ho34 (below_size (by repeat (first | (with_reducible first | exact HB.out | apply below_alloc | apply pw_below_drewN | apply below_drew1) | exact HB.out)))); have n2_ := Aside0.mk (below_step (by repeat (first | (with_reducible first | exact HB.out | apply below_alloc | apply pw_below_drewN | apply below_drew1) | exact HB.out)) hb); clear HO_12; clear HB; have HO_12 := n0_; have HO289 := n1_; have HB := n2_; clear n0_ n1_ n2_; clear hb ho34; obtain ⟨Ao35, co35, eo35⟩ := Kd.R_slice HO289.out; subst eo35; have p290 : 0 ≤ (x13_1 : Int) := of_decide_eq_true (by first | (with_reducible assumption) | assumption); have q290 : x13_1 < (y287.length : Int) := of_decide_eq_true (by first | (with_reducible assumption) | assumption); obtain ⟨ad290, e290, hx290_0⟩ := Kd.at_string (Kd.R_reads' HO289.out).2.2 x13_1 p290 q290; cases e290; replace p290 := eq_true p290; replace q290 := eq_true q290) | ((with_reducible refine gate_callee (f := 22) rfl ?_); refine goesL_ (some 61) rfl rfl Tryd.func22 (by kernel_rfl) rfl #[.string (rdOf ByteArray.empty y287 x13_1)] rfl (by (try simp only [List.map_toArray, List.map_cons, List.map_nil]); first | done | rfl | (simp only [List.length_drop, List.length_take]; rfl)) ?_; (with_reducible refine (num_Number.calls (rdOf ByteArray.empty y287 x13_1) t291 t292 _ ?side1 A28.out).mono ?_); (case side1 => exact Glob.to (by decide) HG.out (by repeat (first | (with_reducible first | exact HB.out | apply below_alloc | apply pw_below_drewN | apply below_drew1) | exact HB.out))); rintro e w36 ⟨rfl, hb⟩; refine ⟨_, rfl, ?_⟩; have n0_ := Aside0.mk (Kd.Z_below (by (with_reducible repeat (first | apply Kd.Z_alloc | apply Kd.Z_drewN | apply Kd.Z_drew)); exact HO_12.out) hb); have n1_ := Aside0.mk (Kd.R_below (by (with_reducible repeat (first | apply Kd.R_alloc | apply Kd.R_drewN | apply Kd.R_drew)); exact HO289.out) hb); have n2_ := Aside0.mk (below_step (by repeat (first | (with_reducible first | exact HB.out | apply below_alloc | apply pw_below_drewN | apply below_drew1) | exact HB.out)) hb); clear HO_12; clear HO289; clear HB; have HO_12 := n0_; have HO289 := n1_; have HB := n2_; clear n0_ n1_ n2_; (try clear hb); (try clear hb2); (try clear hk); (try clear hi)) | ((with_reducible refine gate_callee (f := 23) rfl ?_); refine goesL_ (some 66) rfl rfl Tryd.func23 (by kernel_rfl) rfl #[.string (rdOf ByteArray.empty y287 x13_1)] rfl (by (try simp only [List.map_toArray, List.map_cons, List.map_nil]); first | done | rfl | (simp only [List.length_drop, List.length_take]; rfl)) ?_; (with_reducible refine (portmanteauref16_Number.calls k1 (rdOf ByteArray.empty y287 x13_1) t293 t294 _ A29.out).mono ?_); rintro e w' ⟨rfl, ⟨nd, rfl⟩⟩; refine ⟨_, rfl, ?_⟩))
                        go_ret
                        exact ⟨by first | rfl | (simp [errW_none, errW_some] <;> rfl) | (simp only [← hji15]; first | rfl | (simp [errW_none, errW_some] <;> rfl)) | (simp [*, errW_none, errW_some] <;> rfl), by repeat (first | (with_reducible first | exact HB.out | apply below_alloc | apply pw_below_drewN | apply below_drew1) | exact HB.out)⟩
                      · rw [if_neg c30] at H
                        have c30b0 : (t292 != t294) = false := by simpa using c30
                        (try (have c30b1 : decide (t292 = t294) = true := by simpa using c30))
                        (try (have c30b2 : (t292 == t294) = true := by simpa using c30))
                        clear c30
                        by_cases c37 : t291 = t293
                        · rw [if_pos c37] at H
                          have c37b0 : (t291 == t293) = true := beq_iff_eq.mpr c37
                          have c37b1 : (t291 != t293) = false := bne_eq_false_iff_eq.mpr c37
                          clear c37
                          have H' := Aside0.mk H
                          clear H
                          have hcv38 := fun (m_ : Nat) => Kd.C_string (P := Tryd.prog) (A := (some ⟨go18, 0, none⟩)) (c := co22) Tryd.underlying29 Tryd.underlying5 Tryd.underlying9 (Kd.Z_reads' (Kd.Z_drewN HO_12.out m_)).2.2
                          have hcv39 := Kd.C_string (P := Tryd.prog) (A := (some ⟨go18, 0, none⟩)) (c := co22) Tryd.underlying29 Tryd.underlying5 Tryd.underlying9 (Kd.Z_reads' HO_12.out).2.2
                          go_wp2_with (first | ((with_reducible refine gate_dst (N := 55) rfl ?_); refine Kd.R_lit Kd.string _ 9 ?hg (N := 55) ?hd (xs := ([a1, strOfNums y285] : List ByteArray)) (inner := [.string a1, .string (strOfNums y285)]) (ok := fun _ => True) (okp := fun _ => True) ?hr ?hp (fun _ hk => hk) trivial (Below.refl _ _) (Nat.le_refl _) (by simp) ?_; (case hd => rfl); (case hg => rfl); (case hr => first | (go_simp; done) | (go_simp; rfl)); (case hp => exact (Reps.one (show Kd.M Kd.string _ _ _ a1 [.string a1] from rfl) (Reps.one (show Kd.M Kd.string _ _ _ (strOfNums y285) [.string (strOfNums y285)] from rfl) (Reps.none _ _)))); intro v288 w40 ho41 hb hg_ hnew_; clear hg_ hnew_; (first | rw [← Ny287.out] at ho41 | (simp only [Int.reduceToNat] at ho41; rw [← Ny287.out] at ho41)); have n0_ := Aside0.mk (Kd.Z_below (by (with_reducible repeat (first | apply Kd.Z_alloc | apply Kd.Z_drewN | apply Kd.Z_drew)); exact HO_12.out) hb); have n1_ := Aside0.mk (Kd.R_lower ho41 (below_size (by repeat (first | (with_reducible first | exact HB.out | apply below_alloc | apply pw_below_drewN | apply below_drew1) | exact HB.out)))); have n2_ := Aside0.mk (below_step (by repeat (first | (with_reducible first | exact HB.out | apply below_alloc | apply pw_below_drewN | apply below_drew1) | exact HB.out)) hb); clear HO_12; clear HB; have HO_12 := n0_; have HO289 := n1_; have HB := n2_; clear n0_ n1_ n2_; clear hb ho41; obtain ⟨Ao42, co42, eo42⟩ := Kd.R_slice HO289.out; subst eo42; have p290 : 0 ≤ (x13_1 : Int) := of_decide_eq_true (by first | (with_reducible assumption) | assumption); have q290 : x13_1 < (y287.length : Int) := of_decide_eq_true (by first | (with_reducible assumption) | assumption); obtain ⟨ad290, e290, hx290_0⟩ := Kd.at_string (Kd.R_reads' HO289.out).2.2 x13_1 p290 q290; cases e290; replace p290 := eq_true p290; replace q290 := eq_true q290) | ((with_reducible refine gate_callee (f := 22) rfl ?_); refine goesL_ (some 61) rfl rfl Tryd.func22 (by kernel_rfl) rfl #[.string (rdOf ByteArray.empty y287 x13_1)] rfl (by (try simp only [List.map_toArray, List.map_cons, List.map_nil]); first | done | rfl | (simp only [List.length_drop, List.length_take]; rfl)) ?_; (with_reducible refine (num_Number.calls (rdOf ByteArray.empty y287 x13_1) t291 t292 _ ?side1 A28.out).mono ?_); (case side1 => exact Glob.to (by decide) HG.out (by repeat (first | (with_reducible first | exact HB.out | apply below_alloc | apply pw_below_drewN | apply below_drew1) | exact HB.out))); rintro e w43 ⟨rfl, hb⟩; refine ⟨_, rfl, ?_⟩; have n0_ := Aside0.mk (Kd.Z_below (by (with_reducible repeat (first | apply Kd.Z_alloc | apply Kd.Z_drewN | apply Kd.Z_drew)); exact HO_12.out) hb); have n1_ := Aside0.mk (Kd.R_below (by (with_reducible repeat (first | apply Kd.R_alloc | apply Kd.R_drewN | apply Kd.R_drew)); exact HO289.out) hb); have n2_ := Aside0.mk (below_step (by repeat (first | (with_reducible first | exact HB.out | apply below_alloc | apply pw_below_drewN | apply below_drew1) | exact HB.out)) hb); clear HO_12; clear HO289; clear HB; have HO_12 := n0_; have HO289 := n1_; have HB := n2_; clear n0_ n1_ n2_; (try clear hb); (try clear hb2); (try clear hk); (try clear hi)) | ((with_reducible refine gate_callee (f := 23) rfl ?_); refine goesL_ (some 66) rfl rfl Tryd.func23 (by kernel_rfl) rfl #[.string (rdOf ByteArray.empty y287 x13_1)] rfl (by (try simp only [List.map_toArray, List.map_cons, List.map_nil]); first | done | rfl | (simp only [List.length_drop, List.length_take]; rfl)) ?_; (with_reducible refine (portmanteauref16_Number.calls k1 (rdOf ByteArray.empty y287 x13_1) t293 t294 _ A29.out).mono ?_); rintro e w' ⟨rfl, ⟨nd, rfl⟩⟩; refine ⟨_, rfl, ?_⟩))
                          (try simp only [← hl12_1])
                          go_roundg k1
                          case measure => have := HK1.out; omega
                          case rel => exact ⟨(wrap64 (x13_1 + 1)), (by first | rfl | (simp; done) | (simp [*]; done)), H', ⟨by have := HK1.out; omega⟩, ⟨by (try simp only [hl12_1]); (with_reducible repeat (first | apply Kd.Z_alloc | apply Kd.Z_drewN | apply Kd.Z_drew)); exact HO_12.out⟩, ⟨by repeat (first | (with_reducible first | exact HB.out | apply below_alloc | apply pw_below_drewN | apply below_drew1) | exact HB.out)⟩⟩
                        · rw [if_neg c37] at H
                          have c37b0 : (t291 == t293) = false := beq_eq_false_iff_ne.mpr c37
                          have c37b1 : (t291 != t293) = true := bne_iff_ne.mpr c37
                          obtain rfl := Option.some.inj H
                          have hcv44 := fun (m_ : Nat) => Kd.C_string (P := Tryd.prog) (A := (some ⟨go18, 0, none⟩)) (c := co22) Tryd.underlying29 Tryd.underlying5 Tryd.underlying9 (Kd.Z_reads' (Kd.Z_drewN HO_12.out m_)).2.2
                          have hcv45 := Kd.C_string (P := Tryd.prog) (A := (some ⟨go18, 0, none⟩)) (c := co22) Tryd.underlying29 Tryd.underlying5 Tryd.underlying9 (Kd.Z_reads' HO_12.out).2.2
                          go_wp2_with (first | ((with_reducible refine gate_dst (N := 55) rfl ?_); refine Kd.R_lit Kd.string _ 9 ?hg (N := 55) ?hd (xs := ([a1, strOfNums y285] : List ByteArray)) (inner := [.string a1, .string (strOfNums y285)]) (ok := fun _ => True) (okp := fun _ => True) ?hr ?hp (fun _ hk => hk) trivial (Below.refl _ _) (Nat.le_refl _) (by simp) ?_; (case hd => rfl); (case hg => rfl); (case hr => first | (go_simp; done) | (go_simp; rfl)); (case hp => exact (Reps.one (show Kd.M Kd.string _ _ _ a1 [.string a1] from rfl) (Reps.one (show Kd.M Kd.string _ _ _ (strOfNums y285) [.string (strOfNums y285)] from rfl) (Reps.none _ _)))); intro v288 w46 ho47 hb hg_ hnew_; clear hg_ hnew_; (first | rw [← Ny287.out] at ho47 | (simp only [Int.reduceToNat] at ho47; rw [← Ny287.out] at ho47)); have n0_ := Aside0.mk (Kd.Z_below (by (with_reducible repeat (first | apply Kd.Z_alloc | apply Kd.Z_drewN | apply Kd.Z_drew)); exact HO_12.out) hb); have n1_ := Aside0.mk (Kd.R_lower ho47 (below_size (by repeat (first | (with_reducible first | exact HB.out | apply below_alloc | apply pw_below_drewN | apply below_drew1) | exact HB.out)))); have n2_ := Aside0.mk (below_step (by repeat (first | (with_reducible first | exact HB.out | apply below_alloc | apply pw_below_drewN | apply below_drew1) | exact HB.out)) hb); clear HO_12; clear HB; have HO_12 := n0_; have HO289 := n1_; have HB := n2_; clear n0_ n1_ n2_; clear hb ho47; obtain ⟨Ao48, co48, eo48⟩ := Kd.R_slice HO289.out; subst eo48; have p290 : 0 ≤ (x13_1 : Int) := of_decide_eq_true (by first | (with_reducible assumption) | assumption); have q290 : x13_1 < (y287.length : Int) := of_decide_eq_true (by first | (with_reducible assumption) | assumption); obtain ⟨ad290, e290, hx290_0⟩ := Kd.at_string (Kd.R_reads' HO289.out).2.2 x13_1 p290 q290; cases e290; replace p290 := eq_true p290; replace q290 := eq_true q290) | ((with_reducible refine gate_callee (f := 22) rfl ?_); refine goesL_ (some 61) rfl rfl Tryd.func22 (by kernel_rfl) rfl #[.string (rdOf ByteArray.empty y287 x13_1)] rfl (by (try simp only [List.map_toArray, List.map_cons, List.map_nil]); first | done | rfl | (simp only [List.length_drop, List.length_take]; rfl)) ?_; (with_reducible refine (num_Number.calls (rdOf ByteArray.empty y287 x13_1) t291 t292 _ ?side1 A28.out).mono ?_); (case side1 => exact Glob.to (by decide) HG.out (by repeat (first | (with_reducible first | exact HB.out | apply below_alloc | apply pw_below_drewN | apply below_drew1) | exact HB.out))); rintro e w49 ⟨rfl, hb⟩; refine ⟨_, rfl, ?_⟩; have n0_ := Aside0.mk (Kd.Z_below (by (with_reducible repeat (first | apply Kd.Z_alloc | apply Kd.Z_drewN | apply Kd.Z_drew)); exact HO_12.out) hb); have n1_ := Aside0.mk (Kd.R_below (by (with_reducible repeat (first | apply Kd.R_alloc | apply Kd.R_drewN | apply Kd.R_drew)); exact HO289.out) hb); have n2_ := Aside0.mk (below_step (by repeat (first | (with_reducible first | exact HB.out | apply below_alloc | apply pw_below_drewN | apply below_drew1) | exact HB.out)) hb); clear HO_12; clear HO289; clear HB; have HO_12 := n0_; have HO289 := n1_; have HB := n2_; clear n0_ n1_ n2_; (try clear hb); (try clear hb2); (try clear hk); (try clear hi)) | ((with_reducible refine gate_callee (f := 23) rfl ?_); refine goesL_ (some 66) rfl rfl Tryd.func23 (by kernel_rfl) rfl #[.string (rdOf ByteArray.empty y287 x13_1)] rfl (by (try simp only [List.map_toArray, List.map_cons, List.map_nil]); first | done | rfl | (simp only [List.length_drop, List.length_take]; rfl)) ?_; (with_reducible refine (portmanteauref16_Number.calls k1 (rdOf ByteArray.empty y287 x13_1) t293 t294 _ A29.out).mono ?_); rintro e w' ⟨rfl, ⟨nd, rfl⟩⟩; refine ⟨_, rfl, ?_⟩))
                          go_ret
                          exact ⟨by first | rfl | (simp [errW_none, errW_some] <;> rfl) | (simp only [← hji15]; first | rfl | (simp [errW_none, errW_some] <;> rfl)) | (simp [*, errW_none, errW_some] <;> rfl), by repeat (first | (with_reducible first | exact HB.out | apply below_alloc | apply pw_below_drewN | apply below_drew1) | exact HB.out)⟩
                    · rw [if_neg c27] at H
                      exact absurd H (by simp)
                  · rw [if_neg c26] at H
                    exact absurd H (by simp)
                · rw [if_neg c25] at H
                  have c25b0 : decide (x13_1 < 2) = false := decide_eq_false c25
                  clear c25
                  by_cases c50 : t279 = true
                  · subst c50
                    have H1 : (if t278 = a0 then ((portmanteaulaw16_awake.f k1).bind fun t286 => (some t286)) else (some false)) = some r := by rw [if_pos rfl] at H; exact H
                    clear H
                    have H := H1
                    clear H1
                    by_cases c51 : t278 = a0
                    · rw [if_pos c51] at H
                      have c51b0 : (t278 == a0) = true := beq_iff_eq.mpr c51
                      have c51b1 : (t278 != a0) = false := bne_eq_false_iff_eq.mpr c51
                      clear c51
                      replace H := Option.bind_eq_some_iff.mp H
                      obtain ⟨t286, A520, H⟩ := H
                      replace H : (some t286) = some r := H
                      have A52 := Aside0.mk A520
                      clear A520
                      obtain rfl := Option.some.inj H
                      go_wp2_with (first | (go_at_call 14; (with_reducible refine (portmanteaulaw16_awake.calls k1  t286 _ ?side1 A52.out).mono ?_); (case side1 => exact Glob.to (by decide) HG.out (by repeat (first | (with_reducible first | exact HB.out | apply below_alloc | apply pw_below_drewN | apply below_drew1) | exact HB.out))); rintro e w53 ⟨rfl, hb⟩; have n0_ := Aside0.mk (Kd.Z_below (by (with_reducible repeat (first | apply Kd.Z_alloc | apply Kd.Z_drewN | apply Kd.Z_drew)); exact HO_12.out) hb); have n1_ := Aside0.mk (below_step (by repeat (first | (with_reducible first | exact HB.out | apply below_alloc | apply pw_below_drewN | apply below_drew1) | exact HB.out)) hb); clear HO_12; clear HB; have HO_12 := n0_; have HB := n1_; clear n0_ n1_; (try clear hb); (try clear hb2); (try clear hk); (try clear hi)))
                      go_ret
                      exact ⟨by first | rfl | (simp [errW_none, errW_some] <;> rfl) | (simp only [← hji15]; first | rfl | (simp [errW_none, errW_some] <;> rfl)) | (simp [*, errW_none, errW_some] <;> rfl), by repeat (first | (with_reducible first | exact HB.out | apply below_alloc | apply pw_below_drewN | apply below_drew1) | exact HB.out)⟩
                    · rw [if_neg c51] at H
                      have c51b0 : (t278 == a0) = false := beq_eq_false_iff_ne.mpr c51
                      have c51b1 : (t278 != a0) = true := bne_iff_ne.mpr c51
                      obtain rfl := Option.some.inj H
                      go_wp2
                      go_ret
                      exact ⟨by first | rfl | (simp [errW_none, errW_some] <;> rfl) | (simp only [← hji15]; first | rfl | (simp [errW_none, errW_some] <;> rfl)) | (simp [*, errW_none, errW_some] <;> rfl), by repeat (first | (with_reducible first | exact HB.out | apply below_alloc | apply pw_below_drewN | apply below_drew1) | exact HB.out)⟩
                  · replace c50 := Bool.eq_false_iff.mpr c50
                    subst c50
                    have H1 : (some false) = some r := by rw [if_neg (show ¬ (false = true) by decide)] at H; exact H
                    clear H
                    have H := H1
                    clear H1
                    obtain rfl := Option.some.inj H
                    go_wp2
                    go_ret
                    exact ⟨by first | rfl | (simp [errW_none, errW_some] <;> rfl) | (simp only [← hji15]; first | rfl | (simp [errW_none, errW_some] <;> rfl)) | (simp [*, errW_none, errW_some] <;> rfl), by repeat (first | (with_reducible first | exact HB.out | apply below_alloc | apply pw_below_drewN | apply below_drew1) | exact HB.out)⟩
          · rw [if_neg c17] at H
            exact absurd H (by simp)
        · rw [if_neg c16] at H
          exact absurd H (by simp)
    · rw [if_neg c10] at H
      have c10b0 : (t276.toList == t277.toList) = false := beq_eq_false_iff_ne.mpr c10
      have c10b1 : (t276.toList != t277.toList) = true := bne_iff_ne.mpr c10
      obtain rfl := Option.some.inj H
      go_enter Tryd.func8, Tryd.ntmps8
      go_wp2_with (first | ((with_reducible refine gate_callee (f := 20) rfl ?_); refine goesL_ (some 24) rfl rfl Tryd.func20 (by kernel_rfl) rfl #[.int .i64 a0] rfl (by (try simp only [List.map_toArray, List.map_cons, List.map_nil]); first | done | rfl | (simp only [List.length_drop, List.length_take]; rfl)) ?_; (with_reducible refine (num_Digits.calls a0 t276 _ ?side1 A8.out).mono ?_); (case side1 => exact Glob.to (by decide) HG.out (by repeat (first | (with_reducible first | exact HB.out | apply below_alloc | apply pw_below_drewN | apply below_drew1) | exact HB.out))); rintro e w54 ⟨rfl, hb⟩; refine ⟨_, rfl, ?_⟩; have n0_ := Aside0.mk (below_step (by repeat (first | (with_reducible first | exact HB.out | apply below_alloc | apply pw_below_drewN | apply below_drew1) | exact HB.out)) hb); clear HB; have HB := n0_; clear n0_; (try clear hb); (try clear hb2); (try clear hk); (try clear hi)) | ((with_reducible refine gate_callee (f := 21) rfl ?_); refine goesL_ (some 27) rfl rfl Tryd.func21 (by kernel_rfl) rfl #[.int .i64 a0] rfl (by (try simp only [List.map_toArray, List.map_cons, List.map_nil]); first | done | rfl | (simp only [List.length_drop, List.length_take]; rfl)) ?_; (with_reducible refine (portmanteauref13_Digits.calls k a0 t277 _ A9.out).mono ?_); rintro e w' ⟨rfl, ⟨nd, rfl⟩⟩; refine ⟨_, rfl, ?_⟩))
      go_ret
      exact ⟨by first | rfl | (simp [errW_none, errW_some] <;> rfl) | (simp [*, errW_none, errW_some] <;> rfl), by repeat (first | (with_reducible first | exact HB.out | apply below_alloc | apply pw_below_drewN | apply below_drew1) | exact HB.out)⟩

/-- THE ONE PURE STATEMENT of portmanteaulaw16_NumTexts: yours. -/
def portmanteaulaw16_NumTexts.Pure : Prop := ∀ (a0 : Int) (a1 : ByteArray) (a2 : Int) (a3 : Int), (Lit.int .i64 a0).wf = true → a1.size ≤ 140737488351232 → (Lit.int .i64 a2).wf = true → (Lit.int .u8 a3).wf = true → ∃ k, portmanteaulaw16_NumTexts.f k a0 a1 a2 a3 = some true
theorem portmanteaulaw16_NumTexts.walk (P : portmanteaulaw16_NumTexts.Pure) (a0 : Int) (a1 : ByteArray) (a2 : Int) (a3 : Int) (w : World) (w0 : (Lit.int .i64 a0).wf = true) (w1 : a1.size ≤ 140737488351232) (w2 : (Lit.int .i64 a2).wf = true) (w3 : (Lit.int .u8 a3).wf = true) (hG : Glob 2 w) :
    Calls Tryd.prog 8 #[.int .i64 a0, .string a1, .int .i64 a2, .int .u8 a3] w fun e w' => e = .returned (.bool true) ∧ Below w.heap.size w w' := by
  obtain ⟨k, h⟩ := P a0 a1 a2 a3 w0 w1 w2 w3
  refine (portmanteaulaw16_NumTexts.calls k a0 a1 a2 a3 true w hG h).mono ?_
  rintro e w' ⟨rfl, hd⟩
  exact ⟨rfl, hd⟩

end Go.Proofs.YtbaonnlpphpakaaDoor.X
