-- Printed by a program of this session (wip/tools/xprint.py) out of the translation.
import Derived.Test.YtmmmmalicndkeaaDoorX0
import Derived.Test.YtmmmmalicndkeaaDoorX23
import Derived.Test.YtmmmmalicndkeaaDoorX24
import Derived.Test.YtmmmmalicndkeaaDoorX25
import Derived.Test.YtmmmmalicndkeaaDoorX38
import Derived.Test.YtmmmmalicndkeaaDoorX39
import Derived.Test.YtmmmmalicndkeaaDoorExtN
namespace Go.Proofs.YtmmmmalicndkeaaDoor.X
open Go.RowKit Go.Proofs.YtmmmmalicndkeaaDoorW.PrintWords Go.Proofs.YtmmmmalicndkeaaDoorW.PrintLast Go.Proofs.YtmmmmalicndkeaaDoorW.PrintMore
attribute [local go_sem] max2_int min2_int max_two min_two max_three min_three max_four min_four   -- for this text's walks alone
set_option linter.unusedVariables false
set_option linter.unusedSimpArgs false

/-! ### portmanteaulaw18_PaxTimes: function 10 -/
mutual
def portmanteaulaw18_PaxTimes.j1 : Nat → Int → ByteArray → Int → Int → Int → Bool → ByteArray → Option (Bool)
  | 0, _, _, _, _, _, _, _ => none
  | k + 1, x0, x1, x3, x4, x12, x13, x14 => (portmanteauref16_TimeText.f k x0).bind fun t494 => ((conv_S.f t494).bind fun t495 => (if (t495.length : Int) = 0 then (none) else (if 0 ≤ (Int.tmod (Go.bits .and .i64 x3 255) (t495.length : Int)) then (if (Int.tmod (Go.bits .and .i64 x3 255) (t495.length : Int)) < (t495.length : Int) then (portmanteaulaw18_PaxTimes.l1 k x0 x1 x12 x13 x14 (t495.set ((Int.tmod (Go.bits .and .i64 x3 255) (t495.length : Int)) : Int).toNat (Go.bits .xor .u8 (rd t495 (Int.tmod (Go.bits .and .i64 x3 255) (t495.length : Int))) x4)) 0) else (none)) else (none))))
def portmanteaulaw18_PaxTimes.l1 : Nat → Int → ByteArray → Int → Bool → ByteArray → List Int → Int → Option (Bool)
  | 0, _, _, _, _, _, _, _ => none
  | k + 1, x0, x1, x12, x13, x14, x17, x18 => if x18 < 3 then ((some (([x1, x14, strOfNums x17] : List ByteArray) : List ByteArray)).bind fun y501 => (if 0 ≤ x18 then (if x18 < (y501.length : Int) then ((pax_Time.f k (rdOf ByteArray.empty y501 x18)).bind fun bt505 => ((portmanteauref16_Time.f k (rdOf ByteArray.empty y501 x18)).bind fun bt507 => (if (bt505.2 != bt507.2) = true then (some false) else (if bt505.1 = bt507.1 then (portmanteaulaw18_PaxTimes.l1 k x0 x1 x12 x13 x14 x17 (wrap64 (x18 + 1))) else (some false))))) else (none)) else (none))) else (if x13 = true then (if x12 = x0 then ((portmanteaulaw18_awake.f k).bind fun t500 => (some t500)) else (some false)) else (some false))
def portmanteaulaw18_PaxTimes.l0 : Nat → Int → ByteArray → List Int → Int → Int → Int → Bool → ByteArray → Int → Option (Bool)
  | 0, _, _, _, _, _, _, _, _, _ => none
  | k + 1, x0, x1, x2, x3, x4, x12, x13, x14, x15 => if x15 < (x2.length : Int) then (if x15 < 32 then (if 0 ≤ x15 then (if 0 ≤ (Int.tmod (Go.bits .and .i64 (rd x2 x15) 255) 12) then (if (Int.tmod (Go.bits .and .i64 (rd x2 x15) 255) 12) ≤ (wrap64 ((Int.tmod (Go.bits .and .i64 (rd x2 x15) 255) 12) + 1)) then (if (wrap64 ((Int.tmod (Go.bits .and .i64 (rd x2 x15) 255) 12) + 1)) ≤ 12 then (if x14.size + ((⟨#[48, 49, 50, 51, 52, 53, 54, 55, 56, 57, 46, 45]⟩ : ByteArray).extract ((Int.tmod (Go.bits .and .i64 (rd x2 x15) 255) 12) : Int).toNat ((wrap64 ((Int.tmod (Go.bits .and .i64 (rd x2 x15) 255) 12) + 1)) : Int).toNat).size ≤ 9223372036854775807 then (portmanteaulaw18_PaxTimes.l0 k x0 x1 x2 x3 x4 x12 x13 (x14 ++ ((⟨#[48, 49, 50, 51, 52, 53, 54, 55, 56, 57, 46, 45]⟩ : ByteArray).extract ((Int.tmod (Go.bits .and .i64 (rd x2 x15) 255) 12) : Int).toNat ((wrap64 ((Int.tmod (Go.bits .and .i64 (rd x2 x15) 255) 12) + 1)) : Int).toNat)) (wrap64 (x15 + 1))) else (none)) else (none)) else (none)) else (none)) else (none)) else (portmanteaulaw18_PaxTimes.j1 k x0 x1 x3 x4 x12 x13 x14)) else (portmanteaulaw18_PaxTimes.j1 k x0 x1 x3 x4 x12 x13 x14)
end
def portmanteaulaw18_PaxTimes.f (k : Nat) (a0 : Int) (a1 : ByteArray) (l2 : List Int) (a3 : Int) (a4 : Int) : Option (Bool) := if (a1.size : Int) > 100 then ((portmanteaulaw18_awake.f k).bind fun t488 => (some t488)) else ((pax_TimeText.f k a0).bind fun t489 => ((portmanteauref16_TimeText.f k a0).bind fun t490 => (if t489.toList = t490.toList then ((pax_Time.f k t489).bind fun bt491 => (portmanteaulaw18_PaxTimes.l0 k a0 a1 l2 a3 a4 bt491.1 bt491.2 (⟨#[]⟩ : ByteArray) 0)) else (some false))))
theorem portmanteaulaw18_PaxTimes.mono_l : ∀ k, (∀ y0 y1 y2 y3 y4 y5 y6, LeO (portmanteaulaw18_PaxTimes.j1 k y0 y1 y2 y3 y4 y5 y6) (portmanteaulaw18_PaxTimes.j1 (k + 1) y0 y1 y2 y3 y4 y5 y6)) ∧ (∀ y0 y1 y2 y3 y4 y5 y6, LeO (portmanteaulaw18_PaxTimes.l1 k y0 y1 y2 y3 y4 y5 y6) (portmanteaulaw18_PaxTimes.l1 (k + 1) y0 y1 y2 y3 y4 y5 y6)) ∧ (∀ y0 y1 y2 y3 y4 y5 y6 y7 y8, LeO (portmanteaulaw18_PaxTimes.l0 k y0 y1 y2 y3 y4 y5 y6 y7 y8) (portmanteaulaw18_PaxTimes.l0 (k + 1) y0 y1 y2 y3 y4 y5 y6 y7 y8))
  | 0 => ⟨fun _ _ _ _ _ _ _ r h => by simp [portmanteaulaw18_PaxTimes.j1] at h, fun _ _ _ _ _ _ _ r h => by simp [portmanteaulaw18_PaxTimes.l1] at h, fun _ _ _ _ _ _ _ _ _ r h => by simp [portmanteaulaw18_PaxTimes.l0] at h⟩
  | k + 1 => by
    obtain ⟨ih0, ih1, ih2⟩ := portmanteaulaw18_PaxTimes.mono_l k
    refine ⟨?_, ?_, ?_⟩
    · intro y0 y1 y2 y3 y4 y5 y6
      unfold portmanteaulaw18_PaxTimes.j1
      repeat' first
      | (with_reducible exact ih0 _ _ _ _ _ _ _)
      | (with_reducible exact ih1 _ _ _ _ _ _ _)
      | (with_reducible exact ih2 _ _ _ _ _ _ _ _ _)
      | (with_reducible exact pax_Time.mono _ _)
      | (with_reducible exact pax_TimeText.mono _ _)
      | (with_reducible exact portmanteaulaw18_awake.mono _)
      | (with_reducible exact portmanteauref16_Time.mono _ _)
      | (with_reducible exact portmanteauref16_TimeText.mono _ _)
      | (with_reducible exact LeO.refl _)
      | (with_reducible exact LeO.none _)
      | (with_reducible refine LeO.ite ?_ ?_)
      | (with_reducible refine LeO.bind ?_ (fun _ => ?_))
      | exact ih0 _ _ _ _ _ _ _
      | exact ih1 _ _ _ _ _ _ _
      | exact ih2 _ _ _ _ _ _ _ _ _
      | exact pax_Time.mono _ _
      | exact pax_TimeText.mono _ _
      | exact portmanteaulaw18_awake.mono _
      | exact portmanteauref16_Time.mono _ _
      | exact portmanteauref16_TimeText.mono _ _
      | exact LeO.none _
      | refine LeO.ite ?_ ?_
      | refine LeO.bind ?_ (fun _ => ?_)
    · intro y0 y1 y2 y3 y4 y5 y6
      unfold portmanteaulaw18_PaxTimes.l1
      repeat' first
      | (with_reducible exact ih0 _ _ _ _ _ _ _)
      | (with_reducible exact ih1 _ _ _ _ _ _ _)
      | (with_reducible exact ih2 _ _ _ _ _ _ _ _ _)
      | (with_reducible exact pax_Time.mono _ _)
      | (with_reducible exact pax_TimeText.mono _ _)
      | (with_reducible exact portmanteaulaw18_awake.mono _)
      | (with_reducible exact portmanteauref16_Time.mono _ _)
      | (with_reducible exact portmanteauref16_TimeText.mono _ _)
      | (with_reducible exact LeO.refl _)
      | (with_reducible exact LeO.none _)
      | (with_reducible refine LeO.ite ?_ ?_)
      | (with_reducible refine LeO.bind ?_ (fun _ => ?_))
      | exact ih0 _ _ _ _ _ _ _
      | exact ih1 _ _ _ _ _ _ _
      | exact ih2 _ _ _ _ _ _ _ _ _
      | exact pax_Time.mono _ _
      | exact pax_TimeText.mono _ _
      | exact portmanteaulaw18_awake.mono _
      | exact portmanteauref16_Time.mono _ _
      | exact portmanteauref16_TimeText.mono _ _
      | exact LeO.none _
      | refine LeO.ite ?_ ?_
      | refine LeO.bind ?_ (fun _ => ?_)
    · intro y0 y1 y2 y3 y4 y5 y6 y7 y8
      unfold portmanteaulaw18_PaxTimes.l0
      repeat' first
      | (with_reducible exact ih0 _ _ _ _ _ _ _)
      | (with_reducible exact ih1 _ _ _ _ _ _ _)
      | (with_reducible exact ih2 _ _ _ _ _ _ _ _ _)
      | (with_reducible exact pax_Time.mono _ _)
      | (with_reducible exact pax_TimeText.mono _ _)
      | (with_reducible exact portmanteaulaw18_awake.mono _)
      | (with_reducible exact portmanteauref16_Time.mono _ _)
      | (with_reducible exact portmanteauref16_TimeText.mono _ _)
      | (with_reducible exact LeO.refl _)
      | (with_reducible exact LeO.none _)
      | (with_reducible refine LeO.ite ?_ ?_)
      | (with_reducible refine LeO.bind ?_ (fun _ => ?_))
      | exact ih0 _ _ _ _ _ _ _
      | exact ih1 _ _ _ _ _ _ _
      | exact ih2 _ _ _ _ _ _ _ _ _
      | exact pax_Time.mono _ _
      | exact pax_TimeText.mono _ _
      | exact portmanteaulaw18_awake.mono _
      | exact portmanteauref16_Time.mono _ _
      | exact portmanteauref16_TimeText.mono _ _
      | exact LeO.none _
      | refine LeO.ite ?_ ?_
      | refine LeO.bind ?_ (fun _ => ?_)
theorem portmanteaulaw18_PaxTimes.mono : ∀ a0 a1 a2 a3 a4 k, LeO (portmanteaulaw18_PaxTimes.f k a0 a1 a2 a3 a4) (portmanteaulaw18_PaxTimes.f (k + 1) a0 a1 a2 a3 a4) := by
  intro a0 a1 a2 a3 a4 k
  obtain ⟨ih0, ih1, ih2⟩ := portmanteaulaw18_PaxTimes.mono_l k
  unfold portmanteaulaw18_PaxTimes.f
  repeat' first
      | (with_reducible exact ih0 _ _ _ _ _ _ _)
      | (with_reducible exact ih1 _ _ _ _ _ _ _)
      | (with_reducible exact ih2 _ _ _ _ _ _ _ _ _)
      | (with_reducible exact pax_Time.mono _ _)
      | (with_reducible exact pax_TimeText.mono _ _)
      | (with_reducible exact portmanteaulaw18_awake.mono _)
      | (with_reducible exact portmanteauref16_Time.mono _ _)
      | (with_reducible exact portmanteauref16_TimeText.mono _ _)
      | (with_reducible exact LeO.refl _)
      | (with_reducible exact LeO.none _)
      | (with_reducible refine LeO.ite ?_ ?_)
      | (with_reducible refine LeO.bind ?_ (fun _ => ?_))
      | exact ih0 _ _ _ _ _ _ _
      | exact ih1 _ _ _ _ _ _ _
      | exact ih2 _ _ _ _ _ _ _ _ _
      | exact pax_Time.mono _ _
      | exact pax_TimeText.mono _ _
      | exact portmanteaulaw18_awake.mono _
      | exact portmanteauref16_Time.mono _ _
      | exact portmanteauref16_TimeText.mono _ _
      | exact LeO.none _
      | refine LeO.ite ?_ ?_
      | refine LeO.bind ?_ (fun _ => ?_)
set_option maxHeartbeats 8000000 in
set_option maxRecDepth 100000 in
theorem portmanteaulaw18_PaxTimes.calls (k : Nat) (a0 : Int) (a1 : ByteArray) (A2 : Option Addr) (c2 : Nat) (l2 : List Int) (a3 : Int) (a4 : Int) (r : Bool) (w : World) (hr2 : Kd.C (Kd.int .i64) w A2 l2.length l2) (hc2 : l2.length ≤ c2) (hG : Glob 3 w) (h : portmanteaulaw18_PaxTimes.f k a0 a1 l2 a3 a4 = some r) :
    Calls Tryd.prog 10 #[.int .i64 a0, .string a1, .slice A2 l2.length c2, .int .i64 a3, .int .u8 a4] w fun e w' => e = .returned (.bool r) ∧ Below w.heap.size w w' := by
  have HR2 := Aside0.mk hr2
  have HC2 := Aside0.mk hc2
  clear hr2 hc2
  have HB := Aside0.mk (Below.refl w.heap.size w)
  have HG := Aside0.mk hG
  clear hG
  have H : (if (a1.size : Int) > 100 then ((portmanteaulaw18_awake.f k).bind fun t488 => (some t488)) else ((pax_TimeText.f k a0).bind fun t489 => ((portmanteauref16_TimeText.f k a0).bind fun t490 => (if t489.toList = t490.toList then ((pax_Time.f k t489).bind fun bt491 => (portmanteaulaw18_PaxTimes.l0 k a0 a1 l2 a3 a4 bt491.1 bt491.2 (⟨#[]⟩ : ByteArray) 0)) else (some false))))) = some r := h
  clear h
  by_cases c6 : (a1.size : Int) > 100
  · rw [if_pos c6] at H
    have c6b0 : decide (100 < (a1.size : Int)) = true := decide_eq_true c6
    have c6b1 : decide (100 < a1.size) = true := decide_eq_true (by omega)
    clear c6
    replace H := Option.bind_eq_some_iff.mp H
    obtain ⟨t488, A70, H⟩ := H
    replace H : (some t488) = some r := H
    have A7 := Aside0.mk A70
    clear A70
    obtain rfl := Option.some.inj H
    go_enter Tryd.func10, Tryd.ntmps10
    go_wp2_with (first | ((with_reducible refine gate_callee (f := 21) rfl ?_); refine goesL_ (some 27) rfl rfl Tryd.func21 (by kernel_rfl) rfl #[] rfl (by (try simp only [List.map_toArray, List.map_cons, List.map_nil]); first | done | rfl | (simp only [List.length_drop, List.length_take]; rfl) | (go_simp; done) | (go_simp; unfold wrap64; omega) | (go_simp; simp only [ByteArray.size_extract]; unfold wrap64; omega)) ?_; (with_reducible refine (portmanteaulaw18_awake.calls k  t488 _ ?side1 A7.out).mono ?_); (case side1 => exact Glob.to (by decide) HG.out (by repeat (first | (with_reducible first | exact HB.out | apply below_alloc | apply pw_below_drewN | apply below_drew1) | exact HB.out))); rintro e w8 ⟨rfl, hb⟩; refine ⟨_, rfl, ?_⟩; have n0_ := Aside0.mk (below_step (by repeat (first | (with_reducible first | exact HB.out | apply below_alloc | apply pw_below_drewN | apply below_drew1) | exact HB.out)) hb); clear HB; have HB := n0_; clear n0_; (try clear hb); (try clear hb2); (try clear hk); (try clear hi)))
    go_ret
    exact ⟨by first | rfl | (simp [errW_none, errW_some] <;> rfl) | (simp [*, errW_none, errW_some] <;> rfl) | (simp [errW_none, errW_some, ba_bne, ba_beq]; done), by repeat (first | (with_reducible first | exact HB.out | apply below_alloc | apply pw_below_drewN | apply below_drew1) | exact HB.out)⟩
  · rw [if_neg c6] at H
    have c6b0 : decide (100 < (a1.size : Int)) = false := decide_eq_false c6
    have c6b1 : decide (100 < a1.size) = false := decide_eq_false (by omega)
    clear c6
    replace H := Option.bind_eq_some_iff.mp H
    obtain ⟨t489, A90, H⟩ := H
    replace H : ((portmanteauref16_TimeText.f k a0).bind fun t490 => (if t489.toList = t490.toList then ((pax_Time.f k t489).bind fun bt491 => (portmanteaulaw18_PaxTimes.l0 k a0 a1 l2 a3 a4 bt491.1 bt491.2 (⟨#[]⟩ : ByteArray) 0)) else (some false))) = some r := H
    have A9 := Aside0.mk A90
    clear A90
    replace H := Option.bind_eq_some_iff.mp H
    obtain ⟨t490, A100, H⟩ := H
    replace H : (if t489.toList = t490.toList then ((pax_Time.f k t489).bind fun bt491 => (portmanteaulaw18_PaxTimes.l0 k a0 a1 l2 a3 a4 bt491.1 bt491.2 (⟨#[]⟩ : ByteArray) 0)) else (some false)) = some r := H
    have A10 := Aside0.mk A100
    clear A100
    by_cases c11 : t489.toList = t490.toList
    · rw [if_pos c11] at H
      have c11b0 : (t489.toList == t490.toList) = true := beq_iff_eq.mpr c11
      have c11b1 : (t489.toList != t490.toList) = false := bne_eq_false_iff_eq.mpr c11
      clear c11
      replace H := Option.bind_eq_some_iff.mp H
      obtain ⟨⟨t491, t492⟩, A120, H⟩ := H
      replace H : (portmanteaulaw18_PaxTimes.l0 k a0 a1 l2 a3 a4 t491 t492 (⟨#[]⟩ : ByteArray) 0) = some r := H
      have A12 := Aside0.mk A120
      clear A120
      have HC13 := Aside0.mk H
      clear H
      go_enter Tryd.func10, Tryd.ntmps10
      go_upto_block 0 with (first | ((with_reducible refine gate_callee (f := 29) rfl ?_); refine goesL_ (some 29) rfl rfl Tryd.func29 (by kernel_rfl) rfl #[.int .i64 a0] rfl (by (try simp only [List.map_toArray, List.map_cons, List.map_nil]); first | done | rfl | (simp only [List.length_drop, List.length_take]; rfl) | (go_simp; done) | (go_simp; unfold wrap64; omega) | (go_simp; simp only [ByteArray.size_extract]; unfold wrap64; omega)) ?_; (with_reducible refine (pax_TimeText.calls k a0 t489 _ ?side1 A9.out).mono ?_); (case side1 => exact Glob.to (by decide) HG.out (by repeat (first | (with_reducible first | exact HB.out | apply below_alloc | apply pw_below_drewN | apply below_drew1) | exact HB.out))); rintro e w14 ⟨rfl, hb⟩; refine ⟨_, rfl, ?_⟩; have n0_ := Aside0.mk (below_step (by repeat (first | (with_reducible first | exact HB.out | apply below_alloc | apply pw_below_drewN | apply below_drew1) | exact HB.out)) hb); clear HB; have HB := n0_; clear n0_; (try clear hb); (try clear hb2); (try clear hk); (try clear hi)) | ((with_reducible refine gate_callee (f := 30) rfl ?_); refine goesL_ (some 32) rfl rfl Tryd.func30 (by kernel_rfl) rfl #[.int .i64 a0] rfl (by (try simp only [List.map_toArray, List.map_cons, List.map_nil]); first | done | rfl | (simp only [List.length_drop, List.length_take]; rfl) | (go_simp; done) | (go_simp; unfold wrap64; omega) | (go_simp; simp only [ByteArray.size_extract]; unfold wrap64; omega)) ?_; (with_reducible refine (portmanteauref16_TimeText.calls k a0 t490 _ A10.out).mono ?_); rintro e w' ⟨rfl, ⟨nd, rfl⟩⟩; refine ⟨_, rfl, ?_⟩) | ((with_reducible refine gate_callee (f := 25) rfl ?_); refine goesL_ (some 36) rfl rfl Tryd.func25 (by kernel_rfl) rfl #[.string t489] rfl (by (try simp only [List.map_toArray, List.map_cons, List.map_nil]); first | done | rfl | (simp only [List.length_drop, List.length_take]; rfl) | (go_simp; done) | (go_simp; unfold wrap64; omega) | (go_simp; simp only [ByteArray.size_extract]; unfold wrap64; omega)) ?_; (with_reducible refine (pax_Time.calls k t489 t491 t492 _ ?side1 A12.out).mono ?_); (case side1 => exact Glob.to (by decide) HG.out (by repeat (first | (with_reducible first | exact HB.out | apply below_alloc | apply pw_below_drewN | apply below_drew1) | exact HB.out))); rintro e w15 ⟨rfl, hb⟩; refine ⟨_, rfl, ?_⟩; have n0_ := Aside0.mk (below_step (by repeat (first | (with_reducible first | exact HB.out | apply below_alloc | apply pw_below_drewN | apply below_drew1) | exact HB.out)) hb); clear HB; have HB := n0_; clear n0_; (try clear hb); (try clear hb2); (try clear hk); (try clear hi)))
      (try simp only [Act.put, List.setIfInBounds_toArray, List.set_cons_zero, List.set_cons_succ])
      go_cut [14] (fun v14 wc => ∃ (kq : Nat) (x14_12 : ByteArray), v14 = .string x14_12 ∧ Aside0 (portmanteaulaw18_PaxTimes.j1 kq a0 a1 a3 a4 t491 t492 x14_12 = some r) ∧ Aside0 (kq ≤ k) ∧ Aside0 (Below w.heap.size w wc))
      case first =>
        have H := HC13.out
        clear HC13
        have H' := Aside0.mk H
        clear H
        go_wp2
        go_loopg [14, 15] k (fun kq v14 v15 w' => ∃ (x14_1 : ByteArray) (x15_1 : Int), v14 = .string x14_1 ∧ v15 = .int .i64 x15_1 ∧ Aside0 (portmanteaulaw18_PaxTimes.l0 kq a0 a1 l2 a3 a4 t491 t492 x14_1 x15_1 = some r) ∧ Aside0 (kq ≤ k) ∧ Aside0 (Below w.heap.size w w'))
        case atStart => exact ⟨((⟨#[]⟩ : ByteArray)), (0), (by first | rfl | (simp; done) | (simp [ba_mk_size]; done) | (simp [ba_bne, ba_beq]; done) | (simp [*]; done)), (by first | rfl | (simp; done) | (simp [ba_mk_size]; done) | (simp [ba_bne, ba_beq]; done) | (simp [*]; done)), H', ⟨Nat.le_refl _⟩, ⟨by repeat (first | (with_reducible first | exact HB.out | apply below_alloc | apply pw_below_drewN | apply below_drew1) | exact HB.out)⟩⟩
        case round =>
          clear H'
          try clear c1
          try clear c2
          try clear p2
          try clear c3
          try clear c6
          try clear c6b0
          try clear c6b1
          try clear c10
          try clear c11
          try clear c11b0
          try clear c11b1
          try clear HB
          try clear HB
          skip -- xfix
          obtain ⟨x14_1, x15_1, rfl, rfl, HA, HK1, HB⟩ := hrel
          cases gk with
          | zero => exact absurd HA.out (by simp [portmanteaulaw18_PaxTimes.l0])
          | succ k1 =>
            have H := HA.out
            clear HA
            simp only [portmanteaulaw18_PaxTimes.l0] at H
            by_cases c16 : x15_1 < (l2.length : Int)
            · rw [if_pos c16] at H
              have c16b0 : decide (x15_1 < (l2.length : Int)) = true := decide_eq_true c16
              clear c16
              (first | rw [c16b0] | (simp only [i64_w, i32_w]; rw [c16b0]) | skip)
              by_cases c17 : x15_1 < 32
              · rw [if_pos c17] at H
                have c17b0 : decide (x15_1 < 32) = true := decide_eq_true c17
                clear c17
                by_cases c18 : 0 ≤ x15_1
                · rw [if_pos c18] at H
                  have c18b0 : decide (0 ≤ x15_1) = true := decide_eq_true c18
                  clear c18
                  obtain ⟨ji19, hji19⟩ : ∃ j_ : Int, (Int.tmod (Go.bits .and .i64 (rd l2 x15_1) 255) 12) = j_ := ⟨_, rfl⟩
                  replace H : (if 0 ≤ (ji19) then (if (ji19) ≤ (wrap64 ((ji19) + 1)) then (if (wrap64 ((ji19) + 1)) ≤ 12 then (if x14_1.size + ((⟨#[48, 49, 50, 51, 52, 53, 54, 55, 56, 57, 46, 45]⟩ : ByteArray).extract ((ji19) : Int).toNat ((wrap64 ((ji19) + 1)) : Int).toNat).size ≤ 9223372036854775807 then (portmanteaulaw18_PaxTimes.l0 k1 a0 a1 l2 a3 a4 t491 t492 (x14_1 ++ ((⟨#[48, 49, 50, 51, 52, 53, 54, 55, 56, 57, 46, 45]⟩ : ByteArray).extract ((ji19) : Int).toNat ((wrap64 ((ji19) + 1)) : Int).toNat)) (wrap64 (x15_1 + 1))) else (none)) else (none)) else (none)) else (none)) = some r := by first | (rw [hji19] at H; exact H) | (simp only [hji19] at H ⊢; exact H)
                  by_cases c20 : 0 ≤ (ji19)
                  · rw [if_pos c20] at H
                    have c20b0 := eq_true c20
                    have c20b1 : decide (0 ≤ (ji19)) = true := decide_eq_true c20
                    clear c20
                    by_cases c21 : (ji19) ≤ (wrap64 ((ji19) + 1))
                    · rw [if_pos c21] at H
                      have c21b0 := eq_true c21
                      have c21b1 : decide ((ji19) ≤ (wrap64 ((ji19) + 1))) = true := decide_eq_true c21
                      by_cases c22 : (wrap64 ((ji19) + 1)) ≤ 12
                      · rw [if_pos c22] at H
                        have c22b0 := eq_true c22
                        have c22b1 : decide ((wrap64 ((ji19) + 1)) ≤ 12) = true := decide_eq_true c22
                        by_cases c23 : x14_1.size + ((⟨#[48, 49, 50, 51, 52, 53, 54, 55, 56, 57, 46, 45]⟩ : ByteArray).extract ((ji19) : Int).toNat ((wrap64 ((ji19) + 1)) : Int).toNat).size ≤ 9223372036854775807
                        · rw [if_pos c23] at H
                          have c23b0 := eq_true c23
                          (try (have c23b0s := c23b0; simp only [ByteArray.size_append, ByteArray.size_extract, Int.natCast_add, Int.cast_ofNat_Int, Nat.reduceAdd, Nat.min_self, Nat.le_add_left, Nat.le_add_right, Nat.min_eq_left, Nat.min_eq_right, Nat.zero_add, Nat.sub_zero, ba_mk_size, List.length_cons, List.length_nil] at c23b0s)) -- xfix5
                          have c23b1 : decide (x14_1.size + ((⟨#[48, 49, 50, 51, 52, 53, 54, 55, 56, 57, 46, 45]⟩ : ByteArray).extract ((ji19) : Int).toNat ((wrap64 ((ji19) + 1)) : Int).toNat).size ≤ 9223372036854775807) = true := decide_eq_true c23
                          (try (have c23b1s := c23b1; simp only [ByteArray.size_append, ByteArray.size_extract, Int.natCast_add, Int.cast_ofNat_Int, Nat.reduceAdd, Nat.min_self, Nat.le_add_left, Nat.le_add_right, Nat.min_eq_left, Nat.min_eq_right, Nat.zero_add, Nat.sub_zero, ba_mk_size, List.length_cons, List.length_nil] at c23b1s)) -- xfix5
                          try have c23b2 : (9223372036854775807 < x14_1.size + ((⟨#[48, 49, 50, 51, 52, 53, 54, 55, 56, 57, 46, 45]⟩ : ByteArray).extract ((ji19) : Int).toNat ((wrap64 ((ji19) + 1)) : Int).toNat).size) = False := eq_false (Nat.not_lt.2 c23)
                          (try (have c23b2s := c23b2; simp only [ByteArray.size_append, ByteArray.size_extract, Int.natCast_add, Int.cast_ofNat_Int, Nat.reduceAdd, Nat.min_self, Nat.le_add_left, Nat.le_add_right, Nat.min_eq_left, Nat.min_eq_right, Nat.zero_add, Nat.sub_zero, ba_mk_size, List.length_cons, List.length_nil] at c23b2s)) -- xfix5
                          have H' := Aside0.mk H
                          clear H
                          have p493 : 0 ≤ (x15_1 : Int) := of_decide_eq_true (by first | (with_reducible assumption) | assumption)
                          have q493 : x15_1 < (l2.length : Int) := of_decide_eq_true (by first | (with_reducible assumption) | assumption)
                          obtain ⟨ad493, e493, hx493_0⟩ := Kd.at_int HR2.out x15_1 p493 q493
                          cases e493
                          replace hx493_0 := (HB.out.cell (World.block_lt_of_cell? w _ hx493_0)).trans hx493_0
                          replace p493 := eq_true p493
                          (try (have p493s := p493; simp only [ByteArray.size_append, ByteArray.size_extract, Int.natCast_add, Int.cast_ofNat_Int, Nat.reduceAdd, Nat.min_self, Nat.le_add_left, Nat.le_add_right, Nat.min_eq_left, Nat.min_eq_right, Nat.zero_add, Nat.sub_zero, ba_mk_size, List.length_cons, List.length_nil] at p493s)) -- xfix5
                          replace q493 := eq_true q493
                          (try (have q493s := q493; simp only [ByteArray.size_append, ByteArray.size_extract, Int.natCast_add, Int.cast_ofNat_Int, Nat.reduceAdd, Nat.min_self, Nat.le_add_left, Nat.le_add_right, Nat.min_eq_left, Nat.min_eq_right, Nat.zero_add, Nat.sub_zero, ba_mk_size, List.length_cons, List.length_nil] at q493s)) -- xfix5
                          go_wp2
                          go_roundg k1
                          case measure => have := HK1.out; omega
                          case rel => exact ⟨(x14_1 ++ ((⟨#[48, 49, 50, 51, 52, 53, 54, 55, 56, 57, 46, 45]⟩ : ByteArray).extract ((ji19) : Int).toNat ((wrap64 ((ji19) + 1)) : Int).toNat)), (wrap64 (x15_1 + 1)), (by first | rfl | (simp; done) | (simp [ba_mk_size]; done) | (simp only [← hji19] <;> (first | rfl | simp)) | (simp [*]; done)), (by first | rfl | (simp; done) | (simp [ba_mk_size]; done) | (simp [ba_bne, ba_beq]; done) | (simp [*]; done)), H', ⟨by have := HK1.out; omega⟩, ⟨by repeat (first | (with_reducible first | exact HB.out | apply below_alloc | apply pw_below_drewN | apply below_drew1) | exact HB.out)⟩⟩
                        · rw [if_neg c23] at H
                          exact absurd H (by simp)
                      · rw [if_neg c22] at H
                        exact absurd H (by simp)
                    · rw [if_neg c21] at H
                      exact absurd H (by simp)
                  · rw [if_neg c20] at H
                    exact absurd H (by simp)
                · rw [if_neg c18] at H
                  exact absurd H (by simp)
              · rw [if_neg c17] at H
                have c17b0 : decide (x15_1 < 32) = false := decide_eq_false c17
                clear c17
                have H' := Aside0.mk H
                clear H
                go_wp2
                go_meet
                case rel => exact ⟨_, (x14_1), (by first | rfl | (simp; done) | (simp [ba_mk_size]; done) | (simp [ba_bne, ba_beq]; done) | (simp [*]; done)), H', ⟨by have := HK1.out; first | omega | exact Nat.le_refl _⟩, ⟨by repeat (first | (with_reducible first | exact HB.out | apply below_alloc | apply pw_below_drewN | apply below_drew1) | exact HB.out)⟩⟩
            · rw [if_neg c16] at H
              have c16b0 : decide (x15_1 < (l2.length : Int)) = false := decide_eq_false c16
              clear c16
              (first | rw [c16b0] | (simp only [i64_w, i32_w]; rw [c16b0]) | skip)
              have H' := Aside0.mk H
              clear H
              go_wp2
              go_meet
              case rel => exact ⟨_, (x14_1), (by first | rfl | (simp; done) | (simp [ba_mk_size]; done) | (simp [ba_bne, ba_beq]; done) | (simp [*]; done)), H', ⟨by have := HK1.out; first | omega | exact Nat.le_refl _⟩, ⟨by repeat (first | (with_reducible first | exact HB.out | apply below_alloc | apply pw_below_drewN | apply below_drew1) | exact HB.out)⟩⟩
      case rest =>
        clear HC13
        try clear c1
        try clear c2
        try clear p2
        try clear c3
        try clear p4
        try clear q4
        try clear hx4
        try clear c6
        try clear c6b0
        try clear c6b1
        try clear p6
        try clear c10
        try clear c11
        try clear c11b0
        try clear c11b1
        try clear c16
        try clear c16b0
        try clear c17
        try clear c17b0
        try clear c18
        try clear c18b0
        try clear c20
        try clear c20b0
        try clear c20b1
        try clear c21
        try clear c21b0
        try clear c21b1
        try clear c22
        try clear c22b0
        try clear c22b1
        try clear c23
        try clear c23b0
        try clear c23b1
        try clear c23b2
        try clear hx493_0
        try clear p2
        try clear p493
        try clear q493
        try clear HB
        try clear HB
        skip -- xfix
        obtain ⟨kq, x14_12, rfl, HA, HJ12, HB⟩ := hcut
        cases kq with
        | zero => exact absurd HA.out (by simp [portmanteaulaw18_PaxTimes.j1])
        | succ kj12 =>
          have H := HA.out
          clear HA
          simp only [portmanteaulaw18_PaxTimes.j1] at H
          replace H := Option.bind_eq_some_iff.mp H
          obtain ⟨t494, A240, H⟩ := H
          replace H : ((conv_S.f t494).bind fun t495 => (if (t495.length : Int) = 0 then (none) else (if 0 ≤ (Int.tmod (Go.bits .and .i64 a3 255) (t495.length : Int)) then (if (Int.tmod (Go.bits .and .i64 a3 255) (t495.length : Int)) < (t495.length : Int) then (portmanteaulaw18_PaxTimes.l1 kj12 a0 a1 t491 t492 x14_12 (t495.set ((Int.tmod (Go.bits .and .i64 a3 255) (t495.length : Int)) : Int).toNat (Go.bits .xor .u8 (rd t495 (Int.tmod (Go.bits .and .i64 a3 255) (t495.length : Int))) a4)) 0) else (none)) else (none)))) = some r := H
          have A24 := Aside0.mk A240
          clear A240
          replace H := Option.bind_eq_some_iff.mp H
          obtain ⟨t495, A250, H⟩ := H
          replace H : (if (t495.length : Int) = 0 then (none) else (if 0 ≤ (Int.tmod (Go.bits .and .i64 a3 255) (t495.length : Int)) then (if (Int.tmod (Go.bits .and .i64 a3 255) (t495.length : Int)) < (t495.length : Int) then (portmanteaulaw18_PaxTimes.l1 kj12 a0 a1 t491 t492 x14_12 (t495.set ((Int.tmod (Go.bits .and .i64 a3 255) (t495.length : Int)) : Int).toNat (Go.bits .xor .u8 (rd t495 (Int.tmod (Go.bits .and .i64 a3 255) (t495.length : Int))) a4)) 0) else (none)) else (none))) = some r := H
          have A25 := Aside0.mk A250
          clear A250
          by_cases c26 : (t495.length : Int) = 0
          · rw [if_pos c26] at H
            exact absurd H (by simp)
          · rw [if_neg c26] at H
            have c26b0 : ((t495.length : Int) == 0) = false := beq_eq_false_iff_ne.mpr c26
            have c26b1 : ((t495.length : Int) != 0) = true := bne_iff_ne.mpr c26
            have c26b2 : ¬ (t495 = []) := fun h_ => c26 (by rw [h_]; rfl)
            obtain ⟨ji27, hji27⟩ : ∃ j_ : Int, (Int.tmod (Go.bits .and .i64 a3 255) (t495.length : Int)) = j_ := ⟨_, rfl⟩
            replace H : (if 0 ≤ (ji27) then (if (ji27) < (t495.length : Int) then (portmanteaulaw18_PaxTimes.l1 kj12 a0 a1 t491 t492 x14_12 (t495.set ((ji27) : Int).toNat (Go.bits .xor .u8 (rd t495 (ji27)) a4)) 0) else (none)) else (none)) = some r := by first | (rw [hji27] at H; exact H) | (simp only [hji27] at H ⊢; exact H)
            (try rw [hji27] at A24)
            (try rw [hji27] at A25)
            by_cases c28 : 0 ≤ (ji27)
            · rw [if_pos c28] at H
              have c28b0 : decide (0 ≤ (ji27)) = true := decide_eq_true c28
              clear c28
              by_cases c29 : (ji27) < (t495.length : Int)
              · rw [if_pos c29] at H
                have c29b0 : decide ((ji27) < (t495.length : Int)) = true := decide_eq_true c29
                clear c29
                obtain ⟨y499, hy499⟩ : ∃ y_ : List Int, y_ = (t495.set ((ji27) : Int).toNat (Go.bits .xor .u8 (rd t495 (ji27)) a4)) := ⟨_, rfl⟩
                replace H : (portmanteaulaw18_PaxTimes.l1 kj12 a0 a1 t491 t492 x14_12 y499 0) = some r := by first | (rw [hy499]; with_reducible exact H) | (have H2_ := (Option.bind_some _ _).symm.trans H; rw [hy499]; with_reducible exact H2_) | (have H2_ := (Option.bind_some _ _).symm.trans H; with_reducible exact H2_) | with_reducible exact H | (rw [hy499]; exact H) | exact H
                have Ny499 := Aside0.mk hy499
                clear hy499
                have H' := Aside0.mk H
                clear H
                go_wp2_with (first | ((with_reducible refine gate_callee (f := 30) rfl ?_); refine goesL_ (some 62) rfl rfl Tryd.func30 (by kernel_rfl) rfl #[.int .i64 a0] rfl (by (try simp only [List.map_toArray, List.map_cons, List.map_nil]); first | done | rfl | (simp only [List.length_drop, List.length_take]; rfl) | (go_simp; done) | (go_simp; unfold wrap64; omega) | (go_simp; simp only [ByteArray.size_extract]; unfold wrap64; omega)) ?_; (with_reducible refine (portmanteauref16_TimeText.calls kj12 a0 t494 _ A24.out).mono ?_); rintro e w' ⟨rfl, ⟨nd, rfl⟩⟩; refine ⟨_, rfl, ?_⟩; (try (rw [drewN_self wc]; generalize hq_ : World.drewN wc _ = wc; have n0_ : Aside0 (Below w.heap.size w wc) := ⟨by rw [← hq_]; exact (by repeat (first | (with_reducible first | exact HB.out | apply below_alloc | apply pw_below_drewN | apply below_drew1) | exact HB.out))⟩; clear HB hq_; have HB := n0_; clear n0_))) | ((with_reducible refine gate_dst (N := 63) rfl ?_); refine conv_ev_SZ 9 22 5 5 Tryd.underlying9 Tryd.underlying22 Tryd.underlying5 rfl _ rfl (N := 63) rfl rfl t494 rfl _ A25.out ?_; rintro e w31 ⟨v496, rfl, ho0, hb⟩; refine ⟨_, rfl, ?_⟩; have n0_ := Aside0.mk (Kd.Z_lower (Kd.Z_mono (ok' := fun k_ => True) ho0 (fun _ hk_ => trivial)) (below_size (by repeat (first | (with_reducible first | exact HB.out | apply below_alloc | apply pw_below_drewN | apply below_drew1) | exact HB.out)))); have n1_ := Aside0.mk (below_step (by repeat (first | (with_reducible first | exact HB.out | apply below_alloc | apply pw_below_drewN | apply below_drew1) | exact HB.out)) hb); clear HB; have HO497 := n0_; have HB := n1_; clear n0_ n1_; (try clear hb); (try clear hb2); (try clear hk); (try clear hi); (try clear ho0); obtain ⟨Ao32, co32, eo32⟩ := Kd.Z_slice HO497.out; subst eo32; have p498 : 0 ≤ ((ji27) : Int) := of_decide_eq_true (by first | (with_reducible assumption) | assumption); have q498 : (ji27) < (t495.length : Int) := of_decide_eq_true (by first | (with_reducible assumption) | assumption); obtain ⟨ad498, e498, hx498_0⟩ := Kd.at_int (Kd.Z_reads' HO497.out).2.2 (ji27) p498 q498; cases e498; replace p498 := eq_true p498; replace q498 := eq_true q498; have p30 : 0 ≤ ((ji27) : Int) := of_decide_eq_true (by first | (with_reducible assumption) | assumption); have q30 : ((ji27) : Int) < ((t495.length : Int) : Int) := of_decide_eq_true (by first | (with_reducible assumption) | assumption); obtain ⟨go30, co30, eo30, gb30, gl30, cl30, HG30⟩ := Kd.Z_form HO497.out (by omega); (first | cases eo30 | (injection eo30 with ea_ en_ ec_; (first | subst ea_ | (injection ea_ with ea_; subst ea_)); subst ec_; clear en_)); have GB30 := Aside0.mk gb30; have GG30 := Aside0.mk HG30; clear gb30 gl30 HG30; (first | simp only [add_plain] at hx498_0 | skip); obtain ⟨hx30_0, hf30_0⟩ := Kd.Z_celln 0 HO497.out ((ji27) : Int) p30 q30; replace p30 := eq_true p30; replace q30 := eq_true q30; obtain ⟨hy33_, hz33_⟩ := Kd.Z_celln 0 HO497.out ((ji27) : Int) (of_decide_eq_true (by first | (with_reducible assumption) | assumption)) (of_decide_eq_true (by first | (with_reducible assumption) | assumption)); have HP33 := Kd.Z_putg HO497.out ((ji27) : Int) (Go.bits .xor .u8 (rd t495 (ji27)) a4)) | ((with_reducible refine gate_store (t := 5) (p := 74) rfl ?_); refine store_event (t := 5) (p := 74) (v := ?vo_w34) (w1 := (w31.setCell ⟨go30, ((ji27) : Int).toNat, none⟩ (.int .u8 (Go.bits .xor .u8 (rd t495 (ji27)) a4)))) ?hg ?ho ?hn ?hr ?_; (case ho => rfl); (case hg => rfl); (case hn => rfl); (case hr => first | (go_simp; done) | (go_simp; rfl)); intro w34 hw; have hg : w31.grownBy w34 (some go30) := (by rw [hw]; exact HP33.2); have hp_ : Kd.Z (Kd.int .u8) 5 w34 w.heap.size (fun _ => True) (.slice (some ⟨go30, 0, none⟩) t495.length co32) y499 := (by rw [hw, Ny499.out]; exact HP33.1); clear HP33; have n0_ := Aside0.mk (hp_); have n1_ := Aside0.mk ((by rw [hw]; exact below_set (HB.out) GB30.out : Below w.heap.size w w34)); clear HO497; clear HB; have HO497 := n0_; have HB := n1_; clear n0_ n1_; clear hg hw hp_))
                go_loopg [18] kj12 (fun kq v18 w' => ∃ (x18_2 : Int), v18 = .int .i64 x18_2 ∧ Aside0 (portmanteaulaw18_PaxTimes.l1 kq a0 a1 t491 t492 x14_12 y499 x18_2 = some r) ∧ Aside0 (kq ≤ kj12) ∧ Aside0 (Kd.Z (Kd.int .u8) 5 w' w.heap.size (fun _ => True) (.slice (some ⟨go30, 0, none⟩) t495.length co32) y499) ∧ Aside0 (Below w.heap.size w w'))
                case atStart => exact ⟨(0), (by first | rfl | (simp; done) | (simp [ba_mk_size]; done) | (simp [ba_bne, ba_beq]; done) | (simp [*]; done)), H', ⟨Nat.le_refl _⟩, ⟨by (with_reducible repeat (first | apply Kd.Z_alloc | apply Kd.Z_drewN | apply Kd.Z_drew)); exact HO497.out⟩, ⟨by repeat (first | (with_reducible first | exact HB.out | apply below_alloc | apply pw_below_drewN | apply below_drew1) | exact HB.out)⟩⟩
                case round =>
                  clear H'
                  try clear c1
                  try clear c2
                  try clear p2
                  try clear c3
                  try clear p3
                  try clear q3
                  try clear hx3
                  try clear p4
                  try clear q4
                  try clear hx4
                  try clear c6
                  try clear c6b0
                  try clear c6b1
                  try clear p6
                  try clear c10
                  try clear c11
                  try clear c11b0
                  try clear c11b1
                  try clear c16
                  try clear c16b0
                  try clear c17
                  try clear c17b0
                  try clear c18
                  try clear c18b0
                  try clear c20
                  try clear c20b0
                  try clear c20b1
                  try clear c21
                  try clear c21b0
                  try clear c21b1
                  try clear c22
                  try clear c22b0
                  try clear c22b1
                  try clear c23
                  try clear c23b0
                  try clear c23b1
                  try clear c23b2
                  try clear c25
                  try clear c26
                  try clear c26b0
                  try clear c26b1
                  try clear c26b2
                  try clear c28
                  try clear c28b0
                  try clear c29
                  try clear c29b0
                  try clear c30
                  try clear p30
                  try clear q30
                  try clear hx30
                  try clear hf30
                  try clear hx30_0
                  try clear hx493_0
                  try clear hx498_0
                  try clear p2
                  try clear p30
                  try clear p4
                  try clear p493
                  try clear p498
                  try clear p6
                  try clear q30
                  try clear q4
                  try clear q493
                  try clear q498
                  try clear HO_17
                  try clear HO_17
                  try clear HB
                  try clear HB
                  skip -- xfix
                  obtain ⟨x18_2, rfl, HA, HK2, HO_17, HB⟩ := hrel
                  have hl17_2 := (Kd.Z_reads' HO_17.out).1
                  rw [hl17_2] at HO_17
                  (try simp only [hl17_2])
                  cases gk with
                  | zero => exact absurd HA.out (by simp [portmanteaulaw18_PaxTimes.l1])
                  | succ k2 =>
                    have H := HA.out
                    clear HA
                    simp only [portmanteaulaw18_PaxTimes.l1] at H
                    by_cases c35 : x18_2 < 3
                    · rw [if_pos c35] at H
                      have c35b0 : decide (x18_2 < 3) = true := decide_eq_true c35
                      clear c35
                      obtain ⟨y501, hy501⟩ : ∃ y_ : List ByteArray, y_ = (([a1, x14_12, strOfNums y499] : List ByteArray)) := ⟨_, rfl⟩
                      replace H : (if 0 ≤ x18_2 then (if x18_2 < (y501.length : Int) then ((pax_Time.f k2 (rdOf ByteArray.empty y501 x18_2)).bind fun bt505 => ((portmanteauref16_Time.f k2 (rdOf ByteArray.empty y501 x18_2)).bind fun bt507 => (if (bt505.2 != bt507.2) = true then (some false) else (if bt505.1 = bt507.1 then (portmanteaulaw18_PaxTimes.l1 k2 a0 a1 t491 t492 x14_12 y499 (wrap64 (x18_2 + 1))) else (some false))))) else (none)) else (none)) = some r := by first | (rw [hy501]; with_reducible exact H) | (have H2_ := (Option.bind_some _ _).symm.trans H; rw [hy501]; with_reducible exact H2_) | (have H2_ := (Option.bind_some _ _).symm.trans H; with_reducible exact H2_) | with_reducible exact H | (rw [hy501]; exact H) | exact H
                      have Ny501 := Aside0.mk hy501
                      clear hy501
                      by_cases c36 : 0 ≤ x18_2
                      · rw [if_pos c36] at H
                        have c36b0 : decide (0 ≤ x18_2) = true := decide_eq_true c36
                        clear c36
                        by_cases c37 : x18_2 < (y501.length : Int)
                        · rw [if_pos c37] at H
                          have c37b0 : decide (x18_2 < (y501.length : Int)) = true := decide_eq_true c37
                          clear c37
                          replace H := Option.bind_eq_some_iff.mp H
                          obtain ⟨⟨t505, t506⟩, A380, H⟩ := H
                          replace H : ((portmanteauref16_Time.f k2 (rdOf ByteArray.empty y501 x18_2)).bind fun bt507 => (if (t506 != bt507.2) = true then (some false) else (if t505 = bt507.1 then (portmanteaulaw18_PaxTimes.l1 k2 a0 a1 t491 t492 x14_12 y499 (wrap64 (x18_2 + 1))) else (some false)))) = some r := H
                          have A38 := Aside0.mk A380
                          clear A380
                          replace H := Option.bind_eq_some_iff.mp H
                          obtain ⟨⟨t507, t508⟩, A390, H⟩ := H
                          replace H : (if (t506 != t508) = true then (some false) else (if t505 = t507 then (portmanteaulaw18_PaxTimes.l1 k2 a0 a1 t491 t492 x14_12 y499 (wrap64 (x18_2 + 1))) else (some false))) = some r := H
                          have A39 := Aside0.mk A390
                          clear A390
                          by_cases c40 : (t506 != t508) = true
                          · rw [if_pos c40] at H
                            have c40b0 : (t506 != t508) = true := c40
                            (try (have c40b1 : decide (t506 = t508) = false := by simpa using c40))
                            (try (have c40b2 : (t506 == t508) = false := by simpa using c40))
                            (try (have c40b3 : ¬ (t506 = t508) := by simpa using c40))
                            clear c40
                            obtain rfl := Option.some.inj H
                            have hcv41 := fun (m_ : Nat) => Kd.C_string (P := Tryd.prog) (A := (some ⟨go30, 0, none⟩)) (c := co32) Tryd.underlying22 Tryd.underlying5 Tryd.underlying9 (Kd.Z_reads' (Kd.Z_drewN HO_17.out m_)).2.2
                            have hcv42 := Kd.C_string (P := Tryd.prog) (A := (some ⟨go30, 0, none⟩)) (c := co32) Tryd.underlying22 Tryd.underlying5 Tryd.underlying9 (Kd.Z_reads' HO_17.out).2.2; (try (have hcv42q := hcv42; simp (disch := first | assumption | exact Int.toNat_le.2 (of_decide_eq_true (by assumption))) only [List.length_take, List.length_drop, Nat.min_eq_left] at hcv42q))
                            go_wp2_with (first | ((with_reducible refine gate_dst (N := 83) rfl ?_); refine Kd.R_lit Kd.string _ 9 ?hg (N := 83) ?hd (xs := ([a1, x14_12, strOfNums y499] : List ByteArray)) (inner := [.string a1, .string x14_12, .string (strOfNums y499)]) (ok := fun _ => True) (okp := fun _ => True) ?hr ?hp (fun _ hk => hk) trivial (Below.refl _ _) (Nat.le_refl _) (by simp) ?_; (case hd => rfl); (case hg => rfl); (case hr => first | (go_simp; done) | (go_simp; rfl)); (case hp => exact (Reps.one (show Kd.M Kd.string _ _ _ a1 [.string a1] from rfl) (Reps.one (show Kd.M Kd.string _ _ _ x14_12 [.string x14_12] from rfl) (Reps.one (show Kd.M Kd.string _ _ _ (strOfNums y499) [.string (strOfNums y499)] from rfl) (Reps.none _ _))))); intro v502 w43 ho44 hb hg_ hnew_; clear hg_ hnew_; (first | rw [← Ny501.out] at ho44 | (simp only [Int.reduceToNat] at ho44; rw [← Ny501.out] at ho44)); have n0_ := Aside0.mk (Kd.Z_below (by (with_reducible repeat (first | apply Kd.Z_alloc | apply Kd.Z_drewN | apply Kd.Z_drew)); exact HO_17.out) hb); have n1_ := Aside0.mk (Kd.R_lower ho44 (below_size (by repeat (first | (with_reducible first | exact HB.out | apply below_alloc | apply pw_below_drewN | apply below_drew1) | exact HB.out)))); have n2_ := Aside0.mk (below_step (by repeat (first | (with_reducible first | exact HB.out | apply below_alloc | apply pw_below_drewN | apply below_drew1) | exact HB.out)) hb); clear HO_17; clear HB; have HO_17 := n0_; have HO503 := n1_; have HB := n2_; clear n0_ n1_ n2_; clear hb ho44; obtain ⟨Ao45, co45, eo45⟩ := Kd.R_slice HO503.out; subst eo45; have p504 : 0 ≤ (x18_2 : Int) := of_decide_eq_true (by first | (with_reducible assumption) | assumption); have q504 : x18_2 < (y501.length : Int) := of_decide_eq_true (by first | (with_reducible assumption) | assumption); obtain ⟨ad504, e504, hx504_0⟩ := Kd.at_string (Kd.R_reads' HO503.out).2.2 x18_2 p504 q504; cases e504; replace p504 := eq_true p504; replace q504 := eq_true q504) | ((with_reducible refine gate_callee (f := 25) rfl ?_); refine goesL_ (some 89) rfl rfl Tryd.func25 (by kernel_rfl) rfl #[.string (rdOf ByteArray.empty y501 x18_2)] rfl (by (try simp only [List.map_toArray, List.map_cons, List.map_nil]); first | done | rfl | (simp only [List.length_drop, List.length_take]; rfl) | (go_simp; done) | (go_simp; unfold wrap64; omega) | (go_simp; simp only [ByteArray.size_extract]; unfold wrap64; omega)) ?_; (with_reducible refine (pax_Time.calls k2 (rdOf ByteArray.empty y501 x18_2) t505 t506 _ ?side1 A38.out).mono ?_); (case side1 => exact Glob.to (by decide) HG.out (by repeat (first | (with_reducible first | exact HB.out | apply below_alloc | apply pw_below_drewN | apply below_drew1) | exact HB.out))); rintro e w46 ⟨rfl, hb⟩; refine ⟨_, rfl, ?_⟩; have n0_ := Aside0.mk (Kd.Z_below (by (with_reducible repeat (first | apply Kd.Z_alloc | apply Kd.Z_drewN | apply Kd.Z_drew)); exact HO_17.out) hb); have n1_ := Aside0.mk (Kd.R_below (by (with_reducible repeat (first | apply Kd.R_alloc | apply Kd.R_drewN | apply Kd.R_drew)); exact HO503.out) hb); have n2_ := Aside0.mk (below_step (by repeat (first | (with_reducible first | exact HB.out | apply below_alloc | apply pw_below_drewN | apply below_drew1) | exact HB.out)) hb); clear HO_17; clear HO503; clear HB; have HO_17 := n0_; have HO503 := n1_; have HB := n2_; clear n0_ n1_ n2_; (try clear hb); (try clear hb2); (try clear hk); (try clear hi)) | ((with_reducible refine gate_callee (f := 31) rfl ?_); refine goesL_ (some 94) rfl rfl Tryd.func31 (by kernel_rfl) rfl #[.string (rdOf ByteArray.empty y501 x18_2)] rfl (by (try simp only [List.map_toArray, List.map_cons, List.map_nil]); first | done | rfl | (simp only [List.length_drop, List.length_take]; rfl) | (go_simp; done) | (go_simp; unfold wrap64; omega) | (go_simp; simp only [ByteArray.size_extract]; unfold wrap64; omega)) ?_; (with_reducible refine (portmanteauref16_Time.calls k2 (rdOf ByteArray.empty y501 x18_2) t507 t508 _ A39.out).mono ?_); rintro e w' ⟨rfl, ⟨nd, rfl⟩⟩; refine ⟨_, rfl, ?_⟩))
                            go_ret
                            exact ⟨by first | rfl | (simp [errW_none, errW_some] <;> rfl) | (simp only [← hji27]; first | rfl | (simp [errW_none, errW_some] <;> rfl)) | (simp [*, errW_none, errW_some] <;> rfl) | (simp [errW_none, errW_some, ba_bne, ba_beq]; done), by repeat (first | (with_reducible first | exact HB.out | apply below_alloc | apply pw_below_drewN | apply below_drew1) | exact HB.out)⟩
                          · rw [if_neg c40] at H
                            have c40b0 : (t506 != t508) = false := by simpa using c40
                            (try (have c40b1 : decide (t506 = t508) = true := by simpa using c40))
                            (try (have c40b2 : (t506 == t508) = true := by simpa using c40))
                            clear c40
                            by_cases c47 : t505 = t507
                            · rw [if_pos c47] at H
                              have c47b0 : (t505 == t507) = true := beq_iff_eq.mpr c47
                              have c47b1 : (t505 != t507) = false := bne_eq_false_iff_eq.mpr c47
                              clear c47
                              have H' := Aside0.mk H
                              clear H
                              have hcv48 := fun (m_ : Nat) => Kd.C_string (P := Tryd.prog) (A := (some ⟨go30, 0, none⟩)) (c := co32) Tryd.underlying22 Tryd.underlying5 Tryd.underlying9 (Kd.Z_reads' (Kd.Z_drewN HO_17.out m_)).2.2
                              have hcv49 := Kd.C_string (P := Tryd.prog) (A := (some ⟨go30, 0, none⟩)) (c := co32) Tryd.underlying22 Tryd.underlying5 Tryd.underlying9 (Kd.Z_reads' HO_17.out).2.2; (try (have hcv49q := hcv49; simp (disch := first | assumption | exact Int.toNat_le.2 (of_decide_eq_true (by assumption))) only [List.length_take, List.length_drop, Nat.min_eq_left] at hcv49q))
                              go_wp2_with (first | ((with_reducible refine gate_dst (N := 83) rfl ?_); refine Kd.R_lit Kd.string _ 9 ?hg (N := 83) ?hd (xs := ([a1, x14_12, strOfNums y499] : List ByteArray)) (inner := [.string a1, .string x14_12, .string (strOfNums y499)]) (ok := fun _ => True) (okp := fun _ => True) ?hr ?hp (fun _ hk => hk) trivial (Below.refl _ _) (Nat.le_refl _) (by simp) ?_; (case hd => rfl); (case hg => rfl); (case hr => first | (go_simp; done) | (go_simp; rfl)); (case hp => exact (Reps.one (show Kd.M Kd.string _ _ _ a1 [.string a1] from rfl) (Reps.one (show Kd.M Kd.string _ _ _ x14_12 [.string x14_12] from rfl) (Reps.one (show Kd.M Kd.string _ _ _ (strOfNums y499) [.string (strOfNums y499)] from rfl) (Reps.none _ _))))); intro v502 w50 ho51 hb hg_ hnew_; clear hg_ hnew_; (first | rw [← Ny501.out] at ho51 | (simp only [Int.reduceToNat] at ho51; rw [← Ny501.out] at ho51)); have n0_ := Aside0.mk (Kd.Z_below (by (with_reducible repeat (first | apply Kd.Z_alloc | apply Kd.Z_drewN | apply Kd.Z_drew)); exact HO_17.out) hb); have n1_ := Aside0.mk (Kd.R_lower ho51 (below_size (by repeat (first | (with_reducible first | exact HB.out | apply below_alloc | apply pw_below_drewN | apply below_drew1) | exact HB.out)))); have n2_ := Aside0.mk (below_step (by repeat (first | (with_reducible first | exact HB.out | apply below_alloc | apply pw_below_drewN | apply below_drew1) | exact HB.out)) hb); clear HO_17; clear HB; have HO_17 := n0_; have HO503 := n1_; have HB := n2_; clear n0_ n1_ n2_; clear hb ho51; obtain ⟨Ao52, co52, eo52⟩ := Kd.R_slice HO503.out; subst eo52; have p504 : 0 ≤ (x18_2 : Int) := of_decide_eq_true (by first | (with_reducible assumption) | assumption); have q504 : x18_2 < (y501.length : Int) := of_decide_eq_true (by first | (with_reducible assumption) | assumption); obtain ⟨ad504, e504, hx504_0⟩ := Kd.at_string (Kd.R_reads' HO503.out).2.2 x18_2 p504 q504; cases e504; replace p504 := eq_true p504; replace q504 := eq_true q504) | ((with_reducible refine gate_callee (f := 25) rfl ?_); refine goesL_ (some 89) rfl rfl Tryd.func25 (by kernel_rfl) rfl #[.string (rdOf ByteArray.empty y501 x18_2)] rfl (by (try simp only [List.map_toArray, List.map_cons, List.map_nil]); first | done | rfl | (simp only [List.length_drop, List.length_take]; rfl) | (go_simp; done) | (go_simp; unfold wrap64; omega) | (go_simp; simp only [ByteArray.size_extract]; unfold wrap64; omega)) ?_; (with_reducible refine (pax_Time.calls k2 (rdOf ByteArray.empty y501 x18_2) t505 t506 _ ?side1 A38.out).mono ?_); (case side1 => exact Glob.to (by decide) HG.out (by repeat (first | (with_reducible first | exact HB.out | apply below_alloc | apply pw_below_drewN | apply below_drew1) | exact HB.out))); rintro e w53 ⟨rfl, hb⟩; refine ⟨_, rfl, ?_⟩; have n0_ := Aside0.mk (Kd.Z_below (by (with_reducible repeat (first | apply Kd.Z_alloc | apply Kd.Z_drewN | apply Kd.Z_drew)); exact HO_17.out) hb); have n1_ := Aside0.mk (Kd.R_below (by (with_reducible repeat (first | apply Kd.R_alloc | apply Kd.R_drewN | apply Kd.R_drew)); exact HO503.out) hb); have n2_ := Aside0.mk (below_step (by repeat (first | (with_reducible first | exact HB.out | apply below_alloc | apply pw_below_drewN | apply below_drew1) | exact HB.out)) hb); clear HO_17; clear HO503; clear HB; have HO_17 := n0_; have HO503 := n1_; have HB := n2_; clear n0_ n1_ n2_; (try clear hb); (try clear hb2); (try clear hk); (try clear hi)) | ((with_reducible refine gate_callee (f := 31) rfl ?_); refine goesL_ (some 94) rfl rfl Tryd.func31 (by kernel_rfl) rfl #[.string (rdOf ByteArray.empty y501 x18_2)] rfl (by (try simp only [List.map_toArray, List.map_cons, List.map_nil]); first | done | rfl | (simp only [List.length_drop, List.length_take]; rfl) | (go_simp; done) | (go_simp; unfold wrap64; omega) | (go_simp; simp only [ByteArray.size_extract]; unfold wrap64; omega)) ?_; (with_reducible refine (portmanteauref16_Time.calls k2 (rdOf ByteArray.empty y501 x18_2) t507 t508 _ A39.out).mono ?_); rintro e w' ⟨rfl, ⟨nd, rfl⟩⟩; refine ⟨_, rfl, ?_⟩))
                              (try simp only [← hl17_2])
                              go_roundg k2
                              case measure => have := HJ12.out; have := HK2.out; omega
                              case rel => exact ⟨(wrap64 (x18_2 + 1)), (by first | rfl | (simp; done) | (simp [ba_mk_size]; done) | (simp [ba_bne, ba_beq]; done) | (simp [*]; done)), H', ⟨by have := HJ12.out; have := HK2.out; omega⟩, ⟨by (try simp only [hl17_2]); (with_reducible repeat (first | apply Kd.Z_alloc | apply Kd.Z_drewN | apply Kd.Z_drew)); exact HO_17.out⟩, ⟨by repeat (first | (with_reducible first | exact HB.out | apply below_alloc | apply pw_below_drewN | apply below_drew1) | exact HB.out)⟩⟩
                            · rw [if_neg c47] at H
                              have c47b0 : (t505 == t507) = false := beq_eq_false_iff_ne.mpr c47
                              have c47b1 : (t505 != t507) = true := bne_iff_ne.mpr c47
                              obtain rfl := Option.some.inj H
                              have hcv54 := fun (m_ : Nat) => Kd.C_string (P := Tryd.prog) (A := (some ⟨go30, 0, none⟩)) (c := co32) Tryd.underlying22 Tryd.underlying5 Tryd.underlying9 (Kd.Z_reads' (Kd.Z_drewN HO_17.out m_)).2.2
                              have hcv55 := Kd.C_string (P := Tryd.prog) (A := (some ⟨go30, 0, none⟩)) (c := co32) Tryd.underlying22 Tryd.underlying5 Tryd.underlying9 (Kd.Z_reads' HO_17.out).2.2; (try (have hcv55q := hcv55; simp (disch := first | assumption | exact Int.toNat_le.2 (of_decide_eq_true (by assumption))) only [List.length_take, List.length_drop, Nat.min_eq_left] at hcv55q))
                              go_wp2_with (first | ((with_reducible refine gate_dst (N := 83) rfl ?_); refine Kd.R_lit Kd.string _ 9 ?hg (N := 83) ?hd (xs := ([a1, x14_12, strOfNums y499] : List ByteArray)) (inner := [.string a1, .string x14_12, .string (strOfNums y499)]) (ok := fun _ => True) (okp := fun _ => True) ?hr ?hp (fun _ hk => hk) trivial (Below.refl _ _) (Nat.le_refl _) (by simp) ?_; (case hd => rfl); (case hg => rfl); (case hr => first | (go_simp; done) | (go_simp; rfl)); (case hp => exact (Reps.one (show Kd.M Kd.string _ _ _ a1 [.string a1] from rfl) (Reps.one (show Kd.M Kd.string _ _ _ x14_12 [.string x14_12] from rfl) (Reps.one (show Kd.M Kd.string _ _ _ (strOfNums y499) [.string (strOfNums y499)] from rfl) (Reps.none _ _))))); intro v502 w56 ho57 hb hg_ hnew_; clear hg_ hnew_; (first | rw [← Ny501.out] at ho57 | (simp only [Int.reduceToNat] at ho57; rw [← Ny501.out] at ho57)); have n0_ := Aside0.mk (Kd.Z_below (by (with_reducible repeat (first | apply Kd.Z_alloc | apply Kd.Z_drewN | apply Kd.Z_drew)); exact HO_17.out) hb); have n1_ := Aside0.mk (Kd.R_lower ho57 (below_size (by repeat (first | (with_reducible first | exact HB.out | apply below_alloc | apply pw_below_drewN | apply below_drew1) | exact HB.out)))); have n2_ := Aside0.mk (below_step (by repeat (first | (with_reducible first | exact HB.out | apply below_alloc | apply pw_below_drewN | apply below_drew1) | exact HB.out)) hb); clear HO_17; clear HB; have HO_17 := n0_; have HO503 := n1_; have HB := n2_; clear n0_ n1_ n2_; clear hb ho57; obtain ⟨Ao58, co58, eo58⟩ := Kd.R_slice HO503.out; subst eo58; have p504 : 0 ≤ (x18_2 : Int) := of_decide_eq_true (by first | (with_reducible assumption) | assumption); have q504 : x18_2 < (y501.length : Int) := of_decide_eq_true (by first | (with_reducible assumption) | assumption); obtain ⟨ad504, e504, hx504_0⟩ := Kd.at_string (Kd.R_reads' HO503.out).2.2 x18_2 p504 q504; cases e504; replace p504 := eq_true p504; replace q504 := eq_true q504) | ((with_reducible refine gate_callee (f := 25) rfl ?_); refine goesL_ (some 89) rfl rfl Tryd.func25 (by kernel_rfl) rfl #[.string (rdOf ByteArray.empty y501 x18_2)] rfl (by (try simp only [List.map_toArray, List.map_cons, List.map_nil]); first | done | rfl | (simp only [List.length_drop, List.length_take]; rfl) | (go_simp; done) | (go_simp; unfold wrap64; omega) | (go_simp; simp only [ByteArray.size_extract]; unfold wrap64; omega)) ?_; (with_reducible refine (pax_Time.calls k2 (rdOf ByteArray.empty y501 x18_2) t505 t506 _ ?side1 A38.out).mono ?_); (case side1 => exact Glob.to (by decide) HG.out (by repeat (first | (with_reducible first | exact HB.out | apply below_alloc | apply pw_below_drewN | apply below_drew1) | exact HB.out))); rintro e w59 ⟨rfl, hb⟩; refine ⟨_, rfl, ?_⟩; have n0_ := Aside0.mk (Kd.Z_below (by (with_reducible repeat (first | apply Kd.Z_alloc | apply Kd.Z_drewN | apply Kd.Z_drew)); exact HO_17.out) hb); have n1_ := Aside0.mk (Kd.R_below (by (with_reducible repeat (first | apply Kd.R_alloc | apply Kd.R_drewN | apply Kd.R_drew)); exact HO503.out) hb); have n2_ := Aside0.mk (below_step (by repeat (first | (with_reducible first | exact HB.out | apply below_alloc | apply pw_below_drewN | apply below_drew1) | exact HB.out)) hb); clear HO_17; clear HO503; clear HB; have HO_17 := n0_; have HO503 := n1_; have HB := n2_; clear n0_ n1_ n2_; (try clear hb); (try clear hb2); (try clear hk); (try clear hi)) | ((with_reducible refine gate_callee (f := 31) rfl ?_); refine goesL_ (some 94) rfl rfl Tryd.func31 (by kernel_rfl) rfl #[.string (rdOf ByteArray.empty y501 x18_2)] rfl (by (try simp only [List.map_toArray, List.map_cons, List.map_nil]); first | done | rfl | (simp only [List.length_drop, List.length_take]; rfl) | (go_simp; done) | (go_simp; unfold wrap64; omega) | (go_simp; simp only [ByteArray.size_extract]; unfold wrap64; omega)) ?_; (with_reducible refine (portmanteauref16_Time.calls k2 (rdOf ByteArray.empty y501 x18_2) t507 t508 _ A39.out).mono ?_); rintro e w' ⟨rfl, ⟨nd, rfl⟩⟩; refine ⟨_, rfl, ?_⟩))
                              go_ret
                              exact ⟨by first | rfl | (simp [errW_none, errW_some] <;> rfl) | (simp only [← hji27]; first | rfl | (simp [errW_none, errW_some] <;> rfl)) | (simp [*, errW_none, errW_some] <;> rfl) | (simp [errW_none, errW_some, ba_bne, ba_beq]; done), by repeat (first | (with_reducible first | exact HB.out | apply below_alloc | apply pw_below_drewN | apply below_drew1) | exact HB.out)⟩
                        · rw [if_neg c37] at H
                          exact absurd H (by simp)
                      · rw [if_neg c36] at H
                        exact absurd H (by simp)
                    · rw [if_neg c35] at H
                      have c35b0 : decide (x18_2 < 3) = false := decide_eq_false c35
                      clear c35
                      by_cases c60 : t492 = true
                      · subst c60
                        have H1 : (if t491 = a0 then ((portmanteaulaw18_awake.f k2).bind fun t500 => (some t500)) else (some false)) = some r := by rw [if_pos rfl] at H; exact H
                        clear H
                        have H := H1
                        clear H1
                        by_cases c61 : t491 = a0
                        · rw [if_pos c61] at H
                          have c61b0 : (t491 == a0) = true := beq_iff_eq.mpr c61
                          have c61b1 : (t491 != a0) = false := bne_eq_false_iff_eq.mpr c61
                          clear c61
                          replace H := Option.bind_eq_some_iff.mp H
                          obtain ⟨t500, A620, H⟩ := H
                          replace H : (some t500) = some r := H
                          have A62 := Aside0.mk A620
                          clear A620
                          obtain rfl := Option.some.inj H
                          go_wp2_with (first | (go_at_call 21; (with_reducible refine (portmanteaulaw18_awake.calls k2  t500 _ ?side1 A62.out).mono ?_); (case side1 => exact Glob.to (by decide) HG.out (by repeat (first | (with_reducible first | exact HB.out | apply below_alloc | apply pw_below_drewN | apply below_drew1) | exact HB.out))); rintro e w63 ⟨rfl, hb⟩; have n0_ := Aside0.mk (Kd.Z_below (by (with_reducible repeat (first | apply Kd.Z_alloc | apply Kd.Z_drewN | apply Kd.Z_drew)); exact HO_17.out) hb); have n1_ := Aside0.mk (below_step (by repeat (first | (with_reducible first | exact HB.out | apply below_alloc | apply pw_below_drewN | apply below_drew1) | exact HB.out)) hb); clear HO_17; clear HB; have HO_17 := n0_; have HB := n1_; clear n0_ n1_; (try clear hb); (try clear hb2); (try clear hk); (try clear hi)))
                          go_ret
                          exact ⟨by first | rfl | (simp [errW_none, errW_some] <;> rfl) | (simp only [← hji27]; first | rfl | (simp [errW_none, errW_some] <;> rfl)) | (simp [*, errW_none, errW_some] <;> rfl) | (simp [errW_none, errW_some, ba_bne, ba_beq]; done), by repeat (first | (with_reducible first | exact HB.out | apply below_alloc | apply pw_below_drewN | apply below_drew1) | exact HB.out)⟩
                        · rw [if_neg c61] at H
                          have c61b0 : (t491 == a0) = false := beq_eq_false_iff_ne.mpr c61
                          have c61b1 : (t491 != a0) = true := bne_iff_ne.mpr c61
                          obtain rfl := Option.some.inj H
                          go_wp2
                          go_ret
                          exact ⟨by first | rfl | (simp [errW_none, errW_some] <;> rfl) | (simp only [← hji27]; first | rfl | (simp [errW_none, errW_some] <;> rfl)) | (simp [*, errW_none, errW_some] <;> rfl) | (simp [errW_none, errW_some, ba_bne, ba_beq]; done), by repeat (first | (with_reducible first | exact HB.out | apply below_alloc | apply pw_below_drewN | apply below_drew1) | exact HB.out)⟩
                      · replace c60 := Bool.eq_false_iff.mpr c60
                        subst c60
                        have H1 : (some false) = some r := by rw [if_neg (show ¬ (false = true) by decide)] at H; exact H
                        clear H
                        have H := H1
                        clear H1
                        obtain rfl := Option.some.inj H
                        go_wp2
                        go_ret
                        exact ⟨by first | rfl | (simp [errW_none, errW_some] <;> rfl) | (simp only [← hji27]; first | rfl | (simp [errW_none, errW_some] <;> rfl)) | (simp [*, errW_none, errW_some] <;> rfl) | (simp [errW_none, errW_some, ba_bne, ba_beq]; done), by repeat (first | (with_reducible first | exact HB.out | apply below_alloc | apply pw_below_drewN | apply below_drew1) | exact HB.out)⟩
              · rw [if_neg c29] at H
                exact absurd H (by simp)
            · rw [if_neg c28] at H
              exact absurd H (by simp)
    · rw [if_neg c11] at H
      have c11b0 : (t489.toList == t490.toList) = false := beq_eq_false_iff_ne.mpr c11
      have c11b1 : (t489.toList != t490.toList) = true := bne_iff_ne.mpr c11
      obtain rfl := Option.some.inj H
      go_enter Tryd.func10, Tryd.ntmps10
      go_wp2_with (first | ((with_reducible refine gate_callee (f := 29) rfl ?_); refine goesL_ (some 29) rfl rfl Tryd.func29 (by kernel_rfl) rfl #[.int .i64 a0] rfl (by (try simp only [List.map_toArray, List.map_cons, List.map_nil]); first | done | rfl | (simp only [List.length_drop, List.length_take]; rfl) | (go_simp; done) | (go_simp; unfold wrap64; omega) | (go_simp; simp only [ByteArray.size_extract]; unfold wrap64; omega)) ?_; (with_reducible refine (pax_TimeText.calls k a0 t489 _ ?side1 A9.out).mono ?_); (case side1 => exact Glob.to (by decide) HG.out (by repeat (first | (with_reducible first | exact HB.out | apply below_alloc | apply pw_below_drewN | apply below_drew1) | exact HB.out))); rintro e w64 ⟨rfl, hb⟩; refine ⟨_, rfl, ?_⟩; have n0_ := Aside0.mk (below_step (by repeat (first | (with_reducible first | exact HB.out | apply below_alloc | apply pw_below_drewN | apply below_drew1) | exact HB.out)) hb); clear HB; have HB := n0_; clear n0_; (try clear hb); (try clear hb2); (try clear hk); (try clear hi)) | ((with_reducible refine gate_callee (f := 30) rfl ?_); refine goesL_ (some 32) rfl rfl Tryd.func30 (by kernel_rfl) rfl #[.int .i64 a0] rfl (by (try simp only [List.map_toArray, List.map_cons, List.map_nil]); first | done | rfl | (simp only [List.length_drop, List.length_take]; rfl) | (go_simp; done) | (go_simp; unfold wrap64; omega) | (go_simp; simp only [ByteArray.size_extract]; unfold wrap64; omega)) ?_; (with_reducible refine (portmanteauref16_TimeText.calls k a0 t490 _ A10.out).mono ?_); rintro e w' ⟨rfl, ⟨nd, rfl⟩⟩; refine ⟨_, rfl, ?_⟩))
      go_ret
      exact ⟨by first | rfl | (simp [errW_none, errW_some] <;> rfl) | (simp [*, errW_none, errW_some] <;> rfl) | (simp [errW_none, errW_some, ba_bne, ba_beq]; done), by repeat (first | (with_reducible first | exact HB.out | apply below_alloc | apply pw_below_drewN | apply below_drew1) | exact HB.out)⟩

/-- THE ONE PURE STATEMENT of portmanteaulaw18_PaxTimes: yours. -/
def portmanteaulaw18_PaxTimes.Pure : Prop := ∀ (a0 : Int) (a1 : ByteArray) (l2 : List Int) (a3 : Int) (a4 : Int), (Lit.int .i64 a0).wf = true → a1.size ≤ 140737488351232 → l2.length ≤ maxLen → l2.length * 8 ≤ 140737488351232 → (∀ x ∈ l2, (Lit.int .i64 x).wf = true) → (Lit.int .i64 a3).wf = true → (Lit.int .u8 a4).wf = true → ∃ k, portmanteaulaw18_PaxTimes.f k a0 a1 l2 a3 a4 = some true
theorem portmanteaulaw18_PaxTimes.walk (P : portmanteaulaw18_PaxTimes.Pure) (a0 : Int) (a1 : ByteArray) (a2 : Option Addr) (len2 cap2 : Nat) (z2 : List Int) (a3 : Int) (a4 : Int) (w : World) (w0 : (Lit.int .i64 a0).wf = true) (w1 : a1.size ≤ 140737488351232) (w2 : (a2 = none ∧ len2 = 0 ∧ cap2 = 0 ∧ z2 = []) ∨ ∃ x, a2 = some x ∧ len2 ≤ cap2 ∧ cap2 ≤ maxLen ∧ z2.length = cap2 ∧ (∀ i, i < z2.length → w.cell? (x.add i) = some (.int .i64 (z2.getD i 0))) ∧ ∀ n ∈ z2, (Lit.int .i64 n).wf = true) (y2 : len2 * 8 ≤ 140737488351232) (w3 : (Lit.int .i64 a3).wf = true) (w4 : (Lit.int .u8 a4).wf = true) (hG : Glob 3 w) :
    Calls Tryd.prog 10 #[.int .i64 a0, .string a1, .slice a2 len2 cap2, .int .i64 a3, .int .u8 a4] w fun e w' => e = .returned (.bool true) ∧ Below w.heap.size w w' := by
  obtain ⟨l2, rfl, hr2, hm2, hw2, hc2⟩ := ReadsInt.ofRowC w2
  obtain ⟨k, h⟩ := P a0 a1 l2 a3 a4 w0 w1 hm2 y2 hw2 w3 w4
  refine (portmanteaulaw18_PaxTimes.calls k a0 a1 _ _ l2 a3 a4 true w (Kd.C_of_reads (d := (0 : Int)) (h1 := fun _ => rfl) hr2) hc2 hG h).mono ?_
  rintro e w' ⟨rfl, hd⟩
  exact ⟨rfl, hd⟩

end Go.Proofs.YtmmmmalicndkeaaDoor.X

-- xfix7
