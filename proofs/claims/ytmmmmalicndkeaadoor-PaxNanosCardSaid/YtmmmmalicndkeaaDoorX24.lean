-- Printed by a program of this session (wip/tools/xprint.py) out of the translation.
import Derived.Test.YtmmmmalicndkeaaDoorX0
import Derived.Test.YtmmmmalicndkeaaDoorExt2
import Derived.Test.YtmmmmalicndkeaaDoorExtN
import Derived.Test.YtmmmmalicndkeaaDoorExtS
namespace Go.Proofs.YtmmmmalicndkeaaDoor.X
open Go.RowKit Go.Proofs.YtmmmmalicndkeaaDoorW.PrintWords Go.Proofs.YtmmmmalicndkeaaDoorW.PrintLast Go.Proofs.YtmmmmalicndkeaaDoorW.PrintMore
attribute [local go_sem] max2_int min2_int max_two min_two max_three min_three max_four min_four   -- for this text's walks alone
set_option linter.unusedVariables false
set_option linter.unusedSimpArgs false

/-! ### pax_TimeText: function 29 -/
def pax_TimeText.j0 : Nat → ByteArray → Int → Option (ByteArray)
  | 0, _, _ => none
  | k + 1, x3, x4 => (num_Digits.f (wrap64 (IntKind.u64.wrap (Int.tdiv x4 1000000000)))).bind fun t307 => (if x3.size + t307.size ≤ 9223372036854775807 then (if (Int.tmod x4 1000000000) = 0 then (some (x3 ++ t307)) else ((num_Digits.f (wrap64 (IntKind.u64.wrap (1000000000 + (Int.tmod x4 1000000000))))).bind fun t308 => (if 1 ≤ (t308.size : Int) then (if (x3 ++ t307).size + 1 ≤ 9223372036854775807 then ((strings_TrimRight.f (t308.extract 1 t308.size) (⟨#[48]⟩ : ByteArray)).bind fun t309 => (if ((x3 ++ t307) ++ (⟨#[46]⟩ : ByteArray)).size + t309.size ≤ 9223372036854775807 then (some (((x3 ++ t307) ++ (⟨#[46]⟩ : ByteArray)) ++ t309)) else (none))) else (none)) else (none)))) else (none))
def pax_TimeText.f (k : Nat) (a0 : Int) : Option (ByteArray) := if a0 < 0 then (pax_TimeText.j0 k (⟨#[45]⟩ : ByteArray) (IntKind.u64.wrap (-(IntKind.u64.wrap (a0))))) else (pax_TimeText.j0 k (⟨#[]⟩ : ByteArray) (IntKind.u64.wrap (a0)))
theorem pax_TimeText.mono_l : ∀ k, (∀ y0 y1, LeO (pax_TimeText.j0 k y0 y1) (pax_TimeText.j0 (k + 1) y0 y1))
  | 0 => fun _ _ r h => by simp [pax_TimeText.j0] at h
  | k + 1 => by
    have ih0 := pax_TimeText.mono_l k
    · intro y0 y1
      unfold pax_TimeText.j0
      repeat' first
      | (with_reducible exact ih0 _ _)
      | (with_reducible exact LeO.refl _)
      | (with_reducible exact LeO.none _)
      | (with_reducible refine LeO.ite ?_ ?_)
      | (with_reducible refine LeO.bind ?_ (fun _ => ?_))
      | exact ih0 _ _
      | exact LeO.none _
      | refine LeO.ite ?_ ?_
      | refine LeO.bind ?_ (fun _ => ?_)
theorem pax_TimeText.mono : ∀ a0 k, LeO (pax_TimeText.f k a0) (pax_TimeText.f (k + 1) a0) := by
  intro a0 k
  have ih0 := pax_TimeText.mono_l k
  unfold pax_TimeText.f
  repeat' first
      | (with_reducible exact ih0 _ _)
      | (with_reducible exact LeO.refl _)
      | (with_reducible exact LeO.none _)
      | (with_reducible refine LeO.ite ?_ ?_)
      | (with_reducible refine LeO.bind ?_ (fun _ => ?_))
      | exact ih0 _ _
      | exact LeO.none _
      | refine LeO.ite ?_ ?_
      | refine LeO.bind ?_ (fun _ => ?_)
set_option maxHeartbeats 8000000 in
set_option maxRecDepth 100000 in
theorem pax_TimeText.calls (k : Nat) (a0 : Int) (r : ByteArray) (w : World) (hG : Glob 2 w) (h : pax_TimeText.f k a0 = some r) :
    Calls Tryd.prog 29 #[.int .i64 a0] w fun e w' => e = .returned (.string r) ∧ Below w.heap.size w w' := by
  have HB := Aside0.mk (Below.refl w.heap.size w)
  have HG := Aside0.mk hG
  clear hG
  have H : (if a0 < 0 then (pax_TimeText.j0 k (⟨#[45]⟩ : ByteArray) (IntKind.u64.wrap (-(IntKind.u64.wrap (a0))))) else (pax_TimeText.j0 k (⟨#[]⟩ : ByteArray) (IntKind.u64.wrap (a0)))) = some r := h
  clear h
  have HC2 := Aside0.mk H
  clear H
  go_enter Tryd.func29, Tryd.ntmps29
  go_upto_if 10 with (fail)
  go_cut [3, 4] (fun v3 v4 wc => ∃ (kq : Nat) (x3_1 : ByteArray) (x4_1 : Int), v3 = .string x3_1 ∧ v4 = .int .u64 x4_1 ∧ Aside0 (pax_TimeText.j0 kq x3_1 x4_1 = some r) ∧ Aside0 (kq ≤ k) ∧ Aside0 (Below w.heap.size w wc))
  case first =>
    have H := HC2.out
    clear HC2
    by_cases c3 : a0 < 0
    · rw [if_pos c3] at H
      have c3b0 : decide (a0 < 0) = true := decide_eq_true c3
      clear c3
      (first | rw [c3b0] | (simp only [i64_w, i32_w]; rw [c3b0]) | skip)
      have H' := Aside0.mk H
      clear H
      go_wp2
      go_meet
      case rel => exact ⟨_, ((⟨#[45]⟩ : ByteArray)), (IntKind.u64.wrap (-(IntKind.u64.wrap (a0)))), (by first | rfl | (simp; done) | (simp [ba_mk_size]; done) | (simp [ba_bne, ba_beq]; done) | (simp [*]; done)), (by first | rfl | (simp; done) | (simp [ba_mk_size]; done) | (simp [ba_bne, ba_beq]; done) | (simp [*]; done)), H', ⟨by first | omega | exact Nat.le_refl _⟩, ⟨by repeat (first | (with_reducible first | exact HB.out | apply below_alloc | apply pw_below_drewN | apply below_drew1) | exact HB.out)⟩⟩
    · rw [if_neg c3] at H
      have c3b0 : decide (a0 < 0) = false := decide_eq_false c3
      clear c3
      (first | rw [c3b0] | (simp only [i64_w, i32_w]; rw [c3b0]) | skip)
      have H' := Aside0.mk H
      clear H
      go_wp2
      go_meet
      case rel => exact ⟨_, ((⟨#[]⟩ : ByteArray)), (IntKind.u64.wrap (a0)), (by first | rfl | (simp; done) | (simp [ba_mk_size]; done) | (simp [ba_bne, ba_beq]; done) | (simp [*]; done)), (by first | rfl | (simp; done) | (simp [ba_mk_size]; done) | (simp [ba_bne, ba_beq]; done) | (simp [*]; done)), H', ⟨by first | omega | exact Nat.le_refl _⟩, ⟨by repeat (first | (with_reducible first | exact HB.out | apply below_alloc | apply pw_below_drewN | apply below_drew1) | exact HB.out)⟩⟩
  case rest =>
    clear HC2
    try clear c2
    try clear p2
    try clear c3
    try clear c3b0
    try clear HB
    try clear HB
    skip -- xfix
    obtain ⟨kq, x3_1, x4_1, rfl, rfl, HA, HJ1, HB⟩ := hcut
    cases kq with
    | zero => exact absurd HA.out (by simp [pax_TimeText.j0])
    | succ kj1 =>
      have H := HA.out
      clear HA
      simp only [pax_TimeText.j0] at H
      replace H := Option.bind_eq_some_iff.mp H
      obtain ⟨t307, A40, H⟩ := H
      replace H : (if x3_1.size + t307.size ≤ 9223372036854775807 then (if (Int.tmod x4_1 1000000000) = 0 then (some (x3_1 ++ t307)) else ((num_Digits.f (wrap64 (IntKind.u64.wrap (1000000000 + (Int.tmod x4_1 1000000000))))).bind fun t308 => (if 1 ≤ (t308.size : Int) then (if (x3_1 ++ t307).size + 1 ≤ 9223372036854775807 then ((strings_TrimRight.f (t308.extract 1 t308.size) (⟨#[48]⟩ : ByteArray)).bind fun t309 => (if ((x3_1 ++ t307) ++ (⟨#[46]⟩ : ByteArray)).size + t309.size ≤ 9223372036854775807 then (some (((x3_1 ++ t307) ++ (⟨#[46]⟩ : ByteArray)) ++ t309)) else (none))) else (none)) else (none)))) else (none)) = some r := H
      have A4 := Aside0.mk A40
      clear A40
      by_cases c5 : x3_1.size + t307.size ≤ 9223372036854775807
      · rw [if_pos c5] at H
        have c5b0 := eq_true c5
        have c5b1 : decide (x3_1.size + t307.size ≤ 9223372036854775807) = true := decide_eq_true c5
        try have c5b2 : (9223372036854775807 < x3_1.size + t307.size) = False := eq_false (Nat.not_lt.2 c5)
        by_cases c6 : (Int.tmod x4_1 1000000000) = 0
        · rw [if_pos c6] at H
          have c6b0 : ((Int.tmod x4_1 1000000000) == 0) = true := beq_iff_eq.mpr c6
          have c6b1 : ((Int.tmod x4_1 1000000000) != 0) = false := bne_eq_false_iff_eq.mpr c6
          clear c6
          obtain rfl := Option.some.inj H
          go_wp2_with (first | ((with_reducible refine gate_callee (f := 48) rfl ?_); refine goesL_ (some 17) rfl rfl Tryd.func48 (by kernel_rfl) rfl #[.int .i64 (wrap64 (IntKind.u64.wrap (Int.tdiv x4_1 1000000000)))] rfl (by (try simp only [List.map_toArray, List.map_cons, List.map_nil]); first | done | rfl | (simp only [List.length_drop, List.length_take]; rfl) | (go_simp; done) | (go_simp; unfold wrap64; omega) | (go_simp; simp only [ByteArray.size_extract]; unfold wrap64; omega)) ?_; (with_reducible refine (num_Digits.calls (wrap64 (IntKind.u64.wrap (Int.tdiv x4_1 1000000000))) t307 _ ?side1 A4.out).mono ?_); (case side1 => exact Glob.to (by decide) HG.out (by repeat (first | (with_reducible first | exact HB.out | apply below_alloc | apply pw_below_drewN | apply below_drew1) | exact HB.out))); rintro e w7 ⟨rfl, hb⟩; refine ⟨_, rfl, ?_⟩; have n0_ := Aside0.mk (below_step (by repeat (first | (with_reducible first | exact HB.out | apply below_alloc | apply pw_below_drewN | apply below_drew1) | exact HB.out)) hb); clear HB; have HB := n0_; clear n0_; (try clear hb); (try clear hb2); (try clear hk); (try clear hi)))
          go_ret
          exact ⟨by first | rfl | (simp [errW_none, errW_some] <;> rfl) | (simp [*, errW_none, errW_some] <;> rfl) | (simp [errW_none, errW_some, ba_bne, ba_beq]; done), by repeat (first | (with_reducible first | exact HB.out | apply below_alloc | apply pw_below_drewN | apply below_drew1) | exact HB.out)⟩
        · rw [if_neg c6] at H
          have c6b0 : ((Int.tmod x4_1 1000000000) == 0) = false := beq_eq_false_iff_ne.mpr c6
          have c6b1 : ((Int.tmod x4_1 1000000000) != 0) = true := bne_iff_ne.mpr c6
          replace H := Option.bind_eq_some_iff.mp H
          obtain ⟨t308, A80, H⟩ := H
          replace H : (if 1 ≤ (t308.size : Int) then (if (x3_1 ++ t307).size + 1 ≤ 9223372036854775807 then ((strings_TrimRight.f (t308.extract 1 t308.size) (⟨#[48]⟩ : ByteArray)).bind fun t309 => (if ((x3_1 ++ t307) ++ (⟨#[46]⟩ : ByteArray)).size + t309.size ≤ 9223372036854775807 then (some (((x3_1 ++ t307) ++ (⟨#[46]⟩ : ByteArray)) ++ t309)) else (none))) else (none)) else (none)) = some r := H
          have A8 := Aside0.mk A80
          clear A80
          by_cases c9 : 1 ≤ (t308.size : Int)
          · rw [if_pos c9] at H
            have c9b0 := eq_true c9
            have c9b1 : decide (1 ≤ (t308.size : Int)) = true := decide_eq_true c9
            clear c9
            by_cases c10 : (x3_1 ++ t307).size + 1 ≤ 9223372036854775807
            · rw [if_pos c10] at H
              have c10b0 := eq_true c10
              (try (have c10b0s := c10b0; simp only [ByteArray.size_append, ByteArray.size_extract, Int.natCast_add, Int.cast_ofNat_Int, Nat.reduceAdd, Nat.min_self, Nat.le_add_left, Nat.le_add_right, Nat.min_eq_left, Nat.min_eq_right, Nat.zero_add, Nat.sub_zero, ba_mk_size, List.length_cons, List.length_nil] at c10b0s)) -- xfix5
              have c10b1 : decide ((x3_1 ++ t307).size + 1 ≤ 9223372036854775807) = true := decide_eq_true c10
              (try (have c10b1s := c10b1; simp only [ByteArray.size_append, ByteArray.size_extract, Int.natCast_add, Int.cast_ofNat_Int, Nat.reduceAdd, Nat.min_self, Nat.le_add_left, Nat.le_add_right, Nat.min_eq_left, Nat.min_eq_right, Nat.zero_add, Nat.sub_zero, ba_mk_size, List.length_cons, List.length_nil] at c10b1s)) -- xfix5
              try have c10b2 : (9223372036854775807 < (x3_1 ++ t307).size + 1) = False := eq_false (Nat.not_lt.2 c10)
              (try (have c10b2s := c10b2; simp only [ByteArray.size_append, ByteArray.size_extract, Int.natCast_add, Int.cast_ofNat_Int, Nat.reduceAdd, Nat.min_self, Nat.le_add_left, Nat.le_add_right, Nat.min_eq_left, Nat.min_eq_right, Nat.zero_add, Nat.sub_zero, ba_mk_size, List.length_cons, List.length_nil] at c10b2s)) -- xfix5
              replace H := Option.bind_eq_some_iff.mp H
              obtain ⟨t309, A110, H⟩ := H
              replace H : (if ((x3_1 ++ t307) ++ (⟨#[46]⟩ : ByteArray)).size + t309.size ≤ 9223372036854775807 then (some (((x3_1 ++ t307) ++ (⟨#[46]⟩ : ByteArray)) ++ t309)) else (none)) = some r := H
              have A11 := Aside0.mk A110
              clear A110
              by_cases c12 : ((x3_1 ++ t307) ++ (⟨#[46]⟩ : ByteArray)).size + t309.size ≤ 9223372036854775807
              · rw [if_pos c12] at H
                have c12b0 := eq_true c12
                (try (have c12b0s := c12b0; simp only [ByteArray.size_append, ByteArray.size_extract, Int.natCast_add, Int.cast_ofNat_Int, Nat.reduceAdd, Nat.min_self, Nat.le_add_left, Nat.le_add_right, Nat.min_eq_left, Nat.min_eq_right, Nat.zero_add, Nat.sub_zero, ba_mk_size, List.length_cons, List.length_nil] at c12b0s)) -- xfix5
                have c12b1 : decide (((x3_1 ++ t307) ++ (⟨#[46]⟩ : ByteArray)).size + t309.size ≤ 9223372036854775807) = true := decide_eq_true c12
                (try (have c12b1s := c12b1; simp only [ByteArray.size_append, ByteArray.size_extract, Int.natCast_add, Int.cast_ofNat_Int, Nat.reduceAdd, Nat.min_self, Nat.le_add_left, Nat.le_add_right, Nat.min_eq_left, Nat.min_eq_right, Nat.zero_add, Nat.sub_zero, ba_mk_size, List.length_cons, List.length_nil] at c12b1s)) -- xfix5
                try have c12b2 : (9223372036854775807 < ((x3_1 ++ t307) ++ (⟨#[46]⟩ : ByteArray)).size + t309.size) = False := eq_false (Nat.not_lt.2 c12)
                (try (have c12b2s := c12b2; simp only [ByteArray.size_append, ByteArray.size_extract, Int.natCast_add, Int.cast_ofNat_Int, Nat.reduceAdd, Nat.min_self, Nat.le_add_left, Nat.le_add_right, Nat.min_eq_left, Nat.min_eq_right, Nat.zero_add, Nat.sub_zero, ba_mk_size, List.length_cons, List.length_nil] at c12b2s)) -- xfix5
                obtain rfl := Option.some.inj H
                go_wp2_with (first | ((with_reducible refine gate_callee (f := 48) rfl ?_); refine goesL_ (some 17) rfl rfl Tryd.func48 (by kernel_rfl) rfl #[.int .i64 (wrap64 (IntKind.u64.wrap (Int.tdiv x4_1 1000000000)))] rfl (by (try simp only [List.map_toArray, List.map_cons, List.map_nil]); first | done | rfl | (simp only [List.length_drop, List.length_take]; rfl) | (go_simp; done) | (go_simp; unfold wrap64; omega) | (go_simp; simp only [ByteArray.size_extract]; unfold wrap64; omega)) ?_; (with_reducible refine (num_Digits.calls (wrap64 (IntKind.u64.wrap (Int.tdiv x4_1 1000000000))) t307 _ ?side1 A4.out).mono ?_); (case side1 => exact Glob.to (by decide) HG.out (by repeat (first | (with_reducible first | exact HB.out | apply below_alloc | apply pw_below_drewN | apply below_drew1) | exact HB.out))); rintro e w13 ⟨rfl, hb⟩; refine ⟨_, rfl, ?_⟩; have n0_ := Aside0.mk (below_step (by repeat (first | (with_reducible first | exact HB.out | apply below_alloc | apply pw_below_drewN | apply below_drew1) | exact HB.out)) hb); clear HB; have HB := n0_; clear n0_; (try clear hb); (try clear hb2); (try clear hk); (try clear hi)) | ((with_reducible refine gate_callee (f := 48) rfl ?_); refine goesL_ (some 27) rfl rfl Tryd.func48 (by kernel_rfl) rfl #[.int .i64 (wrap64 (IntKind.u64.wrap (1000000000 + (Int.tmod x4_1 1000000000))))] rfl (by (try simp only [List.map_toArray, List.map_cons, List.map_nil]); first | done | rfl | (simp only [List.length_drop, List.length_take]; rfl) | (go_simp; done) | (go_simp; unfold wrap64; omega) | (go_simp; simp only [ByteArray.size_extract]; unfold wrap64; omega)) ?_; (with_reducible refine (num_Digits.calls (wrap64 (IntKind.u64.wrap (1000000000 + (Int.tmod x4_1 1000000000)))) t308 _ ?side1 A8.out).mono ?_); (case side1 => exact Glob.to (by decide) HG.out (by repeat (first | (with_reducible first | exact HB.out | apply below_alloc | apply pw_below_drewN | apply below_drew1) | exact HB.out))); rintro e w14 ⟨rfl, hb⟩; refine ⟨_, rfl, ?_⟩; have n0_ := Aside0.mk (below_step (by repeat (first | (with_reducible first | exact HB.out | apply below_alloc | apply pw_below_drewN | apply below_drew1) | exact HB.out)) hb); clear HB; have HB := n0_; clear n0_; (try clear hb); (try clear hb2); (try clear hk); (try clear hi)) | ((with_reducible refine gate_callee (f := 49) rfl ?_); refine goesL_ (some 32) rfl rfl Tryd.func49 (by kernel_rfl) rfl #[.string (t308.extract 1 t308.size), .string (⟨#[48]⟩ : ByteArray)] rfl (by (try simp only [List.map_toArray, List.map_cons, List.map_nil]); first | done | rfl | (simp only [List.length_drop, List.length_take]; rfl) | (go_simp; done) | (go_simp; unfold wrap64; omega) | (go_simp; simp only [ByteArray.size_extract]; unfold wrap64; omega)) ?_; (with_reducible refine (strings_TrimRight.calls (t308.extract 1 t308.size) (⟨#[48]⟩ : ByteArray) t309 _ A11.out).mono ?_); rintro e w' ⟨rfl, ⟨nd, rfl⟩⟩; refine ⟨_, rfl, ?_⟩))
                go_ret
                exact ⟨by first | rfl | (simp [errW_none, errW_some] <;> rfl) | (simp [*, errW_none, errW_some] <;> rfl) | (simp [errW_none, errW_some, ba_bne, ba_beq]; done), by repeat (first | (with_reducible first | exact HB.out | apply below_alloc | apply pw_below_drewN | apply below_drew1) | exact HB.out)⟩
              · rw [if_neg c12] at H
                exact absurd H (by simp)
            · rw [if_neg c10] at H
              exact absurd H (by simp)
          · rw [if_neg c9] at H
            exact absurd H (by simp)
      · rw [if_neg c5] at H
        exact absurd H (by simp)

end Go.Proofs.YtmmmmalicndkeaaDoor.X
