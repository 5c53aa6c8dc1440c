-- Printed by a program of this session (wip/tools/xprint.py) out of the translation.
import Derived.Test.YtmmmmalicndkeaaDoorX0
import Derived.Test.YtmmmmalicndkeaaDoorX18
import Derived.Test.YtmmmmalicndkeaaDoorX20
import Derived.Test.YtmmmmalicndkeaaDoorX25
import Derived.Test.YtmmmmalicndkeaaDoorExtN
namespace Go.Proofs.YtmmmmalicndkeaaDoor.X
open Go.RowKit Go.Proofs.YtmmmmalicndkeaaDoorW.PrintWords Go.Proofs.YtmmmmalicndkeaaDoorW.PrintLast Go.Proofs.YtmmmmalicndkeaaDoorW.PrintMore
attribute [local go_sem] max2_int min2_int max_two min_two max_three min_three max_four min_four   -- for this text's walks alone
set_option linter.unusedVariables false
set_option linter.unusedSimpArgs false

/-! ### portmanteaulaw18_PaxBounds: function 9 -/
mutual
def portmanteaulaw18_PaxBounds.l0 : Nat → Int → List Int → Int → Int → Option (Bool)
  | 0, _, _, _, _ => none
  | k + 1, x0, x3, x18, x19 => if x19 < x18 then (if 0 ≤ x19 then (if x19 < (x3.length : Int) then (portmanteaulaw18_PaxBounds.l0 k x0 (x3.set (x19 : Int).toNat 120) x18 (wrap64 (x19 + 1))) else (none)) else (none)) else ((pax_Encode.f k (([(⟨(⟨#[107]⟩ : ByteArray), strOfNums x3⟩ : S42)] : List (S42)))).bind fun bt462 => (if (bt462.2 != (decide ((wrap64 (x0 + 9)) ≤ 65536))) = true then (portmanteaulaw18_PaxBounds.j1 k x0 bt462.1 bt462.2 (wrap64 (x0 + 9)) true) else (if bt462.2 = true then (portmanteaulaw18_PaxBounds.j1 k x0 bt462.1 bt462.2 (wrap64 (x0 + 9)) ((bt462.1.length : Int) != (wrap64 (x0 + 9)))) else (portmanteaulaw18_PaxBounds.j1 k x0 bt462.1 bt462.2 (wrap64 (x0 + 9)) false))))
def portmanteaulaw18_PaxBounds.j1 : Nat → Int → List Int → Bool → Int → Bool → Option (Bool)
  | 0, _, _, _, _, _ => none
  | k + 1, x0, x5, x6, x7, x48 => if x48 = true then (some false) else (if x6 = true then ((pax_Decode.f k x5).bind fun bt466 => ((some (([] : List Int) : List Int)).bind fun y470 => (if y470.length + x5.length < 140737488355328 then ((some (y470 ++ x5 : List Int)).bind fun y473 => (if 0 ≤ (wrap64 (65537 - x7)) then (if y473.length + (wrap64 (65537 - x7) : Int).toNat < 140737488355328 then ((pax_Decode.f k (y473 ++ List.replicate (wrap64 (65537 - x7) : Int).toNat 0)).bind fun bt479 => (if bt466.2 = 0 then (if (bt466.1.length : Int) = 1 then (if 0 < (bt466.1.length : Int) then (if (((rd_T42 bt466.1 0).f1).size : Int) = x0 then (if bt479.2 = 17 then ((portmanteaulaw18_awake.f k).bind fun t484 => (some t484)) else (some false)) else (some false)) else (none)) else (some false)) else (some false))) else (none)) else (none))) else (none)))) else (if (x5.length : Int) = 0 then ((portmanteaulaw18_awake.f k).bind fun t485 => (some t485)) else (some false)))
end
def portmanteaulaw18_PaxBounds.f (k : Nat) (a0 : Int) : Option (Bool) := if 0 ≤ (wrap64 ((Go.bits .and .i64 a0 31) + 65510)) then (if (wrap64 ((Go.bits .and .i64 a0 31) + 65510) : Int).toNat ≤ 281474976710656 then ((some (List.replicate (wrap64 ((Go.bits .and .i64 a0 31) + 65510) : Int).toNat 0 : List Int)).bind fun y455 => (portmanteaulaw18_PaxBounds.l0 k (wrap64 ((Go.bits .and .i64 a0 31) + 65510)) y455 (y455.length : Int) 0)) else (none)) else (none)
theorem portmanteaulaw18_PaxBounds.mono_l : ∀ k, (∀ y0 y1 y2 y3, LeO (portmanteaulaw18_PaxBounds.l0 k y0 y1 y2 y3) (portmanteaulaw18_PaxBounds.l0 (k + 1) y0 y1 y2 y3)) ∧ (∀ y0 y1 y2 y3 y4, LeO (portmanteaulaw18_PaxBounds.j1 k y0 y1 y2 y3 y4) (portmanteaulaw18_PaxBounds.j1 (k + 1) y0 y1 y2 y3 y4))
  | 0 => ⟨fun _ _ _ _ r h => by simp [portmanteaulaw18_PaxBounds.l0] at h, fun _ _ _ _ _ r h => by simp [portmanteaulaw18_PaxBounds.j1] at h⟩
  | k + 1 => by
    obtain ⟨ih0, ih1⟩ := portmanteaulaw18_PaxBounds.mono_l k
    refine ⟨?_, ?_⟩
    · intro y0 y1 y2 y3
      unfold portmanteaulaw18_PaxBounds.l0
      repeat' first
      | (with_reducible exact ih0 _ _ _ _)
      | (with_reducible exact ih1 _ _ _ _ _)
      | (with_reducible exact pax_Decode.mono _ _)
      | (with_reducible exact pax_Encode.mono _ _)
      | (with_reducible exact portmanteaulaw18_awake.mono _)
      | (with_reducible exact LeO.refl _)
      | (with_reducible exact LeO.none _)
      | (with_reducible refine LeO.ite ?_ ?_)
      | (with_reducible refine LeO.bind ?_ (fun _ => ?_))
      | exact ih0 _ _ _ _
      | exact ih1 _ _ _ _ _
      | exact pax_Decode.mono _ _
      | exact pax_Encode.mono _ _
      | exact portmanteaulaw18_awake.mono _
      | exact LeO.none _
      | refine LeO.ite ?_ ?_
      | refine LeO.bind ?_ (fun _ => ?_)
    · intro y0 y1 y2 y3 y4
      unfold portmanteaulaw18_PaxBounds.j1
      repeat' first
      | (with_reducible exact ih0 _ _ _ _)
      | (with_reducible exact ih1 _ _ _ _ _)
      | (with_reducible exact pax_Decode.mono _ _)
      | (with_reducible exact pax_Encode.mono _ _)
      | (with_reducible exact portmanteaulaw18_awake.mono _)
      | (with_reducible exact LeO.refl _)
      | (with_reducible exact LeO.none _)
      | (with_reducible refine LeO.ite ?_ ?_)
      | (with_reducible refine LeO.bind ?_ (fun _ => ?_))
      | exact ih0 _ _ _ _
      | exact ih1 _ _ _ _ _
      | exact pax_Decode.mono _ _
      | exact pax_Encode.mono _ _
      | exact portmanteaulaw18_awake.mono _
      | exact LeO.none _
      | refine LeO.ite ?_ ?_
      | refine LeO.bind ?_ (fun _ => ?_)
theorem portmanteaulaw18_PaxBounds.mono : ∀ a0 k, LeO (portmanteaulaw18_PaxBounds.f k a0) (portmanteaulaw18_PaxBounds.f (k + 1) a0) := by
  intro a0 k
  obtain ⟨ih0, ih1⟩ := portmanteaulaw18_PaxBounds.mono_l k
  unfold portmanteaulaw18_PaxBounds.f
  repeat' first
      | (with_reducible exact ih0 _ _ _ _)
      | (with_reducible exact ih1 _ _ _ _ _)
      | (with_reducible exact pax_Decode.mono _ _)
      | (with_reducible exact pax_Encode.mono _ _)
      | (with_reducible exact portmanteaulaw18_awake.mono _)
      | (with_reducible exact LeO.refl _)
      | (with_reducible exact LeO.none _)
      | (with_reducible refine LeO.ite ?_ ?_)
      | (with_reducible refine LeO.bind ?_ (fun _ => ?_))
      | exact ih0 _ _ _ _
      | exact ih1 _ _ _ _ _
      | exact pax_Decode.mono _ _
      | exact pax_Encode.mono _ _
      | exact portmanteaulaw18_awake.mono _
      | exact LeO.none _
      | refine LeO.ite ?_ ?_
      | refine LeO.bind ?_ (fun _ => ?_)
set_option maxHeartbeats 8000000 in
set_option maxRecDepth 100000 in
theorem portmanteaulaw18_PaxBounds.calls (k : Nat) (a0 : Int) (r : Bool) (w : World) (hG : Glob 3 w) (h : portmanteaulaw18_PaxBounds.f k a0 = some r) :
    Calls Tryd.prog 9 #[.int .i64 a0] w fun e w' => e = .returned (.bool r) ∧ Below w.heap.size w w' := by
  have hu42 := Tryd.underlying42
  have HB := Aside0.mk (Below.refl w.heap.size w)
  have HG := Aside0.mk hG
  clear hG
  have H : (if 0 ≤ (wrap64 ((Go.bits .and .i64 a0 31) + 65510)) then (if (wrap64 ((Go.bits .and .i64 a0 31) + 65510) : Int).toNat ≤ 281474976710656 then ((some (List.replicate (wrap64 ((Go.bits .and .i64 a0 31) + 65510) : Int).toNat 0 : List Int)).bind fun y455 => (portmanteaulaw18_PaxBounds.l0 k (wrap64 ((Go.bits .and .i64 a0 31) + 65510)) y455 (y455.length : Int) 0)) else (none)) else (none)) = some r := h
  clear h
  obtain ⟨ji2, hji2⟩ : ∃ j_ : Int, (wrap64 ((Go.bits .and .i64 a0 31) + 65510)) = j_ := ⟨_, rfl⟩
  replace H : (if 0 ≤ (ji2) then (if (ji2 : Int).toNat ≤ 281474976710656 then ((some (List.replicate (ji2 : Int).toNat 0 : List Int)).bind fun y455 => (portmanteaulaw18_PaxBounds.l0 k ji2 y455 (y455.length : Int) 0)) else (none)) else (none)) = some r := by first | (rw [hji2] at H; exact H) | (simp only [hji2] at H ⊢; exact H)
  have hji2w : (IntKind.i64.wrap ((Go.bits .and .i64 a0 31) + 65510)) = ji2 := (i64_w _).trans hji2
  by_cases c3 : 0 ≤ (ji2)
  · rw [if_pos c3] at H
    have c3b0 := eq_true c3
    have c3b1 : decide (0 ≤ (ji2)) = true := decide_eq_true c3
    clear c3
    by_cases c4 : (ji2 : Int).toNat ≤ 281474976710656
    · rw [if_pos c4] at H
      have c4b0 := eq_true c4
      have c4b1 : decide ((ji2 : Int).toNat ≤ 281474976710656) = true := decide_eq_true c4
      clear c4
      obtain ⟨y455, hy455⟩ : ∃ y_ : List Int, y_ = (List.replicate (ji2 : Int).toNat 0) := ⟨_, rfl⟩
      replace H : (portmanteaulaw18_PaxBounds.l0 k ji2 y455 (y455.length : Int) 0) = some r := by first | (rw [hy455]; with_reducible exact H) | (have H2_ := (Option.bind_some _ _).symm.trans H; rw [hy455]; with_reducible exact H2_) | (have H2_ := (Option.bind_some _ _).symm.trans H; with_reducible exact H2_) | with_reducible exact H | (rw [hy455]; exact H) | exact H
      have Ny455 := Aside0.mk hy455
      clear hy455
      have H' := Aside0.mk H
      clear H
      go_enter Tryd.func9, Tryd.ntmps9
      go_wp2_with (first | ((with_reducible refine gate_dst (N := 16) rfl ?_); (try (refine gate_guard (by rfl) ?_; dsimp only)); refine Kd.R_make (Kd.int .u8) _ 5 rfl (N := 16) rfl 22 _ _ rfl ji2 rfl rfl Tryd.underlying22 (.int .u8 0) 1 info5 rfl (by decide) (by omega) 0 (ok := fun _ => True) (okp := fun _ => True) rfl (fun _ hk => hk) trivial (of_decide_eq_true (by first | (with_reducible assumption) | assumption)) (Nat.le_trans (Nat.mul_le_mul_right _ (of_decide_eq_true (by first | (with_reducible assumption) | assumption) : ji2.toNat ≤ 281474976710656)) (by omega)) (Below.refl _ _) (Nat.le_refl _) ?_; intro v456 w5 ho6 hb hg_ hnew_; clear hg_ hnew_; (first | rw [← Ny455.out] at ho6 | (simp only [Int.reduceToNat] at ho6; rw [← Ny455.out] at ho6)); have n0_ := Aside0.mk (Kd.R_lower ho6 (below_size (by repeat (first | (with_reducible first | exact HB.out | apply below_alloc | apply pw_below_drewN | apply below_drew1) | exact HB.out)))); have n1_ := Aside0.mk (below_step (by repeat (first | (with_reducible first | exact HB.out | apply below_alloc | apply pw_below_drewN | apply below_drew1) | exact HB.out)) hb); clear HB; have HO457 := n0_; have HB := n1_; clear n0_ n1_; clear hb ho6; obtain ⟨Ao7, co7, eo7⟩ := Kd.R_slice HO457.out; subst eo7))
      go_loopg [19] k (fun kq v19 w' => ∃ (x3_1 : List Int) (x19_1 : Int), v19 = .int .i64 x19_1 ∧ Aside0 (portmanteaulaw18_PaxBounds.l0 kq ji2 x3_1 (y455.length : Int) x19_1 = some r) ∧ Aside0 (kq ≤ k) ∧ Aside0 (Kd.R (Kd.int .u8) 5 w' w.heap.size (fun _ => True) (.slice Ao7 y455.length co7) x3_1) ∧ Aside0 (Below w.heap.size w w'))
      case atStart => exact ⟨(y455), (0), (by first | rfl | (simp; done) | (simp [ba_mk_size]; done) | (simp [ba_bne, ba_beq]; done) | (simp [*]; done)), H', ⟨Nat.le_refl _⟩, ⟨by (with_reducible repeat (first | apply Kd.R_alloc | apply Kd.R_drewN | apply Kd.R_drew)); exact HO457.out⟩, ⟨by repeat (first | (with_reducible first | exact HB.out | apply below_alloc | apply pw_below_drewN | apply below_drew1) | exact HB.out)⟩⟩
      case round =>
        clear H'
        try clear p2
        try clear c3
        try clear c3b0
        try clear c3b1
        try clear c4
        try clear c4b0
        try clear c4b1
        try clear p6
        try clear HO_3
        try clear HO_3
        try clear HB
        try clear HB
        skip -- xfix
        obtain ⟨x3_1, x19_1, rfl, HA, HK1, HO_3, HB⟩ := hrel
        have hl3_1 := (Kd.R_reads' HO_3.out).1
        rw [hl3_1] at HO_3
        (try simp only [hl3_1])
        cases gk with
        | zero => exact absurd HA.out (by simp [portmanteaulaw18_PaxBounds.l0])
        | succ k1 =>
          have H := HA.out
          clear HA
          simp only [portmanteaulaw18_PaxBounds.l0] at H
          by_cases c8 : x19_1 < (y455.length : Int)
          · rw [if_pos c8] at H
            have c8b0 : decide (x19_1 < (y455.length : Int)) = true := decide_eq_true c8
            clear c8
            by_cases c9 : 0 ≤ x19_1
            · rw [if_pos c9] at H
              have c9b0 : decide (0 ≤ x19_1) = true := decide_eq_true c9
              clear c9
              by_cases c10 : x19_1 < (x3_1.length : Int)
              · rw [if_pos c10] at H
                have c10b0 : decide (x19_1 < (x3_1.length : Int)) = true := decide_eq_true c10
                clear c10
                obtain ⟨y458, hy458⟩ : ∃ y_ : List Int, y_ = (x3_1.set (x19_1 : Int).toNat 120) := ⟨_, rfl⟩
                replace H : (portmanteaulaw18_PaxBounds.l0 k1 ji2 y458 (y455.length : Int) (wrap64 (x19_1 + 1))) = some r := by first | (rw [hy458]; with_reducible exact H) | (have H2_ := (Option.bind_some _ _).symm.trans H; rw [hy458]; with_reducible exact H2_) | (have H2_ := (Option.bind_some _ _).symm.trans H; with_reducible exact H2_) | with_reducible exact H | (rw [hy458]; exact H) | exact H
                have Ny458 := Aside0.mk hy458
                clear hy458
                have H' := Aside0.mk H
                clear H
                have p11 : 0 ≤ (x19_1 : Int) := of_decide_eq_true (by first | (with_reducible assumption) | assumption)
                have q11 : (x19_1 : Int) < ((x3_1.length : Int) : Int) := of_decide_eq_true (by first | (with_reducible assumption) | assumption)
                obtain ⟨go11, co11, eo11, gb11, gl11, cl11, HG11⟩ := Kd.R_form HO_3.out (by omega)
                (first | cases eo11 | (injection eo11 with ea_ en_ ec_; (first | subst ea_ | (injection ea_ with ea_; subst ea_)); subst ec_; clear en_))
                have GB11 := Aside0.mk gb11
                have GG11 := Aside0.mk HG11
                clear gb11 gl11 HG11
                obtain ⟨hx11_0, hf11_0⟩ := Kd.R_celln 0 HO_3.out (x19_1 : Int) p11 q11
                replace p11 := eq_true p11
                (try (have p11s := p11; simp only [ByteArray.size_append, ByteArray.size_extract, Int.natCast_add, Int.cast_ofNat_Int, Nat.reduceAdd, Nat.min_self, Nat.le_add_left, Nat.le_add_right, Nat.min_eq_left, Nat.min_eq_right, Nat.zero_add, Nat.sub_zero, ba_mk_size, List.length_cons, List.length_nil] at p11s)) -- xfix5
                replace q11 := eq_true q11
                (try (have q11s := q11; simp only [ByteArray.size_append, ByteArray.size_extract, Int.natCast_add, Int.cast_ofNat_Int, Nat.reduceAdd, Nat.min_self, Nat.le_add_left, Nat.le_add_right, Nat.min_eq_left, Nat.min_eq_right, Nat.zero_add, Nat.sub_zero, ba_mk_size, List.length_cons, List.length_nil] at q11s)) -- xfix5
                have HP12 := Kd.R_putg HO_3.out (x19_1 : Int) 120
                go_wp2_with (first | ((with_reducible refine gate_store (t := 5) (p := 24) rfl ?_); refine store_event (t := 5) (p := 24) (v := ?vo_w13) (w1 := (wr.setCell ⟨go11, (x19_1 : Int).toNat, none⟩ (.int .u8 120))) ?hg ?ho ?hn ?hr ?_; (case ho => rfl); (case hg => rfl); (case hn => rfl); (case hr => first | (go_simp; done) | (go_simp; rfl)); intro w13 hw; have hg : wr.grownBy w13 (some go11) := (by rw [hw]; exact HP12.2); have hp_ : Kd.R (Kd.int .u8) 5 w13 w.heap.size (fun _ => True) (.slice (some ⟨go11, 0, none⟩) x3_1.length co7) y458 := (by rw [hw, Ny458.out]; exact HP12.1); clear HP12; have n0_ := Aside0.mk (hp_); have n1_ := Aside0.mk ((by rw [hw]; exact below_set (HB.out) GB11.out : Below w.heap.size w w13)); clear HO_3; clear HB; have HO_3 := n0_; have HB := n1_; clear n0_ n1_; clear hg hw hp_))
                (try simp only [← hl3_1])
                go_roundg k1
                case measure => have := HK1.out; omega
                case rel => exact ⟨(y458), (wrap64 (x19_1 + 1)), (by first | rfl | (simp; done) | (simp [ba_mk_size]; done) | (simp [ba_bne, ba_beq]; done) | (simp [*]; done)), H', ⟨by have := HK1.out; omega⟩, ⟨by (try simp only [hl3_1]); (with_reducible repeat (first | apply Kd.R_alloc | apply Kd.R_drewN | apply Kd.R_drew)); exact HO_3.out⟩, ⟨by repeat (first | (with_reducible first | exact HB.out | apply below_alloc | apply pw_below_drewN | apply below_drew1) | exact HB.out)⟩⟩
              · rw [if_neg c10] at H
                exact absurd H (by simp)
            · rw [if_neg c9] at H
              exact absurd H (by simp)
          · rw [if_neg c8] at H
            have c8b0 : decide (x19_1 < (y455.length : Int)) = false := decide_eq_false c8
            (try rw [hl3_1] at c8b0) -- xfix4
            clear c8
            obtain ⟨y459, hy459⟩ : ∃ y_ : List (S42), y_ = (([(⟨(⟨#[107]⟩ : ByteArray), strOfNums x3_1⟩ : S42)] : List (S42))) := ⟨_, rfl⟩
            replace H : ((pax_Encode.f k1 y459).bind fun bt462 => (if (bt462.2 != (decide ((wrap64 (ji2 + 9)) ≤ 65536))) = true then (portmanteaulaw18_PaxBounds.j1 k1 ji2 bt462.1 bt462.2 (wrap64 (ji2 + 9)) true) else (if bt462.2 = true then (portmanteaulaw18_PaxBounds.j1 k1 ji2 bt462.1 bt462.2 (wrap64 (ji2 + 9)) ((bt462.1.length : Int) != (wrap64 (ji2 + 9)))) else (portmanteaulaw18_PaxBounds.j1 k1 ji2 bt462.1 bt462.2 (wrap64 (ji2 + 9)) false)))) = some r := by first | (rw [hy459]; with_reducible exact H) | (have H2_ := (Option.bind_some _ _).symm.trans H; rw [hy459]; with_reducible exact H2_) | (have H2_ := (Option.bind_some _ _).symm.trans H; with_reducible exact H2_) | with_reducible exact H | (rw [hy459]; exact H) | exact H
            have Ny459 := Aside0.mk hy459
            clear hy459
            replace H := Option.bind_eq_some_iff.mp H
            obtain ⟨⟨t462, t463⟩, A140, H⟩ := H
            replace H : (if (t463 != (decide ((wrap64 (ji2 + 9)) ≤ 65536))) = true then (portmanteaulaw18_PaxBounds.j1 k1 ji2 t462 t463 (wrap64 (ji2 + 9)) true) else (if t463 = true then (portmanteaulaw18_PaxBounds.j1 k1 ji2 t462 t463 (wrap64 (ji2 + 9)) ((t462.length : Int) != (wrap64 (ji2 + 9)))) else (portmanteaulaw18_PaxBounds.j1 k1 ji2 t462 t463 (wrap64 (ji2 + 9)) false))) = some r := H
            have A14 := Aside0.mk A140
            clear A140
            have HC15 := Aside0.mk H
            clear H
            (try have hcv16 := fun (m_ : Nat) => own_string (P := Tryd.prog) Tryd.underlying22 Tryd.underlying5 Tryd.underlying9 (Kd.own_of_R (Kd.R_drewN HO_3.out m_)))
            have hcv17 := own_string (P := Tryd.prog) Tryd.underlying22 Tryd.underlying5 Tryd.underlying9 (Kd.own_of_R HO_3.out); (try (have hcv17q := hcv17; simp (disch := first | assumption | exact Int.toNat_le.2 (of_decide_eq_true (by assumption))) only [List.length_take, List.length_drop, Nat.min_eq_left] at hcv17q))
            go_upto_region 10 with (first | ((with_reducible refine gate_dst (N := 30) rfl ?_); (try (refine gate_guard (by rfl) ?_; dsimp only)); refine Kd.R_lit k42 _ 42 ?hg (N := 30) ?hd (xs := ([(⟨(⟨#[107]⟩ : ByteArray), strOfNums x3_1⟩ : S42)] : List (S42))) (inner := [.string (⟨#[107]⟩ : ByteArray), .string (strOfNums x3_1)]) (ok := fun _ => True) (okp := fun _ => True) ?hr ?hp (fun _ hk => hk) trivial (Below.refl _ _) (Nat.le_refl _) (by simp) ?_; (case hd => rfl); (case hg => rfl); (case hr => first | (go_simp; done) | (go_simp; rfl)); (case hp => exact (Reps.c2 (show Kd.M k42 _ _ _ (⟨(⟨#[107]⟩ : ByteArray), strOfNums x3_1⟩ : S42) [.string (⟨#[107]⟩ : ByteArray), .string (strOfNums x3_1)] from (k42_mkM _ _ _ (⟨(⟨#[107]⟩ : ByteArray), strOfNums x3_1⟩ : S42) )) (Reps.none _ _))); intro v460 w18 ho19 hb hg_ hnew_; clear hg_ hnew_; (first | rw [← Ny459.out] at ho19 | (simp only [Int.reduceToNat] at ho19; rw [← Ny459.out] at ho19)); have n0_ := Aside0.mk (Kd.R_below (by (with_reducible repeat (first | apply Kd.R_alloc | apply Kd.R_drewN | apply Kd.R_drew)); exact HO_3.out) hb); have n1_ := Aside0.mk (Kd.R_lower ho19 (below_size (by repeat (first | (with_reducible first | exact HB.out | apply below_alloc | apply pw_below_drewN | apply below_drew1) | exact HB.out)))); have n2_ := Aside0.mk (below_step (by repeat (first | (with_reducible first | exact HB.out | apply below_alloc | apply pw_below_drewN | apply below_drew1) | exact HB.out)) hb); clear HO_3; clear HB; have HO_3 := n0_; have HO461 := n1_; have HB := n2_; clear n0_ n1_ n2_; clear hb ho19; obtain ⟨Ao20, co20, eo20⟩ := Kd.R_slice HO461.out; subst eo20) | ((with_reducible refine gate_callee (f := 22) rfl ?_); refine goesL_ (some 31) rfl rfl Tryd.func22 (by kernel_rfl) rfl #[.slice Ao20 y459.length co20] rfl (by (try simp only [List.map_toArray, List.map_cons, List.map_nil]); first | done | rfl | (simp only [List.length_drop, List.length_take]; rfl) | (go_simp; done) | (go_simp; unfold wrap64; omega) | (go_simp; simp only [ByteArray.size_extract]; unfold wrap64; omega)) ?_; (with_reducible refine (pax_Encode.calls k1 _ _ y459 t462 t463 _ ?side1 ?side2 ?side3 A14.out).mono ?_); (case side1 => repeat (first | exact (Kd.R_reads' HO461.out).2.2 | (with_reducible refine Kd.C_alloc ?_ _) | (with_reducible refine Kd.C_drewN ?_ _) | (with_reducible refine Kd.C_drew ?_))); (case side2 => exact (Kd.R_reads' HO461.out).2.1); (case side3 => exact Glob.to (by decide) HG.out (by repeat (first | (with_reducible first | exact HB.out | apply below_alloc | apply pw_below_drewN | apply below_drew1) | exact HB.out))); rintro e w21 ⟨v464, rfl, ho0, hb⟩; refine ⟨_, rfl, ?_⟩; have n0_ := Aside0.mk (Kd.R_elder' (by (with_reducible repeat (first | apply Kd.R_alloc | apply Kd.R_drewN | apply Kd.R_drew)); exact HO_3.out) (Kd.R_base ho0) hb); have n1_ := Aside0.mk (Kd.R_below (by (with_reducible repeat (first | apply Kd.R_alloc | apply Kd.R_drewN | apply Kd.R_drew)); exact HO461.out) hb); have n2_ := Aside0.mk (Kd.R_lower (Kd.R_new' ho0 (Kd.R_lt (by (with_reducible repeat (first | apply Kd.R_alloc | apply Kd.R_drewN | apply Kd.R_drew)); exact HO_3.out))) (below_size (by repeat (first | (with_reducible first | exact HB.out | apply below_alloc | apply pw_below_drewN | apply below_drew1) | exact HB.out)))); have n3_ := Aside0.mk (below_step (by repeat (first | (with_reducible first | exact HB.out | apply below_alloc | apply pw_below_drewN | apply below_drew1) | exact HB.out)) hb); clear HO_3; clear HO461; clear HB; have HO_3 := n0_; have HO461 := n1_; have HO465 := n2_; have HB := n3_; clear n0_ n1_ n2_ n3_; (try clear hb); (try clear hb2); (try clear hk); (try clear hi); (try clear ho0)))
            (try simp only [Act.put, List.setIfInBounds_toArray, List.set_cons_zero, List.set_cons_succ])
            go_cut [48] (fun v48 wc => ∃ (kq : Nat) (x48_14 : Bool), v48 = .bool x48_14 ∧ Aside0 (portmanteaulaw18_PaxBounds.j1 kq ji2 t462 t463 (wrap64 (ji2 + 9)) x48_14 = some r) ∧ Aside0 (kq ≤ k1) ∧ Aside0 (Kd.R (Kd.int .u8) 5 wc w.heap.size (fun _ => True) v464 t462) ∧ Aside0 (Below w.heap.size w wc))
            case first =>
              have H := HC15.out
              clear HC15
              by_cases c22 : (t463 != (decide ((wrap64 (ji2 + 9)) ≤ 65536))) = true
              · rw [if_pos c22] at H
                have c22b0 : (t463 != (decide ((wrap64 (ji2 + 9)) ≤ 65536))) = true := c22
                (try (have c22b1 : decide (t463 = (decide ((wrap64 (ji2 + 9)) ≤ 65536))) = false := by simpa using c22))
                (try (have c22b2 : (t463 == (decide ((wrap64 (ji2 + 9)) ≤ 65536))) = false := by simpa using c22))
                (try (have c22b3 : ¬ (t463 = (decide ((wrap64 (ji2 + 9)) ≤ 65536))) := by simpa using c22))
                clear c22
                (first | rw [c22b0] | (simp only [i64_w, i32_w]; rw [c22b0]) | skip)
                have H' := Aside0.mk H
                clear H
                go_wp2
                go_meet
                case rel => exact ⟨_, (true), (by first | rfl | (simp; done) | (simp [ba_mk_size]; done) | (simp [ba_bne, ba_beq]; done) | (simp [*]; done)), H', ⟨by have := HK1.out; first | omega | exact Nat.le_refl _⟩, ⟨by (try simp only [hl3_1]); (with_reducible repeat (first | apply Kd.R_alloc | apply Kd.R_drewN | apply Kd.R_drew)); exact Kd.R_mono HO465.out (fun _ hk => trivial)⟩, ⟨by repeat (first | (with_reducible first | exact HB.out | apply below_alloc | apply pw_below_drewN | apply below_drew1) | exact HB.out)⟩⟩
              · rw [if_neg c22] at H
                have c22b0 : (t463 != (decide ((wrap64 (ji2 + 9)) ≤ 65536))) = false := by simpa using c22
                (try (have c22b1 : decide (t463 = (decide ((wrap64 (ji2 + 9)) ≤ 65536))) = true := by simpa using c22))
                (try (have c22b2 : (t463 == (decide ((wrap64 (ji2 + 9)) ≤ 65536))) = true := by simpa using c22))
                clear c22
                (first | rw [c22b0] | (simp only [i64_w, i32_w]; rw [c22b0]) | skip)
                by_cases c23 : t463 = true
                · subst c23
                  have H1 : (portmanteaulaw18_PaxBounds.j1 k1 ji2 t462 true (wrap64 (ji2 + 9)) ((t462.length : Int) != (wrap64 (ji2 + 9)))) = some r := by rw [if_pos rfl] at H; exact H
                  clear H
                  have H := H1
                  clear H1
                  have H' := Aside0.mk H
                  clear H
                  obtain ⟨Ao24, co24, eo24⟩ := Kd.R_slice HO465.out
                  subst eo24
                  go_wp2
                  go_meet
                  case rel => exact ⟨_, (((t462.length : Int) != (wrap64 (ji2 + 9)))), (by first | rfl | (simp; done) | (simp [ba_mk_size]; done) | (simp only [← hji2] <;> (first | rfl | simp)) | (simp [*]; done)), H', ⟨by have := HK1.out; first | omega | exact Nat.le_refl _⟩, ⟨by (try simp only [hl3_1]); (with_reducible repeat (first | apply Kd.R_alloc | apply Kd.R_drewN | apply Kd.R_drew)); exact Kd.R_mono HO465.out (fun _ hk => trivial)⟩, ⟨by repeat (first | (with_reducible first | exact HB.out | apply below_alloc | apply pw_below_drewN | apply below_drew1) | exact HB.out)⟩⟩
                · replace c23 := Bool.eq_false_iff.mpr c23
                  subst c23
                  have H1 : (portmanteaulaw18_PaxBounds.j1 k1 ji2 t462 false (wrap64 (ji2 + 9)) false) = some r := by rw [if_neg (show ¬ (false = true) by decide)] at H; exact H
                  clear H
                  have H := H1
                  clear H1
                  have H' := Aside0.mk H
                  clear H
                  go_wp2
                  go_meet
                  case rel => exact ⟨_, (false), (by first | rfl | (simp; done) | (simp [ba_mk_size]; done) | (simp [ba_bne, ba_beq]; done) | (simp [*]; done)), H', ⟨by have := HK1.out; first | omega | exact Nat.le_refl _⟩, ⟨by (try simp only [hl3_1]); (with_reducible repeat (first | apply Kd.R_alloc | apply Kd.R_drewN | apply Kd.R_drew)); exact Kd.R_mono HO465.out (fun _ hk => trivial)⟩, ⟨by repeat (first | (with_reducible first | exact HB.out | apply below_alloc | apply pw_below_drewN | apply below_drew1) | exact HB.out)⟩⟩
            case rest =>
              clear HC15
              try clear c1
              try clear p1
              try clear q1
              try clear hx1
              try clear hcv1
              try clear hf1
              try clear c2
              try clear p2
              try clear c3
              try clear c3b0
              try clear c3b1
              try clear c4
              try clear c4b0
              try clear c4b1
              try clear p6
              try clear c8
              try clear c8b0
              try clear c9
              try clear c9b0
              try clear c10
              try clear c10b0
              try clear p11
              try clear q11
              try clear hx11
              try clear hf11
              try clear hcv16
              try clear hcv17
              try clear c22
              try clear c22b0
              try clear c22b1
              try clear c22b2
              try clear c23
              try clear hx11_0
              try clear p11
              try clear p2
              try clear p6
              try clear q11
              try clear HO_5
              try clear HO_5
              try clear HB
              try clear HB
              skip -- xfix
              obtain ⟨kq, x48_14, rfl, HA, HJ14, HO_5, HB⟩ := hcut
              cases kq with
              | zero => exact absurd HA.out (by simp [portmanteaulaw18_PaxBounds.j1])
              | succ kj14 =>
                have H := HA.out
                clear HA
                simp only [portmanteaulaw18_PaxBounds.j1] at H
                by_cases c25 : x48_14 = true
                · subst c25
                  have H1 : (some false) = some r := by rw [if_pos rfl] at H; exact H
                  clear H
                  have H := H1
                  clear H1
                  obtain rfl := Option.some.inj H
                  go_wp2
                  go_ret
                  exact ⟨by first | rfl | (simp [errW_none, errW_some] <;> rfl) | (simp only [← hji2]; first | rfl | (simp [errW_none, errW_some] <;> rfl)) | (simp [*, errW_none, errW_some] <;> rfl) | (simp [errW_none, errW_some, ba_bne, ba_beq]; done), by repeat (first | (with_reducible first | exact HB.out | apply below_alloc | apply pw_below_drewN | apply below_drew1) | exact HB.out)⟩
                · replace c25 := Bool.eq_false_iff.mpr c25
                  subst c25
                  have H1 : (if t463 = true then ((pax_Decode.f kj14 t462).bind fun bt466 => ((some (([] : List Int) : List Int)).bind fun y470 => (if y470.length + t462.length < 140737488355328 then ((some (y470 ++ t462 : List Int)).bind fun y473 => (if 0 ≤ (wrap64 (65537 - (wrap64 (ji2 + 9)))) then (if y473.length + (wrap64 (65537 - (wrap64 (ji2 + 9))) : Int).toNat < 140737488355328 then ((pax_Decode.f kj14 (y473 ++ List.replicate (wrap64 (65537 - (wrap64 (ji2 + 9))) : Int).toNat 0)).bind fun bt479 => (if bt466.2 = 0 then (if (bt466.1.length : Int) = 1 then (if 0 < (bt466.1.length : Int) then (if (((rd_T42 bt466.1 0).f1).size : Int) = ji2 then (if bt479.2 = 17 then ((portmanteaulaw18_awake.f kj14).bind fun t484 => (some t484)) else (some false)) else (some false)) else (none)) else (some false)) else (some false))) else (none)) else (none))) else (none)))) else (if (t462.length : Int) = 0 then ((portmanteaulaw18_awake.f kj14).bind fun t485 => (some t485)) else (some false))) = some r := by rw [if_neg (show ¬ (false = true) by decide)] at H; exact H
                  clear H
                  have H := H1
                  clear H1
                  by_cases c26 : t463 = true
                  · subst c26
                    have H1 : ((pax_Decode.f kj14 t462).bind fun bt466 => ((some (([] : List Int) : List Int)).bind fun y470 => (if y470.length + t462.length < 140737488355328 then ((some (y470 ++ t462 : List Int)).bind fun y473 => (if 0 ≤ (wrap64 (65537 - (wrap64 (ji2 + 9)))) then (if y473.length + (wrap64 (65537 - (wrap64 (ji2 + 9))) : Int).toNat < 140737488355328 then ((pax_Decode.f kj14 (y473 ++ List.replicate (wrap64 (65537 - (wrap64 (ji2 + 9))) : Int).toNat 0)).bind fun bt479 => (if bt466.2 = 0 then (if (bt466.1.length : Int) = 1 then (if 0 < (bt466.1.length : Int) then (if (((rd_T42 bt466.1 0).f1).size : Int) = ji2 then (if bt479.2 = 17 then ((portmanteaulaw18_awake.f kj14).bind fun t484 => (some t484)) else (some false)) else (some false)) else (none)) else (some false)) else (some false))) else (none)) else (none))) else (none)))) = some r := by rw [if_pos rfl] at H; exact H
                    clear H
                    have H := H1
                    clear H1
                    replace H := Option.bind_eq_some_iff.mp H
                    obtain ⟨⟨t466, t469⟩, A270, H⟩ := H
                    replace H : ((some (([] : List Int) : List Int)).bind fun y470 => (if y470.length + t462.length < 140737488355328 then ((some (y470 ++ t462 : List Int)).bind fun y473 => (if 0 ≤ (wrap64 (65537 - (wrap64 (ji2 + 9)))) then (if y473.length + (wrap64 (65537 - (wrap64 (ji2 + 9))) : Int).toNat < 140737488355328 then ((pax_Decode.f kj14 (y473 ++ List.replicate (wrap64 (65537 - (wrap64 (ji2 + 9))) : Int).toNat 0)).bind fun bt479 => (if t469 = 0 then (if (t466.length : Int) = 1 then (if 0 < (t466.length : Int) then (if (((rd_T42 t466 0).f1).size : Int) = ji2 then (if bt479.2 = 17 then ((portmanteaulaw18_awake.f kj14).bind fun t484 => (some t484)) else (some false)) else (some false)) else (none)) else (some false)) else (some false))) else (none)) else (none))) else (none))) = some r := H
                    have A27 := Aside0.mk A270
                    clear A270
                    obtain ⟨y470, hy470⟩ : ∃ y_ : List Int, y_ = (([] : List Int)) := ⟨_, rfl⟩
                    replace H : (if y470.length + t462.length < 140737488355328 then ((some (y470 ++ t462 : List Int)).bind fun y473 => (if 0 ≤ (wrap64 (65537 - (wrap64 (ji2 + 9)))) then (if y473.length + (wrap64 (65537 - (wrap64 (ji2 + 9))) : Int).toNat < 140737488355328 then ((pax_Decode.f kj14 (y473 ++ List.replicate (wrap64 (65537 - (wrap64 (ji2 + 9))) : Int).toNat 0)).bind fun bt479 => (if t469 = 0 then (if (t466.length : Int) = 1 then (if 0 < (t466.length : Int) then (if (((rd_T42 t466 0).f1).size : Int) = ji2 then (if bt479.2 = 17 then ((portmanteaulaw18_awake.f kj14).bind fun t484 => (some t484)) else (some false)) else (some false)) else (none)) else (some false)) else (some false))) else (none)) else (none))) else (none)) = some r := by first | (rw [hy470]; with_reducible exact H) | (have H2_ := (Option.bind_some _ _).symm.trans H; rw [hy470]; with_reducible exact H2_) | (have H2_ := (Option.bind_some _ _).symm.trans H; with_reducible exact H2_) | with_reducible exact H | (rw [hy470]; exact H) | exact H
                    have Ny470 := Aside0.mk hy470
                    clear hy470
                    by_cases c28 : y470.length + t462.length < 140737488355328
                    · rw [if_pos c28] at H
                      have LMc28 := Aside0.mk c28
                      clear c28
                      obtain ⟨y473, hy473⟩ : ∃ y_ : List Int, y_ = (y470 ++ t462) := ⟨_, rfl⟩
                      replace H : (if 0 ≤ (wrap64 (65537 - (wrap64 (ji2 + 9)))) then (if y473.length + (wrap64 (65537 - (wrap64 (ji2 + 9))) : Int).toNat < 140737488355328 then ((pax_Decode.f kj14 (y473 ++ List.replicate (wrap64 (65537 - (wrap64 (ji2 + 9))) : Int).toNat 0)).bind fun bt479 => (if t469 = 0 then (if (t466.length : Int) = 1 then (if 0 < (t466.length : Int) then (if (((rd_T42 t466 0).f1).size : Int) = ji2 then (if bt479.2 = 17 then ((portmanteaulaw18_awake.f kj14).bind fun t484 => (some t484)) else (some false)) else (some false)) else (none)) else (some false)) else (some false))) else (none)) else (none)) = some r := by first | (rw [hy473]; with_reducible exact H) | (have H2_ := (Option.bind_some _ _).symm.trans H; rw [hy473]; with_reducible exact H2_) | (have H2_ := (Option.bind_some _ _).symm.trans H; with_reducible exact H2_) | with_reducible exact H | (rw [hy473]; exact H) | exact H
                      have Ny473 := Aside0.mk hy473
                      clear hy473
                      obtain ⟨ji29, hji29⟩ : ∃ j_ : Int, (wrap64 (65537 - (wrap64 (ji2 + 9)))) = j_ := ⟨_, rfl⟩
                      replace H : (if 0 ≤ (ji29) then (if y473.length + (ji29 : Int).toNat < 140737488355328 then ((pax_Decode.f kj14 (y473 ++ List.replicate (ji29 : Int).toNat 0)).bind fun bt479 => (if t469 = 0 then (if (t466.length : Int) = 1 then (if 0 < (t466.length : Int) then (if (((rd_T42 t466 0).f1).size : Int) = ji2 then (if bt479.2 = 17 then ((portmanteaulaw18_awake.f kj14).bind fun t484 => (some t484)) else (some false)) else (some false)) else (none)) else (some false)) else (some false))) else (none)) else (none)) = some r := by first | (rw [hji29] at H; exact H) | (simp only [hji29] at H ⊢; exact H)
                      (try rw [hji29] at A27)
                      have hji29w : (IntKind.i64.wrap (65537 - (wrap64 (ji2 + 9)))) = ji29 := (i64_w _).trans hji29
                      by_cases c30 : 0 ≤ (ji29)
                      · rw [if_pos c30] at H
                        have c30b0 := eq_true c30
                        have c30b1 : decide (0 ≤ (ji29)) = true := decide_eq_true c30
                        clear c30
                        by_cases c31 : y473.length + (ji29 : Int).toNat < 140737488355328
                        · rw [if_pos c31] at H
                          have LMc31 := Aside0.mk c31
                          clear c31
                          obtain ⟨y476, hy476⟩ : ∃ y_ : List Int, y_ = (y473 ++ List.replicate (ji29 : Int).toNat 0) := ⟨_, rfl⟩
                          replace H : ((pax_Decode.f kj14 y476).bind fun bt479 => (if t469 = 0 then (if (t466.length : Int) = 1 then (if 0 < (t466.length : Int) then (if (((rd_T42 t466 0).f1).size : Int) = ji2 then (if bt479.2 = 17 then ((portmanteaulaw18_awake.f kj14).bind fun t484 => (some t484)) else (some false)) else (some false)) else (none)) else (some false)) else (some false))) = some r := by first | (rw [hy476]; with_reducible exact H) | (have H2_ := (Option.bind_some _ _).symm.trans H; rw [hy476]; with_reducible exact H2_) | (have H2_ := (Option.bind_some _ _).symm.trans H; with_reducible exact H2_) | with_reducible exact H | (rw [hy476]; exact H) | exact H
                          have Ny476 := Aside0.mk hy476
                          clear hy476
                          replace H := Option.bind_eq_some_iff.mp H
                          obtain ⟨⟨t479, t482⟩, A320, H⟩ := H
                          replace H : (if t469 = 0 then (if (t466.length : Int) = 1 then (if 0 < (t466.length : Int) then (if (((rd_T42 t466 0).f1).size : Int) = ji2 then (if t482 = 17 then ((portmanteaulaw18_awake.f kj14).bind fun t484 => (some t484)) else (some false)) else (some false)) else (none)) else (some false)) else (some false)) = some r := H
                          have A32 := Aside0.mk A320
                          clear A320
                          by_cases c33 : t469 = 0
                          · rw [if_pos c33] at H
                            have c33b0 : (t469 == 0) = true := beq_iff_eq.mpr c33
                            have c33b1 : (t469 != 0) = false := bne_eq_false_iff_eq.mpr c33
                            clear c33
                            by_cases c34 : (t466.length : Int) = 1
                            · rw [if_pos c34] at H
                              have c34b0 : ((t466.length : Int) == 1) = true := beq_iff_eq.mpr c34
                              have c34b1 : ((t466.length : Int) != 1) = false := bne_eq_false_iff_eq.mpr c34
                              clear c34
                              by_cases c35 : 0 < (t466.length : Int)
                              · rw [if_pos c35] at H
                                have c35b0 : decide (0 < (t466.length : Int)) = true := decide_eq_true c35
                                have c35b1 : decide (0 < t466.length) = true := decide_eq_true (by omega)
                                clear c35
                                by_cases c36 : (((rd_T42 t466 0).f1).size : Int) = ji2
                                · rw [if_pos c36] at H
                                  have c36b0 : ((((rd_T42 t466 0).f1).size : Int) == ji2) = true := beq_iff_eq.mpr c36
                                  have c36b1 : ((((rd_T42 t466 0).f1).size : Int) != ji2) = false := bne_eq_false_iff_eq.mpr c36
                                  clear c36
                                  by_cases c37 : t482 = 17
                                  · rw [if_pos c37] at H
                                    have c37b0 : (t482 == 17) = true := beq_iff_eq.mpr c37
                                    have c37b1 : (t482 != 17) = false := bne_eq_false_iff_eq.mpr c37
                                    clear c37
                                    replace H := Option.bind_eq_some_iff.mp H
                                    obtain ⟨t484, A380, H⟩ := H
                                    replace H : (some t484) = some r := H
                                    have A38 := Aside0.mk A380
                                    clear A380
                                    obtain rfl := Option.some.inj H
                                    obtain ⟨Ao39, co39, eo39⟩ := Kd.R_slice HO_5.out
                                    subst eo39
                                    go_wp2_with (first | ((with_reducible refine gate_callee (f := 23) rfl ?_); refine goesL_ (some 59) rfl rfl Tryd.func23 (by kernel_rfl) rfl #[.slice Ao39 t462.length co39] rfl (by (try simp only [List.map_toArray, List.map_cons, List.map_nil]); first | done | rfl | (simp only [List.length_drop, List.length_take]; rfl) | (go_simp; done) | (go_simp; unfold wrap64; omega) | (go_simp; simp only [ByteArray.size_extract]; unfold wrap64; omega)) ?_; (with_reducible refine (pax_Decode.calls kj14 (fun k_ => some k_ = (.slice Ao39 t462.length co39 : Value).ownBlock) _ _ t462 t466 t469 _ ?side1 ?side2 A27.out).mono ?_); (case side1 => exact Kd.R_V (Kd.R_tight rfl (HO_5.out))); (case side2 => exact Glob.to (by decide) HG.out (by repeat (first | (with_reducible first | exact HB.out | apply below_alloc | apply pw_below_drewN | apply below_drew1) | exact HB.out))); rintro e w40 ⟨v467, rfl, ho0, hb⟩; refine ⟨_, rfl, ?_⟩; have n0_ := Aside0.mk (Kd.R_below (by (with_reducible repeat (first | apply Kd.R_alloc | apply Kd.R_drewN | apply Kd.R_drew)); exact HO_5.out) hb); have n1_ := Aside0.mk (Kd.R_lower (Kd.R_mono (ok' := fun k_ => True) ho0 (fun _ hk_ => trivial)) (below_size (by repeat (first | (with_reducible first | exact HB.out | apply below_alloc | apply pw_below_drewN | apply below_drew1) | exact HB.out)))); have n2_ := Aside0.mk (below_step (by repeat (first | (with_reducible first | exact HB.out | apply below_alloc | apply pw_below_drewN | apply below_drew1) | exact HB.out)) hb); clear HO_5; clear HB; have HO_5 := n0_; have HO468 := n1_; have HB := n2_; clear n0_ n1_ n2_; (try clear hb); (try clear hb2); (try clear hk); (try clear hi); (try clear ho0)) | ((with_reducible refine gate_dst (N := 63) rfl ?_); (try (refine gate_guard (by rfl) ?_; dsimp only)); refine Kd.R_lit (Kd.int .u8) _ 5 ?hg (N := 63) ?hd (xs := ([] : List Int)) (inner := []) (ok := fun _ => True) (okp := fun _ => True) ?hr ?hp (fun _ hk => hk) trivial (Below.refl _ _) (Nat.le_refl _) (by simp) ?_; (case hd => rfl); (case hg => rfl); (case hr => first | (go_simp; done) | (go_simp; rfl)); (case hp => exact (Reps.none _ _)); intro v471 w41 ho42 hb hg_ hnew_; clear hg_ hnew_; (first | rw [← Ny470.out] at ho42 | (simp only [Int.reduceToNat] at ho42; rw [← Ny470.out] at ho42)); have n0_ := Aside0.mk (Kd.R_elder' (by (with_reducible repeat (first | apply Kd.R_alloc | apply Kd.R_drewN | apply Kd.R_drew)); exact HO_5.out) (Kd.R_base ho42) hb); have n1_ := Aside0.mk (Kd.R_below (by (with_reducible repeat (first | apply Kd.R_alloc | apply Kd.R_drewN | apply Kd.R_drew)); exact HO468.out) hb); have n2_ := Aside0.mk (Kd.R_lower (Kd.R_new' ho42 (Kd.R_lt (by (with_reducible repeat (first | apply Kd.R_alloc | apply Kd.R_drewN | apply Kd.R_drew)); exact HO_5.out))) (below_size (by repeat (first | (with_reducible first | exact HB.out | apply below_alloc | apply pw_below_drewN | apply below_drew1) | exact HB.out)))); have n3_ := Aside0.mk (below_step (by repeat (first | (with_reducible first | exact HB.out | apply below_alloc | apply pw_below_drewN | apply below_drew1) | exact HB.out)) hb); clear HO_5; clear HO468; clear HB; have HO_5 := n0_; have HO468 := n1_; have HO472 := n2_; have HB := n3_; clear n0_ n1_ n2_ n3_; clear hb ho42) | ((with_reducible refine gate_builtin (b := .append) (xs := #[.tmp 63, .tmp 64]) rfl ?_); (try (refine gate_guard (by rfl) ?_; dsimp only)); at_builtin; refine Kd.R_append_rows (Kd.int .u8) (w0 := w) w.heap.size rfl (.tmp 63) (.tmp 64) 22 5 (.int .u8 0) 1 rfl Tryd.underlying22 info5 rfl (by decide) (by omega) v471 y470 t462 _ _ _ (fun k_ => some k_ ≠ (.slice Ao39 t462.length co39 : Value).ownBlock) (fun _ => False) rfl rfl ?aO ?aR (fun _ _ h => h) (fun _ h => h.elim) ?aF ?aB ?aS ?aL ?_; (case aR => repeat (first | exact (Kd.R_reads' HO_5.out).2.2 | (with_reducible refine Kd.C_alloc ?_ _) | (with_reducible refine Kd.C_drewN ?_ _) | (with_reducible refine Kd.C_drew ?_))); (case aB => exact (by repeat (first | (with_reducible first | exact HB.out | apply below_alloc | apply pw_below_drewN | apply below_drew1) | exact HB.out))); (case aF => exact (fun k_ hk => Kd.fresh' (Kd.R_lt (by (with_reducible repeat (first | apply Kd.R_alloc | apply Kd.R_drewN | apply Kd.R_drew)); exact HO_5.out)) k_ hk)); (case aO => exact (by (with_reducible repeat (first | apply Kd.R_alloc | apply Kd.R_drewN | apply Kd.R_drew)); exact Kd.R_mono HO472.out (fun _ hk => hk.2))); (case aS => exact (below_size (by repeat (first | (with_reducible first | exact HB.out | apply below_alloc | apply pw_below_drewN | apply below_drew1) | exact HB.out)))); (case aL => have := LMc28.out; omega); intro v474 w43 ho hb hg hat; rw [← Ny473.out] at ho; have n0_ := Aside0.mk (Kd.R_after (ok := (fun _ => True)) (by (with_reducible repeat (first | apply Kd.R_alloc | apply Kd.R_drewN | apply Kd.R_drew)); exact HO_5.out) hg hat); have n1_ := Aside0.mk (Kd.R_over' (by (with_reducible repeat (first | apply Kd.R_alloc | apply Kd.R_drewN | apply Kd.R_drew)); exact HO468.out) (Kd.R_typed (by (with_reducible repeat (first | apply Kd.R_alloc | apply Kd.R_drewN | apply Kd.R_drew)); exact HO472.out)) (by decide) hg); have n2_ := Aside0.mk (hb); have n3_ := Aside0.mk (ho); clear HO_5; clear HO468; clear HB; clear HO472; have HO_5 := n0_; have HO468 := n1_; have HB := n2_; have HO475 := n3_; clear n0_ n1_ n2_ n3_; clear ho hb hg hat) | (at_builtin; refine Kd.R_append_zeros (Kd.int .u8) (w0 := w) w.heap.size rfl (.tmp 65) (.tmp 67) 22 3 5 (.int .u8 0) 1 rfl Tryd.underlying22 Tryd.underlying3 info5 rfl (by decide) (by omega) v474 y473 0 (ji29 : Int) (fun k_ => some k_ ≠ (.slice Ao39 t462.length co39 : Value).ownBlock) rfl rfl rfl ?aF ?aO (of_decide_eq_true (by first | (with_reducible assumption) | assumption)) ?aB ?aS ?aL ?_; (case aB => exact (by repeat (first | (with_reducible first | exact HB.out | apply below_alloc | apply pw_below_drewN | apply below_drew1) | exact HB.out))); (case aF => exact (fun k_ hk => Kd.fresh' (Kd.R_lt (by (with_reducible repeat (first | apply Kd.R_alloc | apply Kd.R_drewN | apply Kd.R_drew)); exact HO_5.out)) k_ hk)); (case aO => exact (by (with_reducible repeat (first | apply Kd.R_alloc | apply Kd.R_drewN | apply Kd.R_drew)); exact HO475.out)); (case aS => exact (below_size (by repeat (first | (with_reducible first | exact HB.out | apply below_alloc | apply pw_below_drewN | apply below_drew1) | exact HB.out)))); (case aL => have := LMc31.out; omega); intro v477 w44 ho hb hg hat; rw [← Ny476.out] at ho; have n0_ := Aside0.mk (Kd.R_after (ok := (fun _ => True)) (by (with_reducible repeat (first | apply Kd.R_alloc | apply Kd.R_drewN | apply Kd.R_drew)); exact HO_5.out) hg hat); have n1_ := Aside0.mk (Kd.R_over' (by (with_reducible repeat (first | apply Kd.R_alloc | apply Kd.R_drewN | apply Kd.R_drew)); exact HO468.out) (Kd.R_typed (by (with_reducible repeat (first | apply Kd.R_alloc | apply Kd.R_drewN | apply Kd.R_drew)); exact HO475.out)) (by decide) hg); have n2_ := Aside0.mk (hb); have n3_ := Aside0.mk (ho); clear HO_5; clear HO468; clear HB; clear HO475; have HO_5 := n0_; have HO468 := n1_; have HB := n2_; have HO478 := n3_; clear n0_ n1_ n2_ n3_; clear ho hb hg hat; obtain ⟨Ao45, co45, eo45⟩ := Kd.R_slice HO478.out; subst eo45) | ((with_reducible refine gate_callee (f := 23) rfl ?_); refine goesL_ (some 69) rfl rfl Tryd.func23 (by kernel_rfl) rfl #[.slice Ao45 y476.length co45] rfl (by (try simp only [List.map_toArray, List.map_cons, List.map_nil]); first | done | rfl | (simp only [List.length_drop, List.length_take]; rfl) | (go_simp; done) | (go_simp; unfold wrap64; omega) | (go_simp; simp only [ByteArray.size_extract]; unfold wrap64; omega)) ?_; (with_reducible refine (pax_Decode.calls kj14 (fun k_ => some k_ = (.slice Ao45 y476.length co45 : Value).ownBlock) _ _ y476 t479 t482 _ ?side1 ?side2 A32.out).mono ?_); (case side1 => exact Kd.R_V (Kd.R_tight rfl (Kd.R_apart' (HO478.out) (Kd.R_typed HO468.out) (by decide)))); (case side2 => exact Glob.to (by decide) HG.out (by repeat (first | (with_reducible first | exact HB.out | apply below_alloc | apply pw_below_drewN | apply below_drew1) | exact HB.out))); rintro e w46 ⟨v480, rfl, ho0, hb⟩; refine ⟨_, rfl, ?_⟩; have n0_ := Aside0.mk (Kd.R_below (by (with_reducible repeat (first | apply Kd.R_alloc | apply Kd.R_drewN | apply Kd.R_drew)); exact HO_5.out) hb); have n1_ := Aside0.mk (Kd.R_elder' (by (with_reducible repeat (first | apply Kd.R_alloc | apply Kd.R_drewN | apply Kd.R_drew)); exact HO468.out) (Kd.R_base ho0) hb); have n2_ := Aside0.mk (Kd.R_below (by (with_reducible repeat (first | apply Kd.R_alloc | apply Kd.R_drewN | apply Kd.R_drew)); exact HO478.out) hb); have n3_ := Aside0.mk (Kd.R_lower (Kd.R_new' (Kd.R_mono (ok' := fun k_ => True) ho0 (fun _ hk_ => trivial)) (Kd.R_lt (by (with_reducible repeat (first | apply Kd.R_alloc | apply Kd.R_drewN | apply Kd.R_drew)); exact HO468.out))) (below_size (by repeat (first | (with_reducible first | exact HB.out | apply below_alloc | apply pw_below_drewN | apply below_drew1) | exact HB.out)))); have n4_ := Aside0.mk (below_step (by repeat (first | (with_reducible first | exact HB.out | apply below_alloc | apply pw_below_drewN | apply below_drew1) | exact HB.out)) hb); clear HO_5; clear HO468; clear HO478; clear HB; have HO_5 := n0_; have HO468 := n1_; have HO478 := n2_; have HO481 := n3_; have HB := n4_; clear n0_ n1_ n2_ n3_ n4_; (try clear hb); (try clear hb2); (try clear hk); (try clear hi); (try clear ho0); obtain ⟨Ao47, co47, eo47⟩ := Kd.R_slice HO468.out; subst eo47; have p483 : 0 ≤ (0 : Int) := (by omega); have q483 : 0 < (t466.length : Int) := of_decide_eq_true (by first | (with_reducible assumption) | assumption); obtain ⟨ad483, e483, hx483_0, hx483_1⟩ := at_T42 (Kd.R_reads' HO468.out).2.2 0 p483 q483; cases e483; have qi483 : (0 < t466.length) = True := eq_true (by omega); (try rw [show ((0 : Int)).toNat = 0 from rfl] at hx483_0); (try rw [show 0 * 2 = 0 from rfl] at hx483_0); (try rw [Addr.add_zero'] at hx483_0); (try rw [show ((0 : Int)).toNat = 0 from rfl] at hx483_1); (try rw [show 0 * 2 = 0 from rfl] at hx483_1); (try rw [Addr.add_zero'] at hx483_1); replace p483 := eq_true p483; replace q483 := eq_true q483) | (go_at_call 21; (with_reducible refine (portmanteaulaw18_awake.calls kj14  t484 _ ?side1 A38.out).mono ?_); (case side1 => exact Glob.to (by decide) HG.out (by repeat (first | (with_reducible first | exact HB.out | apply below_alloc | apply pw_below_drewN | apply below_drew1) | exact HB.out))); rintro e w48 ⟨rfl, hb⟩; have n0_ := Aside0.mk (Kd.R_below (by (with_reducible repeat (first | apply Kd.R_alloc | apply Kd.R_drewN | apply Kd.R_drew)); exact HO_5.out) hb); have n1_ := Aside0.mk (Kd.R_below (by (with_reducible repeat (first | apply Kd.R_alloc | apply Kd.R_drewN | apply Kd.R_drew)); exact HO468.out) hb); have n2_ := Aside0.mk (Kd.R_below (by (with_reducible repeat (first | apply Kd.R_alloc | apply Kd.R_drewN | apply Kd.R_drew)); exact HO478.out) hb); have n3_ := Aside0.mk (Kd.R_below (by (with_reducible repeat (first | apply Kd.R_alloc | apply Kd.R_drewN | apply Kd.R_drew)); exact HO481.out) hb); have n4_ := Aside0.mk (below_step (by repeat (first | (with_reducible first | exact HB.out | apply below_alloc | apply pw_below_drewN | apply below_drew1) | exact HB.out)) hb); clear HO_5; clear HO468; clear HO478; clear HO481; clear HB; have HO_5 := n0_; have HO468 := n1_; have HO478 := n2_; have HO481 := n3_; have HB := n4_; clear n0_ n1_ n2_ n3_ n4_; (try clear hb); (try clear hb2); (try clear hk); (try clear hi)))
                                    go_ret
                                    exact ⟨by first | rfl | (simp [errW_none, errW_some] <;> rfl) | (simp only [← hji2, ← hji29]; first | rfl | (simp [errW_none, errW_some] <;> rfl)) | (simp [*, errW_none, errW_some] <;> rfl) | (simp [errW_none, errW_some, ba_bne, ba_beq]; done), by repeat (first | (with_reducible first | exact HB.out | apply below_alloc | apply pw_below_drewN | apply below_drew1) | exact HB.out)⟩
                                  · rw [if_neg c37] at H
                                    have c37b0 : (t482 == 17) = false := beq_eq_false_iff_ne.mpr c37
                                    have c37b1 : (t482 != 17) = true := bne_iff_ne.mpr c37
                                    obtain rfl := Option.some.inj H
                                    obtain ⟨Ao49, co49, eo49⟩ := Kd.R_slice HO_5.out
                                    subst eo49
                                    go_wp2_with (first | ((with_reducible refine gate_callee (f := 23) rfl ?_); refine goesL_ (some 59) rfl rfl Tryd.func23 (by kernel_rfl) rfl #[.slice Ao49 t462.length co49] rfl (by (try simp only [List.map_toArray, List.map_cons, List.map_nil]); first | done | rfl | (simp only [List.length_drop, List.length_take]; rfl) | (go_simp; done) | (go_simp; unfold wrap64; omega) | (go_simp; simp only [ByteArray.size_extract]; unfold wrap64; omega)) ?_; (with_reducible refine (pax_Decode.calls kj14 (fun k_ => some k_ = (.slice Ao49 t462.length co49 : Value).ownBlock) _ _ t462 t466 t469 _ ?side1 ?side2 A27.out).mono ?_); (case side1 => exact Kd.R_V (Kd.R_tight rfl (HO_5.out))); (case side2 => exact Glob.to (by decide) HG.out (by repeat (first | (with_reducible first | exact HB.out | apply below_alloc | apply pw_below_drewN | apply below_drew1) | exact HB.out))); rintro e w50 ⟨v467, rfl, ho0, hb⟩; refine ⟨_, rfl, ?_⟩; have n0_ := Aside0.mk (Kd.R_below (by (with_reducible repeat (first | apply Kd.R_alloc | apply Kd.R_drewN | apply Kd.R_drew)); exact HO_5.out) hb); have n1_ := Aside0.mk (Kd.R_lower (Kd.R_mono (ok' := fun k_ => True) ho0 (fun _ hk_ => trivial)) (below_size (by repeat (first | (with_reducible first | exact HB.out | apply below_alloc | apply pw_below_drewN | apply below_drew1) | exact HB.out)))); have n2_ := Aside0.mk (below_step (by repeat (first | (with_reducible first | exact HB.out | apply below_alloc | apply pw_below_drewN | apply below_drew1) | exact HB.out)) hb); clear HO_5; clear HB; have HO_5 := n0_; have HO468 := n1_; have HB := n2_; clear n0_ n1_ n2_; (try clear hb); (try clear hb2); (try clear hk); (try clear hi); (try clear ho0)) | ((with_reducible refine gate_dst (N := 63) rfl ?_); (try (refine gate_guard (by rfl) ?_; dsimp only)); refine Kd.R_lit (Kd.int .u8) _ 5 ?hg (N := 63) ?hd (xs := ([] : List Int)) (inner := []) (ok := fun _ => True) (okp := fun _ => True) ?hr ?hp (fun _ hk => hk) trivial (Below.refl _ _) (Nat.le_refl _) (by simp) ?_; (case hd => rfl); (case hg => rfl); (case hr => first | (go_simp; done) | (go_simp; rfl)); (case hp => exact (Reps.none _ _)); intro v471 w51 ho52 hb hg_ hnew_; clear hg_ hnew_; (first | rw [← Ny470.out] at ho52 | (simp only [Int.reduceToNat] at ho52; rw [← Ny470.out] at ho52)); have n0_ := Aside0.mk (Kd.R_elder' (by (with_reducible repeat (first | apply Kd.R_alloc | apply Kd.R_drewN | apply Kd.R_drew)); exact HO_5.out) (Kd.R_base ho52) hb); have n1_ := Aside0.mk (Kd.R_below (by (with_reducible repeat (first | apply Kd.R_alloc | apply Kd.R_drewN | apply Kd.R_drew)); exact HO468.out) hb); have n2_ := Aside0.mk (Kd.R_lower (Kd.R_new' ho52 (Kd.R_lt (by (with_reducible repeat (first | apply Kd.R_alloc | apply Kd.R_drewN | apply Kd.R_drew)); exact HO_5.out))) (below_size (by repeat (first | (with_reducible first | exact HB.out | apply below_alloc | apply pw_below_drewN | apply below_drew1) | exact HB.out)))); have n3_ := Aside0.mk (below_step (by repeat (first | (with_reducible first | exact HB.out | apply below_alloc | apply pw_below_drewN | apply below_drew1) | exact HB.out)) hb); clear HO_5; clear HO468; clear HB; have HO_5 := n0_; have HO468 := n1_; have HO472 := n2_; have HB := n3_; clear n0_ n1_ n2_ n3_; clear hb ho52) | ((with_reducible refine gate_builtin (b := .append) (xs := #[.tmp 63, .tmp 64]) rfl ?_); (try (refine gate_guard (by rfl) ?_; dsimp only)); at_builtin; refine Kd.R_append_rows (Kd.int .u8) (w0 := w) w.heap.size rfl (.tmp 63) (.tmp 64) 22 5 (.int .u8 0) 1 rfl Tryd.underlying22 info5 rfl (by decide) (by omega) v471 y470 t462 _ _ _ (fun k_ => some k_ ≠ (.slice Ao49 t462.length co49 : Value).ownBlock) (fun _ => False) rfl rfl ?aO ?aR (fun _ _ h => h) (fun _ h => h.elim) ?aF ?aB ?aS ?aL ?_; (case aR => repeat (first | exact (Kd.R_reads' HO_5.out).2.2 | (with_reducible refine Kd.C_alloc ?_ _) | (with_reducible refine Kd.C_drewN ?_ _) | (with_reducible refine Kd.C_drew ?_))); (case aB => exact (by repeat (first | (with_reducible first | exact HB.out | apply below_alloc | apply pw_below_drewN | apply below_drew1) | exact HB.out))); (case aF => exact (fun k_ hk => Kd.fresh' (Kd.R_lt (by (with_reducible repeat (first | apply Kd.R_alloc | apply Kd.R_drewN | apply Kd.R_drew)); exact HO_5.out)) k_ hk)); (case aO => exact (by (with_reducible repeat (first | apply Kd.R_alloc | apply Kd.R_drewN | apply Kd.R_drew)); exact Kd.R_mono HO472.out (fun _ hk => hk.2))); (case aS => exact (below_size (by repeat (first | (with_reducible first | exact HB.out | apply below_alloc | apply pw_below_drewN | apply below_drew1) | exact HB.out)))); (case aL => have := LMc28.out; omega); intro v474 w53 ho hb hg hat; rw [← Ny473.out] at ho; have n0_ := Aside0.mk (Kd.R_after (ok := (fun _ => True)) (by (with_reducible repeat (first | apply Kd.R_alloc | apply Kd.R_drewN | apply Kd.R_drew)); exact HO_5.out) hg hat); have n1_ := Aside0.mk (Kd.R_over' (by (with_reducible repeat (first | apply Kd.R_alloc | apply Kd.R_drewN | apply Kd.R_drew)); exact HO468.out) (Kd.R_typed (by (with_reducible repeat (first | apply Kd.R_alloc | apply Kd.R_drewN | apply Kd.R_drew)); exact HO472.out)) (by decide) hg); have n2_ := Aside0.mk (hb); have n3_ := Aside0.mk (ho); clear HO_5; clear HO468; clear HB; clear HO472; have HO_5 := n0_; have HO468 := n1_; have HB := n2_; have HO475 := n3_; clear n0_ n1_ n2_ n3_; clear ho hb hg hat) | (at_builtin; refine Kd.R_append_zeros (Kd.int .u8) (w0 := w) w.heap.size rfl (.tmp 65) (.tmp 67) 22 3 5 (.int .u8 0) 1 rfl Tryd.underlying22 Tryd.underlying3 info5 rfl (by decide) (by omega) v474 y473 0 (ji29 : Int) (fun k_ => some k_ ≠ (.slice Ao49 t462.length co49 : Value).ownBlock) rfl rfl rfl ?aF ?aO (of_decide_eq_true (by first | (with_reducible assumption) | assumption)) ?aB ?aS ?aL ?_; (case aB => exact (by repeat (first | (with_reducible first | exact HB.out | apply below_alloc | apply pw_below_drewN | apply below_drew1) | exact HB.out))); (case aF => exact (fun k_ hk => Kd.fresh' (Kd.R_lt (by (with_reducible repeat (first | apply Kd.R_alloc | apply Kd.R_drewN | apply Kd.R_drew)); exact HO_5.out)) k_ hk)); (case aO => exact (by (with_reducible repeat (first | apply Kd.R_alloc | apply Kd.R_drewN | apply Kd.R_drew)); exact HO475.out)); (case aS => exact (below_size (by repeat (first | (with_reducible first | exact HB.out | apply below_alloc | apply pw_below_drewN | apply below_drew1) | exact HB.out)))); (case aL => have := LMc31.out; omega); intro v477 w54 ho hb hg hat; rw [← Ny476.out] at ho; have n0_ := Aside0.mk (Kd.R_after (ok := (fun _ => True)) (by (with_reducible repeat (first | apply Kd.R_alloc | apply Kd.R_drewN | apply Kd.R_drew)); exact HO_5.out) hg hat); have n1_ := Aside0.mk (Kd.R_over' (by (with_reducible repeat (first | apply Kd.R_alloc | apply Kd.R_drewN | apply Kd.R_drew)); exact HO468.out) (Kd.R_typed (by (with_reducible repeat (first | apply Kd.R_alloc | apply Kd.R_drewN | apply Kd.R_drew)); exact HO475.out)) (by decide) hg); have n2_ := Aside0.mk (hb); have n3_ := Aside0.mk (ho); clear HO_5; clear HO468; clear HB; clear HO475; have HO_5 := n0_; have HO468 := n1_; have HB := n2_; have HO478 := n3_; clear n0_ n1_ n2_ n3_; clear ho hb hg hat; obtain ⟨Ao55, co55, eo55⟩ := Kd.R_slice HO478.out; subst eo55) | ((with_reducible refine gate_callee (f := 23) rfl ?_); refine goesL_ (some 69) rfl rfl Tryd.func23 (by kernel_rfl) rfl #[.slice Ao55 y476.length co55] rfl (by (try simp only [List.map_toArray, List.map_cons, List.map_nil]); first | done | rfl | (simp only [List.length_drop, List.length_take]; rfl) | (go_simp; done) | (go_simp; unfold wrap64; omega) | (go_simp; simp only [ByteArray.size_extract]; unfold wrap64; omega)) ?_; (with_reducible refine (pax_Decode.calls kj14 (fun k_ => some k_ = (.slice Ao55 y476.length co55 : Value).ownBlock) _ _ y476 t479 t482 _ ?side1 ?side2 A32.out).mono ?_); (case side1 => exact Kd.R_V (Kd.R_tight rfl (Kd.R_apart' (HO478.out) (Kd.R_typed HO468.out) (by decide)))); (case side2 => exact Glob.to (by decide) HG.out (by repeat (first | (with_reducible first | exact HB.out | apply below_alloc | apply pw_below_drewN | apply below_drew1) | exact HB.out))); rintro e w56 ⟨v480, rfl, ho0, hb⟩; refine ⟨_, rfl, ?_⟩; have n0_ := Aside0.mk (Kd.R_below (by (with_reducible repeat (first | apply Kd.R_alloc | apply Kd.R_drewN | apply Kd.R_drew)); exact HO_5.out) hb); have n1_ := Aside0.mk (Kd.R_elder' (by (with_reducible repeat (first | apply Kd.R_alloc | apply Kd.R_drewN | apply Kd.R_drew)); exact HO468.out) (Kd.R_base ho0) hb); have n2_ := Aside0.mk (Kd.R_below (by (with_reducible repeat (first | apply Kd.R_alloc | apply Kd.R_drewN | apply Kd.R_drew)); exact HO478.out) hb); have n3_ := Aside0.mk (Kd.R_lower (Kd.R_new' (Kd.R_mono (ok' := fun k_ => True) ho0 (fun _ hk_ => trivial)) (Kd.R_lt (by (with_reducible repeat (first | apply Kd.R_alloc | apply Kd.R_drewN | apply Kd.R_drew)); exact HO468.out))) (below_size (by repeat (first | (with_reducible first | exact HB.out | apply below_alloc | apply pw_below_drewN | apply below_drew1) | exact HB.out)))); have n4_ := Aside0.mk (below_step (by repeat (first | (with_reducible first | exact HB.out | apply below_alloc | apply pw_below_drewN | apply below_drew1) | exact HB.out)) hb); clear HO_5; clear HO468; clear HO478; clear HB; have HO_5 := n0_; have HO468 := n1_; have HO478 := n2_; have HO481 := n3_; have HB := n4_; clear n0_ n1_ n2_ n3_ n4_; (try clear hb); (try clear hb2); (try clear hk); (try clear hi); (try clear ho0); obtain ⟨Ao57, co57, eo57⟩ := Kd.R_slice HO468.out; subst eo57; have p483 : 0 ≤ (0 : Int) := (by omega); have q483 : 0 < (t466.length : Int) := of_decide_eq_true (by first | (with_reducible assumption) | assumption); obtain ⟨ad483, e483, hx483_0, hx483_1⟩ := at_T42 (Kd.R_reads' HO468.out).2.2 0 p483 q483; cases e483; have qi483 : (0 < t466.length) = True := eq_true (by omega); (try rw [show ((0 : Int)).toNat = 0 from rfl] at hx483_0); (try rw [show 0 * 2 = 0 from rfl] at hx483_0); (try rw [Addr.add_zero'] at hx483_0); (try rw [show ((0 : Int)).toNat = 0 from rfl] at hx483_1); (try rw [show 0 * 2 = 0 from rfl] at hx483_1); (try rw [Addr.add_zero'] at hx483_1); replace p483 := eq_true p483; replace q483 := eq_true q483))
                                    go_ret
                                    exact ⟨by first | rfl | (simp [errW_none, errW_some] <;> rfl) | (simp only [← hji2, ← hji29]; first | rfl | (simp [errW_none, errW_some] <;> rfl)) | (simp [*, errW_none, errW_some] <;> rfl) | (simp [errW_none, errW_some, ba_bne, ba_beq]; done), by repeat (first | (with_reducible first | exact HB.out | apply below_alloc | apply pw_below_drewN | apply below_drew1) | exact HB.out)⟩
                                · rw [if_neg c36] at H
                                  have c36b0 : ((((rd_T42 t466 0).f1).size : Int) == ji2) = false := beq_eq_false_iff_ne.mpr c36
                                  have c36b1 : ((((rd_T42 t466 0).f1).size : Int) != ji2) = true := bne_iff_ne.mpr c36
                                  obtain rfl := Option.some.inj H
                                  obtain ⟨Ao58, co58, eo58⟩ := Kd.R_slice HO_5.out
                                  subst eo58
                                  go_wp2_with (first | ((with_reducible refine gate_callee (f := 23) rfl ?_); refine goesL_ (some 59) rfl rfl Tryd.func23 (by kernel_rfl) rfl #[.slice Ao58 t462.length co58] rfl (by (try simp only [List.map_toArray, List.map_cons, List.map_nil]); first | done | rfl | (simp only [List.length_drop, List.length_take]; rfl) | (go_simp; done) | (go_simp; unfold wrap64; omega) | (go_simp; simp only [ByteArray.size_extract]; unfold wrap64; omega)) ?_; (with_reducible refine (pax_Decode.calls kj14 (fun k_ => some k_ = (.slice Ao58 t462.length co58 : Value).ownBlock) _ _ t462 t466 t469 _ ?side1 ?side2 A27.out).mono ?_); (case side1 => exact Kd.R_V (Kd.R_tight rfl (HO_5.out))); (case side2 => exact Glob.to (by decide) HG.out (by repeat (first | (with_reducible first | exact HB.out | apply below_alloc | apply pw_below_drewN | apply below_drew1) | exact HB.out))); rintro e w59 ⟨v467, rfl, ho0, hb⟩; refine ⟨_, rfl, ?_⟩; have n0_ := Aside0.mk (Kd.R_below (by (with_reducible repeat (first | apply Kd.R_alloc | apply Kd.R_drewN | apply Kd.R_drew)); exact HO_5.out) hb); have n1_ := Aside0.mk (Kd.R_lower (Kd.R_mono (ok' := fun k_ => True) ho0 (fun _ hk_ => trivial)) (below_size (by repeat (first | (with_reducible first | exact HB.out | apply below_alloc | apply pw_below_drewN | apply below_drew1) | exact HB.out)))); have n2_ := Aside0.mk (below_step (by repeat (first | (with_reducible first | exact HB.out | apply below_alloc | apply pw_below_drewN | apply below_drew1) | exact HB.out)) hb); clear HO_5; clear HB; have HO_5 := n0_; have HO468 := n1_; have HB := n2_; clear n0_ n1_ n2_; (try clear hb); (try clear hb2); (try clear hk); (try clear hi); (try clear ho0)) | ((with_reducible refine gate_dst (N := 63) rfl ?_); (try (refine gate_guard (by rfl) ?_; dsimp only)); refine Kd.R_lit (Kd.int .u8) _ 5 ?hg (N := 63) ?hd (xs := ([] : List Int)) (inner := []) (ok := fun _ => True) (okp := fun _ => True) ?hr ?hp (fun _ hk => hk) trivial (Below.refl _ _) (Nat.le_refl _) (by simp) ?_; (case hd => rfl); (case hg => rfl); (case hr => first | (go_simp; done) | (go_simp; rfl)); (case hp => exact (Reps.none _ _)); intro v471 w60 ho61 hb hg_ hnew_; clear hg_ hnew_; (first | rw [← Ny470.out] at ho61 | (simp only [Int.reduceToNat] at ho61; rw [← Ny470.out] at ho61)); have n0_ := Aside0.mk (Kd.R_elder' (by (with_reducible repeat (first | apply Kd.R_alloc | apply Kd.R_drewN | apply Kd.R_drew)); exact HO_5.out) (Kd.R_base ho61) hb); have n1_ := Aside0.mk (Kd.R_below (by (with_reducible repeat (first | apply Kd.R_alloc | apply Kd.R_drewN | apply Kd.R_drew)); exact HO468.out) hb); have n2_ := Aside0.mk (Kd.R_lower (Kd.R_new' ho61 (Kd.R_lt (by (with_reducible repeat (first | apply Kd.R_alloc | apply Kd.R_drewN | apply Kd.R_drew)); exact HO_5.out))) (below_size (by repeat (first | (with_reducible first | exact HB.out | apply below_alloc | apply pw_below_drewN | apply below_drew1) | exact HB.out)))); have n3_ := Aside0.mk (below_step (by repeat (first | (with_reducible first | exact HB.out | apply below_alloc | apply pw_below_drewN | apply below_drew1) | exact HB.out)) hb); clear HO_5; clear HO468; clear HB; have HO_5 := n0_; have HO468 := n1_; have HO472 := n2_; have HB := n3_; clear n0_ n1_ n2_ n3_; clear hb ho61) | ((with_reducible refine gate_builtin (b := .append) (xs := #[.tmp 63, .tmp 64]) rfl ?_); (try (refine gate_guard (by rfl) ?_; dsimp only)); at_builtin; refine Kd.R_append_rows (Kd.int .u8) (w0 := w) w.heap.size rfl (.tmp 63) (.tmp 64) 22 5 (.int .u8 0) 1 rfl Tryd.underlying22 info5 rfl (by decide) (by omega) v471 y470 t462 _ _ _ (fun k_ => some k_ ≠ (.slice Ao58 t462.length co58 : Value).ownBlock) (fun _ => False) rfl rfl ?aO ?aR (fun _ _ h => h) (fun _ h => h.elim) ?aF ?aB ?aS ?aL ?_; (case aR => repeat (first | exact (Kd.R_reads' HO_5.out).2.2 | (with_reducible refine Kd.C_alloc ?_ _) | (with_reducible refine Kd.C_drewN ?_ _) | (with_reducible refine Kd.C_drew ?_))); (case aB => exact (by repeat (first | (with_reducible first | exact HB.out | apply below_alloc | apply pw_below_drewN | apply below_drew1) | exact HB.out))); (case aF => exact (fun k_ hk => Kd.fresh' (Kd.R_lt (by (with_reducible repeat (first | apply Kd.R_alloc | apply Kd.R_drewN | apply Kd.R_drew)); exact HO_5.out)) k_ hk)); (case aO => exact (by (with_reducible repeat (first | apply Kd.R_alloc | apply Kd.R_drewN | apply Kd.R_drew)); exact Kd.R_mono HO472.out (fun _ hk => hk.2))); (case aS => exact (below_size (by repeat (first | (with_reducible first | exact HB.out | apply below_alloc | apply pw_below_drewN | apply below_drew1) | exact HB.out)))); (case aL => have := LMc28.out; omega); intro v474 w62 ho hb hg hat; rw [← Ny473.out] at ho; have n0_ := Aside0.mk (Kd.R_after (ok := (fun _ => True)) (by (with_reducible repeat (first | apply Kd.R_alloc | apply Kd.R_drewN | apply Kd.R_drew)); exact HO_5.out) hg hat); have n1_ := Aside0.mk (Kd.R_over' (by (with_reducible repeat (first | apply Kd.R_alloc | apply Kd.R_drewN | apply Kd.R_drew)); exact HO468.out) (Kd.R_typed (by (with_reducible repeat (first | apply Kd.R_alloc | apply Kd.R_drewN | apply Kd.R_drew)); exact HO472.out)) (by decide) hg); have n2_ := Aside0.mk (hb); have n3_ := Aside0.mk (ho); clear HO_5; clear HO468; clear HB; clear HO472; have HO_5 := n0_; have HO468 := n1_; have HB := n2_; have HO475 := n3_; clear n0_ n1_ n2_ n3_; clear ho hb hg hat) | (at_builtin; refine Kd.R_append_zeros (Kd.int .u8) (w0 := w) w.heap.size rfl (.tmp 65) (.tmp 67) 22 3 5 (.int .u8 0) 1 rfl Tryd.underlying22 Tryd.underlying3 info5 rfl (by decide) (by omega) v474 y473 0 (ji29 : Int) (fun k_ => some k_ ≠ (.slice Ao58 t462.length co58 : Value).ownBlock) rfl rfl rfl ?aF ?aO (of_decide_eq_true (by first | (with_reducible assumption) | assumption)) ?aB ?aS ?aL ?_; (case aB => exact (by repeat (first | (with_reducible first | exact HB.out | apply below_alloc | apply pw_below_drewN | apply below_drew1) | exact HB.out))); (case aF => exact (fun k_ hk => Kd.fresh' (Kd.R_lt (by (with_reducible repeat (first | apply Kd.R_alloc | apply Kd.R_drewN | apply Kd.R_drew)); exact HO_5.out)) k_ hk)); (case aO => exact (by (with_reducible repeat (first | apply Kd.R_alloc | apply Kd.R_drewN | apply Kd.R_drew)); exact HO475.out)); (case aS => exact (below_size (by repeat (first | (with_reducible first | exact HB.out | apply below_alloc | apply pw_below_drewN | apply below_drew1) | exact HB.out)))); (case aL => have := LMc31.out; omega); intro v477 w63 ho hb hg hat; rw [← Ny476.out] at ho; have n0_ := Aside0.mk (Kd.R_after (ok := (fun _ => True)) (by (with_reducible repeat (first | apply Kd.R_alloc | apply Kd.R_drewN | apply Kd.R_drew)); exact HO_5.out) hg hat); have n1_ := Aside0.mk (Kd.R_over' (by (with_reducible repeat (first | apply Kd.R_alloc | apply Kd.R_drewN | apply Kd.R_drew)); exact HO468.out) (Kd.R_typed (by (with_reducible repeat (first | apply Kd.R_alloc | apply Kd.R_drewN | apply Kd.R_drew)); exact HO475.out)) (by decide) hg); have n2_ := Aside0.mk (hb); have n3_ := Aside0.mk (ho); clear HO_5; clear HO468; clear HB; clear HO475; have HO_5 := n0_; have HO468 := n1_; have HB := n2_; have HO478 := n3_; clear n0_ n1_ n2_ n3_; clear ho hb hg hat; obtain ⟨Ao64, co64, eo64⟩ := Kd.R_slice HO478.out; subst eo64) | ((with_reducible refine gate_callee (f := 23) rfl ?_); refine goesL_ (some 69) rfl rfl Tryd.func23 (by kernel_rfl) rfl #[.slice Ao64 y476.length co64] rfl (by (try simp only [List.map_toArray, List.map_cons, List.map_nil]); first | done | rfl | (simp only [List.length_drop, List.length_take]; rfl) | (go_simp; done) | (go_simp; unfold wrap64; omega) | (go_simp; simp only [ByteArray.size_extract]; unfold wrap64; omega)) ?_; (with_reducible refine (pax_Decode.calls kj14 (fun k_ => some k_ = (.slice Ao64 y476.length co64 : Value).ownBlock) _ _ y476 t479 t482 _ ?side1 ?side2 A32.out).mono ?_); (case side1 => exact Kd.R_V (Kd.R_tight rfl (Kd.R_apart' (HO478.out) (Kd.R_typed HO468.out) (by decide)))); (case side2 => exact Glob.to (by decide) HG.out (by repeat (first | (with_reducible first | exact HB.out | apply below_alloc | apply pw_below_drewN | apply below_drew1) | exact HB.out))); rintro e w65 ⟨v480, rfl, ho0, hb⟩; refine ⟨_, rfl, ?_⟩; have n0_ := Aside0.mk (Kd.R_below (by (with_reducible repeat (first | apply Kd.R_alloc | apply Kd.R_drewN | apply Kd.R_drew)); exact HO_5.out) hb); have n1_ := Aside0.mk (Kd.R_elder' (by (with_reducible repeat (first | apply Kd.R_alloc | apply Kd.R_drewN | apply Kd.R_drew)); exact HO468.out) (Kd.R_base ho0) hb); have n2_ := Aside0.mk (Kd.R_below (by (with_reducible repeat (first | apply Kd.R_alloc | apply Kd.R_drewN | apply Kd.R_drew)); exact HO478.out) hb); have n3_ := Aside0.mk (Kd.R_lower (Kd.R_new' (Kd.R_mono (ok' := fun k_ => True) ho0 (fun _ hk_ => trivial)) (Kd.R_lt (by (with_reducible repeat (first | apply Kd.R_alloc | apply Kd.R_drewN | apply Kd.R_drew)); exact HO468.out))) (below_size (by repeat (first | (with_reducible first | exact HB.out | apply below_alloc | apply pw_below_drewN | apply below_drew1) | exact HB.out)))); have n4_ := Aside0.mk (below_step (by repeat (first | (with_reducible first | exact HB.out | apply below_alloc | apply pw_below_drewN | apply below_drew1) | exact HB.out)) hb); clear HO_5; clear HO468; clear HO478; clear HB; have HO_5 := n0_; have HO468 := n1_; have HO478 := n2_; have HO481 := n3_; have HB := n4_; clear n0_ n1_ n2_ n3_ n4_; (try clear hb); (try clear hb2); (try clear hk); (try clear hi); (try clear ho0); obtain ⟨Ao66, co66, eo66⟩ := Kd.R_slice HO468.out; subst eo66; have p483 : 0 ≤ (0 : Int) := (by omega); have q483 : 0 < (t466.length : Int) := of_decide_eq_true (by first | (with_reducible assumption) | assumption); obtain ⟨ad483, e483, hx483_0, hx483_1⟩ := at_T42 (Kd.R_reads' HO468.out).2.2 0 p483 q483; cases e483; have qi483 : (0 < t466.length) = True := eq_true (by omega); (try rw [show ((0 : Int)).toNat = 0 from rfl] at hx483_0); (try rw [show 0 * 2 = 0 from rfl] at hx483_0); (try rw [Addr.add_zero'] at hx483_0); (try rw [show ((0 : Int)).toNat = 0 from rfl] at hx483_1); (try rw [show 0 * 2 = 0 from rfl] at hx483_1); (try rw [Addr.add_zero'] at hx483_1); replace p483 := eq_true p483; replace q483 := eq_true q483))
                                  go_ret
                                  exact ⟨by first | rfl | (simp [errW_none, errW_some] <;> rfl) | (simp only [← hji2, ← hji29]; first | rfl | (simp [errW_none, errW_some] <;> rfl)) | (simp [*, errW_none, errW_some] <;> rfl) | (simp [errW_none, errW_some, ba_bne, ba_beq]; done), by repeat (first | (with_reducible first | exact HB.out | apply below_alloc | apply pw_below_drewN | apply below_drew1) | exact HB.out)⟩
                              · rw [if_neg c35] at H
                                exact absurd H (by simp)
                            · rw [if_neg c34] at H
                              have c34b0 : ((t466.length : Int) == 1) = false := beq_eq_false_iff_ne.mpr c34
                              have c34b1 : ((t466.length : Int) != 1) = true := bne_iff_ne.mpr c34
                              obtain rfl := Option.some.inj H
                              obtain ⟨Ao67, co67, eo67⟩ := Kd.R_slice HO_5.out
                              subst eo67
                              go_wp2_with (first | ((with_reducible refine gate_callee (f := 23) rfl ?_); refine goesL_ (some 59) rfl rfl Tryd.func23 (by kernel_rfl) rfl #[.slice Ao67 t462.length co67] rfl (by (try simp only [List.map_toArray, List.map_cons, List.map_nil]); first | done | rfl | (simp only [List.length_drop, List.length_take]; rfl) | (go_simp; done) | (go_simp; unfold wrap64; omega) | (go_simp; simp only [ByteArray.size_extract]; unfold wrap64; omega)) ?_; (with_reducible refine (pax_Decode.calls kj14 (fun k_ => some k_ = (.slice Ao67 t462.length co67 : Value).ownBlock) _ _ t462 t466 t469 _ ?side1 ?side2 A27.out).mono ?_); (case side1 => exact Kd.R_V (Kd.R_tight rfl (HO_5.out))); (case side2 => exact Glob.to (by decide) HG.out (by repeat (first | (with_reducible first | exact HB.out | apply below_alloc | apply pw_below_drewN | apply below_drew1) | exact HB.out))); rintro e w68 ⟨v467, rfl, ho0, hb⟩; refine ⟨_, rfl, ?_⟩; have n0_ := Aside0.mk (Kd.R_below (by (with_reducible repeat (first | apply Kd.R_alloc | apply Kd.R_drewN | apply Kd.R_drew)); exact HO_5.out) hb); have n1_ := Aside0.mk (Kd.R_lower (Kd.R_mono (ok' := fun k_ => True) ho0 (fun _ hk_ => trivial)) (below_size (by repeat (first | (with_reducible first | exact HB.out | apply below_alloc | apply pw_below_drewN | apply below_drew1) | exact HB.out)))); have n2_ := Aside0.mk (below_step (by repeat (first | (with_reducible first | exact HB.out | apply below_alloc | apply pw_below_drewN | apply below_drew1) | exact HB.out)) hb); clear HO_5; clear HB; have HO_5 := n0_; have HO468 := n1_; have HB := n2_; clear n0_ n1_ n2_; (try clear hb); (try clear hb2); (try clear hk); (try clear hi); (try clear ho0)) | ((with_reducible refine gate_dst (N := 63) rfl ?_); (try (refine gate_guard (by rfl) ?_; dsimp only)); refine Kd.R_lit (Kd.int .u8) _ 5 ?hg (N := 63) ?hd (xs := ([] : List Int)) (inner := []) (ok := fun _ => True) (okp := fun _ => True) ?hr ?hp (fun _ hk => hk) trivial (Below.refl _ _) (Nat.le_refl _) (by simp) ?_; (case hd => rfl); (case hg => rfl); (case hr => first | (go_simp; done) | (go_simp; rfl)); (case hp => exact (Reps.none _ _)); intro v471 w69 ho70 hb hg_ hnew_; clear hg_ hnew_; (first | rw [← Ny470.out] at ho70 | (simp only [Int.reduceToNat] at ho70; rw [← Ny470.out] at ho70)); have n0_ := Aside0.mk (Kd.R_elder' (by (with_reducible repeat (first | apply Kd.R_alloc | apply Kd.R_drewN | apply Kd.R_drew)); exact HO_5.out) (Kd.R_base ho70) hb); have n1_ := Aside0.mk (Kd.R_below (by (with_reducible repeat (first | apply Kd.R_alloc | apply Kd.R_drewN | apply Kd.R_drew)); exact HO468.out) hb); have n2_ := Aside0.mk (Kd.R_lower (Kd.R_new' ho70 (Kd.R_lt (by (with_reducible repeat (first | apply Kd.R_alloc | apply Kd.R_drewN | apply Kd.R_drew)); exact HO_5.out))) (below_size (by repeat (first | (with_reducible first | exact HB.out | apply below_alloc | apply pw_below_drewN | apply below_drew1) | exact HB.out)))); have n3_ := Aside0.mk (below_step (by repeat (first | (with_reducible first | exact HB.out | apply below_alloc | apply pw_below_drewN | apply below_drew1) | exact HB.out)) hb); clear HO_5; clear HO468; clear HB; have HO_5 := n0_; have HO468 := n1_; have HO472 := n2_; have HB := n3_; clear n0_ n1_ n2_ n3_; clear hb ho70) | ((with_reducible refine gate_builtin (b := .append) (xs := #[.tmp 63, .tmp 64]) rfl ?_); (try (refine gate_guard (by rfl) ?_; dsimp only)); at_builtin; refine Kd.R_append_rows (Kd.int .u8) (w0 := w) w.heap.size rfl (.tmp 63) (.tmp 64) 22 5 (.int .u8 0) 1 rfl Tryd.underlying22 info5 rfl (by decide) (by omega) v471 y470 t462 _ _ _ (fun k_ => some k_ ≠ (.slice Ao67 t462.length co67 : Value).ownBlock) (fun _ => False) rfl rfl ?aO ?aR (fun _ _ h => h) (fun _ h => h.elim) ?aF ?aB ?aS ?aL ?_; (case aR => repeat (first | exact (Kd.R_reads' HO_5.out).2.2 | (with_reducible refine Kd.C_alloc ?_ _) | (with_reducible refine Kd.C_drewN ?_ _) | (with_reducible refine Kd.C_drew ?_))); (case aB => exact (by repeat (first | (with_reducible first | exact HB.out | apply below_alloc | apply pw_below_drewN | apply below_drew1) | exact HB.out))); (case aF => exact (fun k_ hk => Kd.fresh' (Kd.R_lt (by (with_reducible repeat (first | apply Kd.R_alloc | apply Kd.R_drewN | apply Kd.R_drew)); exact HO_5.out)) k_ hk)); (case aO => exact (by (with_reducible repeat (first | apply Kd.R_alloc | apply Kd.R_drewN | apply Kd.R_drew)); exact Kd.R_mono HO472.out (fun _ hk => hk.2))); (case aS => exact (below_size (by repeat (first | (with_reducible first | exact HB.out | apply below_alloc | apply pw_below_drewN | apply below_drew1) | exact HB.out)))); (case aL => have := LMc28.out; omega); intro v474 w71 ho hb hg hat; rw [← Ny473.out] at ho; have n0_ := Aside0.mk (Kd.R_after (ok := (fun _ => True)) (by (with_reducible repeat (first | apply Kd.R_alloc | apply Kd.R_drewN | apply Kd.R_drew)); exact HO_5.out) hg hat); have n1_ := Aside0.mk (Kd.R_over' (by (with_reducible repeat (first | apply Kd.R_alloc | apply Kd.R_drewN | apply Kd.R_drew)); exact HO468.out) (Kd.R_typed (by (with_reducible repeat (first | apply Kd.R_alloc | apply Kd.R_drewN | apply Kd.R_drew)); exact HO472.out)) (by decide) hg); have n2_ := Aside0.mk (hb); have n3_ := Aside0.mk (ho); clear HO_5; clear HO468; clear HB; clear HO472; have HO_5 := n0_; have HO468 := n1_; have HB := n2_; have HO475 := n3_; clear n0_ n1_ n2_ n3_; clear ho hb hg hat) | (at_builtin; refine Kd.R_append_zeros (Kd.int .u8) (w0 := w) w.heap.size rfl (.tmp 65) (.tmp 67) 22 3 5 (.int .u8 0) 1 rfl Tryd.underlying22 Tryd.underlying3 info5 rfl (by decide) (by omega) v474 y473 0 (ji29 : Int) (fun k_ => some k_ ≠ (.slice Ao67 t462.length co67 : Value).ownBlock) rfl rfl rfl ?aF ?aO (of_decide_eq_true (by first | (with_reducible assumption) | assumption)) ?aB ?aS ?aL ?_; (case aB => exact (by repeat (first | (with_reducible first | exact HB.out | apply below_alloc | apply pw_below_drewN | apply below_drew1) | exact HB.out))); (case aF => exact (fun k_ hk => Kd.fresh' (Kd.R_lt (by (with_reducible repeat (first | apply Kd.R_alloc | apply Kd.R_drewN | apply Kd.R_drew)); exact HO_5.out)) k_ hk)); (case aO => exact (by (with_reducible repeat (first | apply Kd.R_alloc | apply Kd.R_drewN | apply Kd.R_drew)); exact HO475.out)); (case aS => exact (below_size (by repeat (first | (with_reducible first | exact HB.out | apply below_alloc | apply pw_below_drewN | apply below_drew1) | exact HB.out)))); (case aL => have := LMc31.out; omega); intro v477 w72 ho hb hg hat; rw [← Ny476.out] at ho; have n0_ := Aside0.mk (Kd.R_after (ok := (fun _ => True)) (by (with_reducible repeat (first | apply Kd.R_alloc | apply Kd.R_drewN | apply Kd.R_drew)); exact HO_5.out) hg hat); have n1_ := Aside0.mk (Kd.R_over' (by (with_reducible repeat (first | apply Kd.R_alloc | apply Kd.R_drewN | apply Kd.R_drew)); exact HO468.out) (Kd.R_typed (by (with_reducible repeat (first | apply Kd.R_alloc | apply Kd.R_drewN | apply Kd.R_drew)); exact HO475.out)) (by decide) hg); have n2_ := Aside0.mk (hb); have n3_ := Aside0.mk (ho); clear HO_5; clear HO468; clear HB; clear HO475; have HO_5 := n0_; have HO468 := n1_; have HB := n2_; have HO478 := n3_; clear n0_ n1_ n2_ n3_; clear ho hb hg hat; obtain ⟨Ao73, co73, eo73⟩ := Kd.R_slice HO478.out; subst eo73) | ((with_reducible refine gate_callee (f := 23) rfl ?_); refine goesL_ (some 69) rfl rfl Tryd.func23 (by kernel_rfl) rfl #[.slice Ao73 y476.length co73] rfl (by (try simp only [List.map_toArray, List.map_cons, List.map_nil]); first | done | rfl | (simp only [List.length_drop, List.length_take]; rfl) | (go_simp; done) | (go_simp; unfold wrap64; omega) | (go_simp; simp only [ByteArray.size_extract]; unfold wrap64; omega)) ?_; (with_reducible refine (pax_Decode.calls kj14 (fun k_ => some k_ = (.slice Ao73 y476.length co73 : Value).ownBlock) _ _ y476 t479 t482 _ ?side1 ?side2 A32.out).mono ?_); (case side1 => exact Kd.R_V (Kd.R_tight rfl (Kd.R_apart' (HO478.out) (Kd.R_typed HO468.out) (by decide)))); (case side2 => exact Glob.to (by decide) HG.out (by repeat (first | (with_reducible first | exact HB.out | apply below_alloc | apply pw_below_drewN | apply below_drew1) | exact HB.out))); rintro e w74 ⟨v480, rfl, ho0, hb⟩; refine ⟨_, rfl, ?_⟩; have n0_ := Aside0.mk (Kd.R_below (by (with_reducible repeat (first | apply Kd.R_alloc | apply Kd.R_drewN | apply Kd.R_drew)); exact HO_5.out) hb); have n1_ := Aside0.mk (Kd.R_elder' (by (with_reducible repeat (first | apply Kd.R_alloc | apply Kd.R_drewN | apply Kd.R_drew)); exact HO468.out) (Kd.R_base ho0) hb); have n2_ := Aside0.mk (Kd.R_below (by (with_reducible repeat (first | apply Kd.R_alloc | apply Kd.R_drewN | apply Kd.R_drew)); exact HO478.out) hb); have n3_ := Aside0.mk (Kd.R_lower (Kd.R_new' (Kd.R_mono (ok' := fun k_ => True) ho0 (fun _ hk_ => trivial)) (Kd.R_lt (by (with_reducible repeat (first | apply Kd.R_alloc | apply Kd.R_drewN | apply Kd.R_drew)); exact HO468.out))) (below_size (by repeat (first | (with_reducible first | exact HB.out | apply below_alloc | apply pw_below_drewN | apply below_drew1) | exact HB.out)))); have n4_ := Aside0.mk (below_step (by repeat (first | (with_reducible first | exact HB.out | apply below_alloc | apply pw_below_drewN | apply below_drew1) | exact HB.out)) hb); clear HO_5; clear HO468; clear HO478; clear HB; have HO_5 := n0_; have HO468 := n1_; have HO478 := n2_; have HO481 := n3_; have HB := n4_; clear n0_ n1_ n2_ n3_ n4_; (try clear hb); (try clear hb2); (try clear hk); (try clear hi); (try clear ho0); obtain ⟨Ao75, co75, eo75⟩ := Kd.R_slice HO468.out; subst eo75))
                              go_ret
                              exact ⟨by first | rfl | (simp [errW_none, errW_some] <;> rfl) | (simp only [← hji2, ← hji29]; first | rfl | (simp [errW_none, errW_some] <;> rfl)) | (simp [*, errW_none, errW_some] <;> rfl) | (simp [errW_none, errW_some, ba_bne, ba_beq]; done), by repeat (first | (with_reducible first | exact HB.out | apply below_alloc | apply pw_below_drewN | apply below_drew1) | exact HB.out)⟩
                          · rw [if_neg c33] at H
                            have c33b0 : (t469 == 0) = false := beq_eq_false_iff_ne.mpr c33
                            have c33b1 : (t469 != 0) = true := bne_iff_ne.mpr c33
                            obtain rfl := Option.some.inj H
                            obtain ⟨Ao76, co76, eo76⟩ := Kd.R_slice HO_5.out
                            subst eo76
                            go_wp2_with (first | ((with_reducible refine gate_callee (f := 23) rfl ?_); refine goesL_ (some 59) rfl rfl Tryd.func23 (by kernel_rfl) rfl #[.slice Ao76 t462.length co76] rfl (by (try simp only [List.map_toArray, List.map_cons, List.map_nil]); first | done | rfl | (simp only [List.length_drop, List.length_take]; rfl) | (go_simp; done) | (go_simp; unfold wrap64; omega) | (go_simp; simp only [ByteArray.size_extract]; unfold wrap64; omega)) ?_; (with_reducible refine (pax_Decode.calls kj14 (fun k_ => some k_ = (.slice Ao76 t462.length co76 : Value).ownBlock) _ _ t462 t466 t469 _ ?side1 ?side2 A27.out).mono ?_); (case side1 => exact Kd.R_V (Kd.R_tight rfl (HO_5.out))); (case side2 => exact Glob.to (by decide) HG.out (by repeat (first | (with_reducible first | exact HB.out | apply below_alloc | apply pw_below_drewN | apply below_drew1) | exact HB.out))); rintro e w77 ⟨v467, rfl, ho0, hb⟩; refine ⟨_, rfl, ?_⟩; have n0_ := Aside0.mk (Kd.R_below (by (with_reducible repeat (first | apply Kd.R_alloc | apply Kd.R_drewN | apply Kd.R_drew)); exact HO_5.out) hb); have n1_ := Aside0.mk (Kd.R_lower (Kd.R_mono (ok' := fun k_ => True) ho0 (fun _ hk_ => trivial)) (below_size (by repeat (first | (with_reducible first | exact HB.out | apply below_alloc | apply pw_below_drewN | apply below_drew1) | exact HB.out)))); have n2_ := Aside0.mk (below_step (by repeat (first | (with_reducible first | exact HB.out | apply below_alloc | apply pw_below_drewN | apply below_drew1) | exact HB.out)) hb); clear HO_5; clear HB; have HO_5 := n0_; have HO468 := n1_; have HB := n2_; clear n0_ n1_ n2_; (try clear hb); (try clear hb2); (try clear hk); (try clear hi); (try clear ho0)) | ((with_reducible refine gate_dst (N := 63) rfl ?_); (try (refine gate_guard (by rfl) ?_; dsimp only)); refine Kd.R_lit (Kd.int .u8) _ 5 ?hg (N := 63) ?hd (xs := ([] : List Int)) (inner := []) (ok := fun _ => True) (okp := fun _ => True) ?hr ?hp (fun _ hk => hk) trivial (Below.refl _ _) (Nat.le_refl _) (by simp) ?_; (case hd => rfl); (case hg => rfl); (case hr => first | (go_simp; done) | (go_simp; rfl)); (case hp => exact (Reps.none _ _)); intro v471 w78 ho79 hb hg_ hnew_; clear hg_ hnew_; (first | rw [← Ny470.out] at ho79 | (simp only [Int.reduceToNat] at ho79; rw [← Ny470.out] at ho79)); have n0_ := Aside0.mk (Kd.R_elder' (by (with_reducible repeat (first | apply Kd.R_alloc | apply Kd.R_drewN | apply Kd.R_drew)); exact HO_5.out) (Kd.R_base ho79) hb); have n1_ := Aside0.mk (Kd.R_below (by (with_reducible repeat (first | apply Kd.R_alloc | apply Kd.R_drewN | apply Kd.R_drew)); exact HO468.out) hb); have n2_ := Aside0.mk (Kd.R_lower (Kd.R_new' ho79 (Kd.R_lt (by (with_reducible repeat (first | apply Kd.R_alloc | apply Kd.R_drewN | apply Kd.R_drew)); exact HO_5.out))) (below_size (by repeat (first | (with_reducible first | exact HB.out | apply below_alloc | apply pw_below_drewN | apply below_drew1) | exact HB.out)))); have n3_ := Aside0.mk (below_step (by repeat (first | (with_reducible first | exact HB.out | apply below_alloc | apply pw_below_drewN | apply below_drew1) | exact HB.out)) hb); clear HO_5; clear HO468; clear HB; have HO_5 := n0_; have HO468 := n1_; have HO472 := n2_; have HB := n3_; clear n0_ n1_ n2_ n3_; clear hb ho79) | ((with_reducible refine gate_builtin (b := .append) (xs := #[.tmp 63, .tmp 64]) rfl ?_); (try (refine gate_guard (by rfl) ?_; dsimp only)); at_builtin; refine Kd.R_append_rows (Kd.int .u8) (w0 := w) w.heap.size rfl (.tmp 63) (.tmp 64) 22 5 (.int .u8 0) 1 rfl Tryd.underlying22 info5 rfl (by decide) (by omega) v471 y470 t462 _ _ _ (fun k_ => some k_ ≠ (.slice Ao76 t462.length co76 : Value).ownBlock) (fun _ => False) rfl rfl ?aO ?aR (fun _ _ h => h) (fun _ h => h.elim) ?aF ?aB ?aS ?aL ?_; (case aR => repeat (first | exact (Kd.R_reads' HO_5.out).2.2 | (with_reducible refine Kd.C_alloc ?_ _) | (with_reducible refine Kd.C_drewN ?_ _) | (with_reducible refine Kd.C_drew ?_))); (case aB => exact (by repeat (first | (with_reducible first | exact HB.out | apply below_alloc | apply pw_below_drewN | apply below_drew1) | exact HB.out))); (case aF => exact (fun k_ hk => Kd.fresh' (Kd.R_lt (by (with_reducible repeat (first | apply Kd.R_alloc | apply Kd.R_drewN | apply Kd.R_drew)); exact HO_5.out)) k_ hk)); (case aO => exact (by (with_reducible repeat (first | apply Kd.R_alloc | apply Kd.R_drewN | apply Kd.R_drew)); exact Kd.R_mono HO472.out (fun _ hk => hk.2))); (case aS => exact (below_size (by repeat (first | (with_reducible first | exact HB.out | apply below_alloc | apply pw_below_drewN | apply below_drew1) | exact HB.out)))); (case aL => have := LMc28.out; omega); intro v474 w80 ho hb hg hat; rw [← Ny473.out] at ho; have n0_ := Aside0.mk (Kd.R_after (ok := (fun _ => True)) (by (with_reducible repeat (first | apply Kd.R_alloc | apply Kd.R_drewN | apply Kd.R_drew)); exact HO_5.out) hg hat); have n1_ := Aside0.mk (Kd.R_over' (by (with_reducible repeat (first | apply Kd.R_alloc | apply Kd.R_drewN | apply Kd.R_drew)); exact HO468.out) (Kd.R_typed (by (with_reducible repeat (first | apply Kd.R_alloc | apply Kd.R_drewN | apply Kd.R_drew)); exact HO472.out)) (by decide) hg); have n2_ := Aside0.mk (hb); have n3_ := Aside0.mk (ho); clear HO_5; clear HO468; clear HB; clear HO472; have HO_5 := n0_; have HO468 := n1_; have HB := n2_; have HO475 := n3_; clear n0_ n1_ n2_ n3_; clear ho hb hg hat) | (at_builtin; refine Kd.R_append_zeros (Kd.int .u8) (w0 := w) w.heap.size rfl (.tmp 65) (.tmp 67) 22 3 5 (.int .u8 0) 1 rfl Tryd.underlying22 Tryd.underlying3 info5 rfl (by decide) (by omega) v474 y473 0 (ji29 : Int) (fun k_ => some k_ ≠ (.slice Ao76 t462.length co76 : Value).ownBlock) rfl rfl rfl ?aF ?aO (of_decide_eq_true (by first | (with_reducible assumption) | assumption)) ?aB ?aS ?aL ?_; (case aB => exact (by repeat (first | (with_reducible first | exact HB.out | apply below_alloc | apply pw_below_drewN | apply below_drew1) | exact HB.out))); (case aF => exact (fun k_ hk => Kd.fresh' (Kd.R_lt (by (with_reducible repeat (first | apply Kd.R_alloc | apply Kd.R_drewN | apply Kd.R_drew)); exact HO_5.out)) k_ hk)); (case aO => exact (by (with_reducible repeat (first | apply Kd.R_alloc | apply Kd.R_drewN | apply Kd.R_drew)); exact HO475.out)); (case aS => exact (below_size (by repeat (first | (with_reducible first | exact HB.out | apply below_alloc | apply pw_below_drewN | apply below_drew1) | exact HB.out)))); (case aL => have := LMc31.out; omega); intro v477 w81 ho hb hg hat; rw [← Ny476.out] at ho; have n0_ := Aside0.mk (Kd.R_after (ok := (fun _ => True)) (by (with_reducible repeat (first | apply Kd.R_alloc | apply Kd.R_drewN | apply Kd.R_drew)); exact HO_5.out) hg hat); have n1_ := Aside0.mk (Kd.R_over' (by (with_reducible repeat (first | apply Kd.R_alloc | apply Kd.R_drewN | apply Kd.R_drew)); exact HO468.out) (Kd.R_typed (by (with_reducible repeat (first | apply Kd.R_alloc | apply Kd.R_drewN | apply Kd.R_drew)); exact HO475.out)) (by decide) hg); have n2_ := Aside0.mk (hb); have n3_ := Aside0.mk (ho); clear HO_5; clear HO468; clear HB; clear HO475; have HO_5 := n0_; have HO468 := n1_; have HB := n2_; have HO478 := n3_; clear n0_ n1_ n2_ n3_; clear ho hb hg hat; obtain ⟨Ao82, co82, eo82⟩ := Kd.R_slice HO478.out; subst eo82) | ((with_reducible refine gate_callee (f := 23) rfl ?_); refine goesL_ (some 69) rfl rfl Tryd.func23 (by kernel_rfl) rfl #[.slice Ao82 y476.length co82] rfl (by (try simp only [List.map_toArray, List.map_cons, List.map_nil]); first | done | rfl | (simp only [List.length_drop, List.length_take]; rfl) | (go_simp; done) | (go_simp; unfold wrap64; omega) | (go_simp; simp only [ByteArray.size_extract]; unfold wrap64; omega)) ?_; (with_reducible refine (pax_Decode.calls kj14 (fun k_ => some k_ = (.slice Ao82 y476.length co82 : Value).ownBlock) _ _ y476 t479 t482 _ ?side1 ?side2 A32.out).mono ?_); (case side1 => exact Kd.R_V (Kd.R_tight rfl (Kd.R_apart' (HO478.out) (Kd.R_typed HO468.out) (by decide)))); (case side2 => exact Glob.to (by decide) HG.out (by repeat (first | (with_reducible first | exact HB.out | apply below_alloc | apply pw_below_drewN | apply below_drew1) | exact HB.out))); rintro e w83 ⟨v480, rfl, ho0, hb⟩; refine ⟨_, rfl, ?_⟩; have n0_ := Aside0.mk (Kd.R_below (by (with_reducible repeat (first | apply Kd.R_alloc | apply Kd.R_drewN | apply Kd.R_drew)); exact HO_5.out) hb); have n1_ := Aside0.mk (Kd.R_elder' (by (with_reducible repeat (first | apply Kd.R_alloc | apply Kd.R_drewN | apply Kd.R_drew)); exact HO468.out) (Kd.R_base ho0) hb); have n2_ := Aside0.mk (Kd.R_below (by (with_reducible repeat (first | apply Kd.R_alloc | apply Kd.R_drewN | apply Kd.R_drew)); exact HO478.out) hb); have n3_ := Aside0.mk (Kd.R_lower (Kd.R_new' (Kd.R_mono (ok' := fun k_ => True) ho0 (fun _ hk_ => trivial)) (Kd.R_lt (by (with_reducible repeat (first | apply Kd.R_alloc | apply Kd.R_drewN | apply Kd.R_drew)); exact HO468.out))) (below_size (by repeat (first | (with_reducible first | exact HB.out | apply below_alloc | apply pw_below_drewN | apply below_drew1) | exact HB.out)))); have n4_ := Aside0.mk (below_step (by repeat (first | (with_reducible first | exact HB.out | apply below_alloc | apply pw_below_drewN | apply below_drew1) | exact HB.out)) hb); clear HO_5; clear HO468; clear HO478; clear HB; have HO_5 := n0_; have HO468 := n1_; have HO478 := n2_; have HO481 := n3_; have HB := n4_; clear n0_ n1_ n2_ n3_ n4_; (try clear hb); (try clear hb2); (try clear hk); (try clear hi); (try clear ho0)))
                            go_ret
                            exact ⟨by first | rfl | (simp [errW_none, errW_some] <;> rfl) | (simp only [← hji2, ← hji29]; first | rfl | (simp [errW_none, errW_some] <;> rfl)) | (simp [*, errW_none, errW_some] <;> rfl) | (simp [errW_none, errW_some, ba_bne, ba_beq]; done), by repeat (first | (with_reducible first | exact HB.out | apply below_alloc | apply pw_below_drewN | apply below_drew1) | exact HB.out)⟩
                        · rw [if_neg c31] at H
                          exact absurd H (by simp)
                      · rw [if_neg c30] at H
                        exact absurd H (by simp)
                    · rw [if_neg c28] at H
                      exact absurd H (by simp)
                  · replace c26 := Bool.eq_false_iff.mpr c26
                    subst c26
                    have H1 : (if (t462.length : Int) = 0 then ((portmanteaulaw18_awake.f kj14).bind fun t485 => (some t485)) else (some false)) = some r := by rw [if_neg (show ¬ (false = true) by decide)] at H; exact H
                    clear H
                    have H := H1
                    clear H1
                    by_cases c84 : (t462.length : Int) = 0
                    · rw [if_pos c84] at H
                      have c84b0 : ((t462.length : Int) == 0) = true := beq_iff_eq.mpr c84
                      have c84b1 : ((t462.length : Int) != 0) = false := bne_eq_false_iff_eq.mpr c84
                      clear c84
                      replace H := Option.bind_eq_some_iff.mp H
                      obtain ⟨t485, A850, H⟩ := H
                      replace H : (some t485) = some r := H
                      have A85 := Aside0.mk A850
                      clear A850
                      obtain rfl := Option.some.inj H
                      obtain ⟨Ao86, co86, eo86⟩ := Kd.R_slice HO_5.out
                      subst eo86
                      go_wp2_with (first | (go_at_call 21; (with_reducible refine (portmanteaulaw18_awake.calls kj14  t485 _ ?side1 A85.out).mono ?_); (case side1 => exact Glob.to (by decide) HG.out (by repeat (first | (with_reducible first | exact HB.out | apply below_alloc | apply pw_below_drewN | apply below_drew1) | exact HB.out))); rintro e w87 ⟨rfl, hb⟩; have n0_ := Aside0.mk (Kd.R_below (by (with_reducible repeat (first | apply Kd.R_alloc | apply Kd.R_drewN | apply Kd.R_drew)); exact HO_5.out) hb); have n1_ := Aside0.mk (below_step (by repeat (first | (with_reducible first | exact HB.out | apply below_alloc | apply pw_below_drewN | apply below_drew1) | exact HB.out)) hb); clear HO_5; clear HB; have HO_5 := n0_; have HB := n1_; clear n0_ n1_; (try clear hb); (try clear hb2); (try clear hk); (try clear hi)))
                      go_ret
                      exact ⟨by first | rfl | (simp [errW_none, errW_some] <;> rfl) | (simp only [← hji2]; first | rfl | (simp [errW_none, errW_some] <;> rfl)) | (simp [*, errW_none, errW_some] <;> rfl) | (simp [errW_none, errW_some, ba_bne, ba_beq]; done), by repeat (first | (with_reducible first | exact HB.out | apply below_alloc | apply pw_below_drewN | apply below_drew1) | exact HB.out)⟩
                    · rw [if_neg c84] at H
                      have c84b0 : ((t462.length : Int) == 0) = false := beq_eq_false_iff_ne.mpr c84
                      have c84b1 : ((t462.length : Int) != 0) = true := bne_iff_ne.mpr c84
                      have c84b2 : ¬ (t462 = []) := fun h_ => c84 (by rw [h_]; rfl)
                      obtain rfl := Option.some.inj H
                      obtain ⟨Ao88, co88, eo88⟩ := Kd.R_slice HO_5.out
                      subst eo88
                      go_wp2
                      go_ret
                      exact ⟨by first | rfl | (simp [errW_none, errW_some] <;> rfl) | (simp only [← hji2]; first | rfl | (simp [errW_none, errW_some] <;> rfl)) | (simp [*, errW_none, errW_some] <;> rfl) | (simp [errW_none, errW_some, ba_bne, ba_beq]; done), by repeat (first | (with_reducible first | exact HB.out | apply below_alloc | apply pw_below_drewN | apply below_drew1) | exact HB.out)⟩
    · rw [if_neg c4] at H
      exact absurd H (by simp)
  · rw [if_neg c3] at H
    exact absurd H (by simp)

/-- THE ONE PURE STATEMENT of portmanteaulaw18_PaxBounds: yours. -/
def portmanteaulaw18_PaxBounds.Pure : Prop := ∀ (a0 : Int), (Lit.int .i64 a0).wf = true → ∃ k, portmanteaulaw18_PaxBounds.f k a0 = some true
theorem portmanteaulaw18_PaxBounds.walk (P : portmanteaulaw18_PaxBounds.Pure) (a0 : Int) (w : World) (w0 : (Lit.int .i64 a0).wf = true) (hG : Glob 3 w) :
    Calls Tryd.prog 9 #[.int .i64 a0] w fun e w' => e = .returned (.bool true) ∧ Below w.heap.size w w' := by
  obtain ⟨k, h⟩ := P a0 w0
  refine (portmanteaulaw18_PaxBounds.calls k a0 true w hG h).mono ?_
  rintro e w' ⟨rfl, hd⟩
  exact ⟨rfl, hd⟩

end Go.Proofs.YtmmmmalicndkeaaDoor.X

-- xfix7
