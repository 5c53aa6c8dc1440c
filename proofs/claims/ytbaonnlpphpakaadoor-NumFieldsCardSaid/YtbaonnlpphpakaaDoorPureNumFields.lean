/- Any number is put into a field as the document says, and is read from it: the plain law of NumFields. -/
import Derived.Test.YtbaonnlpphpakaaDoorX8
import Derived.Test.YtbaonnlpphpakaaDoorRef16
import Derived.Test.YtbaonnlpphpakaaDoorBack
namespace Go.Proofs.YtbaonnlpphpakaaDoor.X
open Go.RowKit Go.Proofs.YtbaonnlpphpakaaDoorW.PrintWords Go.Proofs.YtbaonnlpphpakaaDoorW.PrintLast Go.Proofs.YtbaonnlpphpakaaDoorW.PrintMore
set_option linter.unusedVariables false
set_option linter.unusedSimpArgs false

/-- The document's answer and the program's. -/
theorem roctal_is (n width : Int) : (roctalOf n width).2 = (octalOf n width).2 ∧ ((octalOf n width).2 = true → (roctalOf n width).1 = strOfNums (octalOf n width).1) ∧ ((octalOf n width).2 = false → (octalOf n width).1 = []) := by
  unfold roctalOf octalOf
  split
  · simp
  · split
    · rename_i h; simp [h]
    · rename_i h; simp [h]
theorem rwide_is (n width : Int) : (rwideOf n width).2 = (wideOf n width).2 ∧ ((wideOf n width).2 = true → (rwideOf n width).1 = strOfNums (wideOf n width).1) ∧ ((wideOf n width).2 = false → (wideOf n width).1 = []) := by
  unfold rwideOf wideOf wideOf1
  split
  · simp
  · by_cases hn : 0 ≤ n
    · rw [if_pos hn]
      by_cases h : n / 256 ^ (width.toNat - 1) = 0
      · simp [h, hn]
      · have : ¬ n < 0 := by omega
        simp [h, hn, this]
    · rw [if_neg hn]
      by_cases h : n / 256 ^ (width.toNat - 1) = -1
      · have : n < 0 := by omega
        simp [h, hn, this]
      · simp [h, hn]
theorem rfield_is (n width : Int) (wide : Bool) : (rfieldOf n width wide).2 = (fieldOf n width wide).2 ∧ (rfieldOf n width wide).1 = strOfNums (fieldOf n width wide).1 := by
  obtain ⟨a1, a2, a3⟩ := roctal_is n width
  obtain ⟨b1, b2, b3⟩ := rwide_is n width
  unfold rfieldOf fieldOf
  cases ho : (octalOf n width).2
  · rw [ho] at a1
    rw [a1]
    cases wide
    · simp [ho, a3 ho]; rfl
    · cases hw : (wideOf n width).2
      · rw [hw] at b1
        simp [b1, hw, b3 hw]; rfl
      · rw [hw] at b1
        simp [b1, hw, b2 hw]
  · rw [ho] at a1
    rw [a1]
    simp [ho, a2 ho]
/-- One round. -/
theorem fields_round (n width : Int) (wide : Bool) (i : Int) (hi : i < 2) (hi0 : 0 ≤ i) (h0 : -9223372036854775808 ≤ n) (h1 : n ≤ 9223372036854775807)
    (hrest : Ev (fun k => portmanteaulaw16_NumFields.l0 k n (wrap64 (Int.tmod (bits .and .i64 width 255) 11 + 2)) wide (i + 1)) true) : Ev (fun k => portmanteaulaw16_NumFields.l0 k n width wide i) true := by
  obtain ⟨a1, a2, a3⟩ := roctal_is n width
  obtain ⟨b1, b2, b3⟩ := rwide_is n width
  obtain ⟨c1, c2⟩ := rfield_is n width wide
  have w1 : wrap64 (i + 1) = i + 1 := w64 (by omega) (by omega)
  have J3 : Ev (fun k => portmanteaulaw16_NumFields.j3 k n width wide i (fieldOf n width wide).1 (fieldOf n width wide).2 false) true := by
    refine Ev.succ ?_
    cases hf : (fieldOf n width wide).2
    · simp only [portmanteaulaw16_NumFields.j3, w1, Bool.false_eq_true, if_false]
      exact hrest
    · simp only [portmanteaulaw16_NumFields.j3, w1, Bool.false_eq_true, if_false, if_true]
      refine Ev.bind (read_ev _ (isBytes_field n width wide) (field_len n width wide)) ?_
      rw [field_back n width wide h0 h1 hf]
      simpa using hrest
  have J2 : Ev (fun k => portmanteaulaw16_NumFields.j2 k n width wide i false) true := by
    refine Ev.succ ?_
    simp only [portmanteaulaw16_NumFields.j2, Bool.false_eq_true, if_false]
    refine Ev.bind (field_ev n width wide h0 h1) (Ev.bind (rfield_ev n width wide h0 h1) ?_)
    rw [c1, c2]
    simpa using J3
  have J1 : Ev (fun k => portmanteaulaw16_NumFields.j1 k n width wide i false) true := by
    refine Ev.succ ?_
    simp only [portmanteaulaw16_NumFields.j1, Bool.false_eq_true, if_false]
    refine Ev.bind (wide_ev n width h0 h1) (Ev.bind (rwide_ev n width h0 h1) ?_)
    rw [b1]
    cases hw : (wideOf n width).2
    · rw [b3 hw]
      simpa using J2
    · rw [b2 hw]
      simpa using J2
  refine Ev.succ ?_
  simp only [portmanteaulaw16_NumFields.l0, hi, if_true]
  refine Ev.bind (octal_ev n width h1) (Ev.bind (roctal_ev n width h1) ?_)
  rw [a1]
  cases hw : (octalOf n width).2
  · rw [a3 hw]
    simpa using J1
  · rw [a2 hw]
    simpa using J1
theorem NumFields : portmanteaulaw16_NumFields.Pure := by
  intro n width wide wf1 wf2
  obtain ⟨h0, h1⟩ := i64_wf wf1
  refine Ev.rounds ?_
  unfold portmanteaulaw16_NumFields.f
  refine fields_round n width wide 0 (by decide) (by decide) h0 h1 (fields_round n _ wide 1 (by decide) (by decide) h0 h1 ?_)
  refine Ev.step (f := fun k => (portmanteaulaw16_awake.f k).bind fun t => some t) (fun k => ?_) (Ev.bind awake16 (Ev.now _))
  simp only [portmanteaulaw16_NumFields.l0]
  rw [if_neg (by decide)]
end Go.Proofs.YtbaonnlpphpakaaDoor.X
