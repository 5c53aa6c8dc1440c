/- What Digits spells, Number reads, and reads nothing else: the plain law of NumTexts. -/
import Derived.Test.YtbaonnlpphpakaaDoorX11
import Derived.Test.YtbaonnlpphpakaaDoorTexts
import Derived.Test.YtbaonnlpphpakaaDoorBack
namespace Go.Proofs.YtbaonnlpphpakaaDoor.X
open Go.RowKit Go.Proofs.YtbaonnlpphpakaaDoorW.PrintWords Go.Proofs.YtbaonnlpphpakaaDoorW.PrintLast Go.Proofs.YtbaonnlpphpakaaDoorW.PrintMore
set_option linter.unusedVariables false
set_option linter.unusedSimpArgs false

theorem number_some (x : ByteArray) (h : x.size ≤ 281474976710656) : num_Number.f x = some (numberOf x.data.toList) := by unfold num_Number.f; rw [if_pos h]
theorem texts_round (n : Int) (s : ByteArray) (b : List Int) (i : Nat) (x : ByteArray) (hi : i < 2) (hx : rdOf ByteArray.empty [s, strOfNums b] (i : Int) = x) (hz : x.size ≤ 1000) (h : Ev (fun k => portmanteaulaw16_NumTexts.l0 k n s n true b ((i + 1 : Nat) : Int)) true) :
    Ev (fun k => portmanteaulaw16_NumTexts.l0 k n s n true b (i : Int)) true := by
  refine Ev.succ ?_
  have h1 : (i : Int) < 2 := by omega
  have h2 : (0 : Int) ≤ (i : Int) := by omega
  have h3 : (i : Int) < (([s, strOfNums b] : List ByteArray).length : Int) := by simp; omega
  have h4 : wrap64 ((i : Int) + 1) = ((i + 1 : Nat) : Int) := by rw [w64 (by omega) (by omega)]; rfl
  simp only [portmanteaulaw16_NumTexts.l0, h1, h2, h3, h4, if_true, Option.bind_some, hx, number_some x (by omega)]
  refine Ev.bind (number_same x) ?_
  simpa using h
theorem NumTexts : portmanteaulaw16_NumTexts.Pure := by
  intro n s at_ by_ w1 w2 w3 w4
  obtain ⟨n0, n1⟩ := i64_wf w1
  refine Ev.rounds ?_
  unfold portmanteaulaw16_NumTexts.f
  by_cases h60 : (s.size : Int) > 60
  · simp only [h60, if_true]
    exact Ev.bind awake16 (Ev.now _)
  simp only [h60, if_false]
  have hd : num_Digits.f n = some (⟨(Lib.itoa n).toArray⟩ : ByteArray) := by
    unfold num_Digits.f
    rw [if_pos n0, if_pos n1]
  have hl := Lib.itoa_length_le n n0 n1
  have hne : 1 ≤ (Lib.itoa n).length := by
    have := atoi_itoa n n0 n1
    cases hq : Lib.itoa n with
    | nil => rw [hq] at this; cases this
    | cons c r => simp
  have hsz : (⟨(Lib.itoa n).toArray⟩ : ByteArray).size = (Lib.itoa n).length := ba_len _
  rw [hd]
  simp only [Option.bind_some]
  refine Ev.bind (digits13_ev n n0 n1) ?_
  simp only [if_true, number_some _ (show (⟨(Lib.itoa n).toArray⟩ : ByteArray).size ≤ 281474976710656 by omega), Option.bind_some]
  refine Ev.bind (digits13_ev n n0 n1) ?_
  have hc : conv_S.f (⟨(Lib.itoa n).toArray⟩ : ByteArray) = some (bytesOf (⟨(Lib.itoa n).toArray⟩ : ByteArray)) := by
    unfold conv_S.f
    rw [if_pos (by omega)]
  have hbl : (bytesOf (⟨(Lib.itoa n).toArray⟩ : ByteArray)).length = (Lib.itoa n).length := by
    unfold bytesOf; simp
  have hnum : numberOf (Lib.itoa n) = (n, true) := by
    unfold numberOf
    rw [atoi_itoa n n0 n1]
    simp
  rw [hc]
  simp only [Option.bind_some, hnum]
  generalize bytesOf (⟨(Lib.itoa n).toArray⟩ : ByteArray) = b at hbl
  rw [and255]
  have hm0 : 0 ≤ at_ % 256 := Int.emod_nonneg _ (by decide)
  have ht0 : 0 ≤ Int.tmod (at_ % 256) (b.length : Int) := Int.tmod_nonneg _ hm0
  have ht1 : Int.tmod (at_ % 256) (b.length : Int) < (b.length : Int) := Int.tmod_lt_of_pos _ (by omega)
  have hb0 : ¬ (b.length : Int) = 0 := by omega
  simp only [hb0, ht0, ht1, if_true, if_false]
  generalize hb2 : b.set _ _ = b2
  have hl2 : b2.length = b.length := by rw [← hb2]; simp
  refine texts_round n s b2 0 s (by decide) rfl (by omega) ?_
  refine texts_round n s b2 1 (strOfNums b2) (by decide) rfl (by rw [strOfNums_size]; omega) ?_
  refine Ev.succ ?_
  have e0 : ¬ (((1 + 1 : Nat) : Int) < 2) := by decide
  simp only [portmanteaulaw16_NumTexts.l0, e0, if_false, if_true]
  exact Ev.bind awake16 (Ev.now _)
end Go.Proofs.YtbaonnlpphpakaaDoor.X
