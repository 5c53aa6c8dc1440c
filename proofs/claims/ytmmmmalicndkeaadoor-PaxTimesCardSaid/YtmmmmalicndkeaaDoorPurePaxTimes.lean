/- PaxTimes in plain words: it answers true, for every time, every text and all numbers. -/
import Derived.Test.YtmmmmalicndkeaaDoorX40
import Derived.Test.YtmmmmalicndkeaaDoorPaxAwake
import Derived.Test.YtmmmmalicndkeaaDoorTimeRef
import Derived.Test.YtmmmmalicndkeaaDoorBits
namespace Go.Proofs.YtmmmmalicndkeaaDoor.X
open Go.RowKit Go.Proofs.YtmmmmalicndkeaaDoorW.PrintWords Go.Proofs.YtmmmmalicndkeaaDoorW.PrintLast Go.Proofs.YtmmmmalicndkeaaDoorW.PrintMore
set_option linter.unusedVariables false
set_option linter.unusedSimpArgs false

theorem times_l1 (a0 : Int) (s d : ByteArray) (L : List Int) (hs : s.size ≤ 1000) (hd : d.size ≤ 1000) (hL : L.length ≤ 1000) : ∀ (n i : Nat), i + n = 3 → Ev (fun k => portmanteaulaw18_PaxTimes.l1 k a0 s a0 true d L (i : Int)) true := by
  intro n
  induction n with
  | zero =>
    intro i hi
    refine Ev.succ ?_
    simp only [portmanteaulaw18_PaxTimes.l1]
    refine Ev.neg (by omega) (Ev.pos (by first | trivial | rfl) (Ev.pos (by first | trivial | rfl) ?_))
    exact Ev.bind awake18 (Ev.now _)
  | succ n ih =>
    intro i hi
    refine Ev.succ ?_
    simp only [portmanteaulaw18_PaxTimes.l1]
    refine Ev.pos (by omega) ?_
    refine Ev.bind (Ev.now ([s, d, strOfNums L] : List ByteArray)) ?_
    have hlen3 : (([s, d, strOfNums L] : List ByteArray).length : Int) = 3 := rfl
    rw [hlen3]
    refine Ev.pos (by omega) (Ev.pos (by omega) ?_)
    obtain ⟨x, hx, hxz⟩ : ∃ x, rdOf ByteArray.empty ([s, d, strOfNums L] : List ByteArray) (i : Int) = x ∧ x.size ≤ 1000 := by
      refine ⟨_, rfl, ?_⟩
      have h3 : i = 0 ∨ i = 1 ∨ i = 2 := by omega
      rcases h3 with rfl | rfl | rfl
      · exact hs
      · exact hd
      · show (strOfNums L).size ≤ 1000
        rw [strOfNums_size]
        exact hL
    rw [hx]
    refine Ev.bind (Time_ev x (by omega)) (Ev.bind (RefTime_ev x (by omega)) ?_)
    have e2 : wrap64 ((i : Int) + 1) = ((i + 1 : Nat) : Int) := by rw [w64 (by omega) (by omega)]; simp
    rw [e2]
    refine Ev.neg (by simp) (Ev.pos rfl ?_)
    exact ih (i + 1) (by omega)
theorem times_j1 (a0 : Int) (h0 : -9223372036854775808 ≤ a0) (h1 : a0 ≤ 9223372036854775807) (s d : ByteArray) (a3 a4 : Int) (hs : s.size ≤ 1000) (hd : d.size ≤ 1000) : Ev (fun k => portmanteaulaw18_PaxTimes.j1 k a0 s a3 a4 a0 true d) true := by
  obtain ⟨l0, l1⟩ := textOf_len a0 h0 h1
  refine Ev.succ ?_
  simp only [portmanteaulaw18_PaxTimes.j1]
  refine Ev.bind (RefTimeText_ev a0 h0 h1) ?_
  have hc : conv_S.f (⟨(textOf a0).toArray⟩ : ByteArray) = some (I (textOf a0)) := by
    unfold conv_S.f
    rw [if_pos (by rw [ba_len]; omega), bytesOf_mk]
  refine Ev.bind (Ev.const hc) ?_
  rw [I_len]
  refine Ev.neg (by omega) ?_
  rw [and255]
  have ht : Int.tmod (a3 % 256) ((textOf a0).length : Int) = (a3 % 256) % ((textOf a0).length : Int) := Int.tmod_eq_emod_of_nonneg (by omega)
  have hlt := Int.emod_lt_of_pos (a3 % 256) (show 0 < ((textOf a0).length : Int) by omega)
  have hge := Int.emod_nonneg (a3 % 256) (show ((textOf a0).length : Int) ≠ 0 by omega)
  rw [ht]
  refine Ev.pos hge (Ev.pos hlt ?_)
  exact times_l1 a0 s d _ hs hd (by rw [List.length_set, I_len]; omega) 3 0 rfl
theorem piece_size (j : Int) : ((⟨#[48, 49, 50, 51, 52, 53, 54, 55, 56, 57, 46, 45]⟩ : ByteArray).extract (j : Int).toNat ((wrap64 (j + 1)) : Int).toNat).size ≤ 12 := by
  rw [ByteArray.size_extract]
  have : (⟨#[48, 49, 50, 51, 52, 53, 54, 55, 56, 57, 46, 45]⟩ : ByteArray).size = 12 := rfl
  omega
theorem times_l0 (a0 : Int) (h0 : -9223372036854775808 ≤ a0) (h1 : a0 ≤ 9223372036854775807) (s : ByteArray) (l2 : List Int) (a3 a4 : Int) (hs : s.size ≤ 1000) : ∀ (n i : Nat) (d : ByteArray), i + n = 33 → d.size ≤ 12 * i → Ev (fun k => portmanteaulaw18_PaxTimes.l0 k a0 s l2 a3 a4 a0 true d (i : Int)) true := by
  intro n
  induction n with
  | zero =>
    intro i d hi hd
    refine Ev.succ ?_
    simp only [portmanteaulaw18_PaxTimes.l0]
    have J := times_j1 a0 h0 h1 s d a3 a4 hs (by omega)
    by_cases h : (i : Int) < (l2.length : Int)
    · exact Ev.pos h (Ev.neg (by omega) J)
    · exact Ev.neg h J
  | succ n ih =>
    intro i d hi hd
    refine Ev.succ ?_
    simp only [portmanteaulaw18_PaxTimes.l0]
    have J := times_j1 a0 h0 h1 s d a3 a4 hs (by omega)
    by_cases h : (i : Int) < (l2.length : Int)
    · refine Ev.pos h ?_
      by_cases h32 : (i : Int) < 32
      · refine Ev.pos h32 (Ev.pos (by omega) ?_)
        rw [and255]
        obtain ⟨j, hj⟩ : ∃ j, Int.tmod (rd l2 (i : Int) % 256) 12 = j := ⟨_, rfl⟩
        have hjb : 0 ≤ j ∧ j < 12 := by
          rw [← hj, Int.tmod_eq_emod_of_nonneg (by omega)]
          omega
        rw [hj]
        have hp := piece_size j
        have ew : Aside0 (wrap64 (j + 1) = j + 1) := ⟨w64 (by omega) (by omega)⟩
        have e2 : Aside0 (wrap64 ((i : Int) + 1) = ((i + 1 : Nat) : Int)) := ⟨by rw [w64 (by omega) (by omega)]; simp⟩
        refine Ev.pos hjb.1 (Ev.pos (by rw [ew.out]; omega) (Ev.pos (by rw [ew.out]; omega) (Ev.pos (by omega) ?_)))
        rw [e2.out]
        exact ih (i + 1) _ (by omega) (by rw [ba_size]; omega)
      · exact Ev.neg h32 J
    · exact Ev.neg h J
theorem PaxTimes : portmanteaulaw18_PaxTimes.Pure := by
  intro a0 a1 l2 a3 a4 w0 w1 w2 w3 w4 w5 w6
  obtain ⟨h0, h1⟩ := i64_wf w0
  refine Ev.rounds (g := fun k => portmanteaulaw18_PaxTimes.f k a0 a1 l2 a3 a4) ?_
  unfold portmanteaulaw18_PaxTimes.f
  by_cases hs : (a1.size : Int) > 100
  · exact Ev.pos hs (Ev.bind awake18 (Ev.now _))
  · refine Ev.neg hs ?_
    refine Ev.bind (TimeText_ev a0 h0 h1) (Ev.bind (RefTimeText_ev a0 h0 h1) (Ev.pos rfl ?_))
    obtain ⟨t0, t1⟩ := textOf_len a0 h0 h1
    have ht := Time_ev (⟨(textOf a0).toArray⟩ : ByteArray) (by rw [ba_len]; omega)
    have hd : (⟨(textOf a0).toArray⟩ : ByteArray).data.toList = textOf a0 := by simp
    rw [hd, time_text a0 h0 h1] at ht
    refine Ev.bind ht ?_
    exact times_l0 a0 h0 h1 a1 l2 a3 a4 (by omega) 33 0 _ rfl (by decide)
end Go.Proofs.YtmmmmalicndkeaaDoor.X
