/- NameParts in plain words: it answers true, for every text and every row of texts. -/
import Derived.Test.YtmmmmalicndkeaaDoorX13
import Derived.Test.YtmmmmalicndkeaaDoorParts
import Derived.Test.YtmmmmalicndkeaaDoorX6
namespace Go.Proofs.YtmmmmalicndkeaaDoor.X
open Go.RowKit Go.Proofs.YtmmmmalicndkeaaDoorW.PrintWords Go.Proofs.YtmmmmalicndkeaaDoorW.PrintLast Go.Proofs.YtmmmmalicndkeaaDoorW.PrintMore
set_option linter.unusedVariables false
set_option linter.unusedSimpArgs false

theorem same_l0 (l : List ByteArray) (hl : l.length ≤ 1000000) : ∀ (m i : Nat), i + m = l.length → Ev (fun k => portmanteauref13_SameTexts.l0 k l l (i : Int)) true
  | 0, i, h => by
    refine Ev.succ ?_
    have e : ¬ (i : Int) < (l.length : Int) := by omega
    simp only [portmanteauref13_SameTexts.l0, e, if_false]
    exact Ev.now _
  | m + 1, i, h => by
    refine Ev.succ ?_
    have e1 : (i : Int) < (l.length : Int) := by omega
    have e2 : (0 : Int) ≤ (i : Int) := by omega
    have e4 : wrap64 ((i : Int) + 1) = ((i + 1 : Nat) : Int) := by rw [w64 (by omega) (by omega)]; rfl
    simp only [portmanteauref13_SameTexts.l0, e1, e2, e4, if_true]
    exact same_l0 l hl m (i + 1) (by omega)
theorem same_self (l : List ByteArray) (hl : l.length ≤ 1000000) : Ev (fun k => portmanteauref13_SameTexts.f k l l) true := by
  unfold portmanteauref13_SameTexts.f
  simp only [if_true]
  exact same_l0 l hl l.length 0 (by omega)
theorem parts_1 : partsOf (⟨#[97, 47, 46, 47, 98, 47]⟩ : ByteArray) = ([(⟨#[97]⟩ : ByteArray), (⟨#[98]⟩ : ByteArray)], 0) := by decide +kernel
theorem parts_2 : (partsOf (⟨#[97, 47, 46, 46, 47, 98]⟩ : ByteArray)).2 = 9 := by decide +kernel
theorem join_ab : name_Join.f [(⟨#[97]⟩ : ByteArray), (⟨#[98]⟩ : ByteArray)] = some (⟨#[97, 47, 98]⟩ : ByteArray) := by decide +kernel
theorem awake12 : Ev (fun k => portmanteaulaw12_awake.f k) true := by
  unfold portmanteaulaw12_awake.f
  refine Ev.bind (parts_ev _) (Ev.bind (parts_ev _) ?_)
  rw [parts_1]
  simp only [if_true]
  refine Ev.bind (same_self _ (by decide)) ?_
  simp only [if_true, parts_2, join_ab, Option.bind_some, ba_toList]
  refine Ev.bind (ok_ev _) ?_
  rw [show okL (⟨#[46, 46]⟩ : ByteArray).data.toList = false by decide +kernel]
  exact Ev.now _


theorem partsOf_len (a : ByteArray) (hz : a.size ≤ 1000000) : (partsOf a).1.length ≤ 1000000 ∧ (partsOf a).1.length ≤ a.size + 1 := by
  have hl := ba_len2 a
  have h5 := List.length_filter_le told (segs a.data.toList)
  have h6 := segs_len a.data.toList
  rw [partsOf_is]
  split
  · simp
  · rename_i hn
    have h7 : ¬ a.size > 4096 := fun h => hn (.inr (.inl h))
    split
    · simp only [List.length_map]
      omega
    · simp
theorem parts_round (s j : ByteArray) (l : List ByteArray) (hs : s.size ≤ 5000) (hj : j.size ≤ 5000) (hjl : j = ⟨(joinL l).toArray⟩) (hl : l.length ≤ 20) : ∀ (d i : Nat), i + d = 3 → Ev (fun k => portmanteaulaw12_NameParts.l0 k s l j (i : Int)) true := by
  intro d
  induction d with
  | zero =>
    intro i hi
    refine Ev.succ ?_
    simp only [portmanteaulaw12_NameParts.l0]
    refine Ev.neg (by omega) ?_
    have hlen : (joinL l).length ≤ 140737488355328 := by
      have : j.size = (joinL l).length := by rw [hjl, ba_len]
      omega
    refine Ev.bind (Ev.const (name_join l (by omega) hlen)) ?_
    simp only [ba_toList]
    refine Ev.pos (by rw [hjl]) ?_
    exact Ev.bind awake12 (Ev.now _)
  | succ d ih =>
    intro i hi
    refine Ev.succ ?_
    simp only [portmanteaulaw12_NameParts.l0]
    refine Ev.pos (by omega) (Ev.pos (by omega) ?_)
    have z1 : (⟨#[47]⟩ : ByteArray).size = 1 := rfl
    refine Ev.bind (Ev.now ([s, j, (⟨#[47]⟩ : ByteArray) ++ s] : List ByteArray)) ?_
    have hlen3 : (([s, j, (⟨#[47]⟩ : ByteArray) ++ s] : List ByteArray).length : Int) = 3 := rfl
    rw [hlen3]
    refine Ev.pos (by omega) (Ev.pos (by omega) ?_)
    obtain ⟨x, hx, hxz⟩ : ∃ x, rdOf ByteArray.empty ([s, j, (⟨#[47]⟩ : ByteArray) ++ s] : List ByteArray) (i : Int) = x ∧ x.size ≤ 6000 := by
      refine ⟨_, rfl, ?_⟩
      have h3 : i = 0 ∨ i = 1 ∨ i = 2 := by omega
      rcases h3 with rfl | rfl | rfl
      · show s.size ≤ 6000
        omega
      · show j.size ≤ 6000
        omega
      · show ((⟨#[47]⟩ : ByteArray) ++ s).size ≤ 6000
        rw [ba_size]
        omega
    rw [hx]
    refine Ev.bind (parts_ev x) (Ev.bind (parts13_ev x (by omega)) (Ev.pos (by first | trivial | rfl) ?_))
    refine Ev.bind (same_self _ (partsOf_len x (by omega)).1) (Ev.pos (by first | trivial | rfl) ?_)
    refine Ev.bind (ok_ev x) (Ev.bind (nameok_ev x (by omega)) (Ev.neg (by simp) ?_))
    have e2 : wrap64 ((i : Int) + 1) = ((i + 1 : Nat) : Int) := by rw [w64 (by omega) (by omega)]; simp
    rw [e2]
    exact ih (i + 1) (by omega)
theorem sumL_le : ∀ l : List ByteArray, (∀ x ∈ l, x.size ≤ 140737488351232) → sumL l ≤ 140737488351233 * l.length
  | [], _ => by simp [sumL]
  | x :: l, h => by
    have h1 := h x (by simp)
    have h2 := sumL_le l (fun y hy => h y (by simp [hy]))
    simp only [sumL, List.length_cons]
    omega
theorem NameParts (a0 : ByteArray) (l1 : List ByteArray) (h0 : a0.size ≤ 140737488351232) (h1 : ∀ x ∈ l1, x.size ≤ 140737488351232) (hl : l1.length * 16 ≤ 140737488351232) : ∃ k, portmanteaulaw12_NameParts.f k a0 l1 = some true := by
  refine Ev.rounds (g := fun k => portmanteaulaw12_NameParts.f k a0 l1) ?_
  have T : Ev (fun k => portmanteaulaw12_NameParts.j0 k a0 l1 true) true := by
    refine Ev.succ ?_
    simp only [portmanteaulaw12_NameParts.j0]
    exact Ev.pos (by first | trivial | rfl) (Ev.bind awake12 (Ev.now _))
  unfold portmanteaulaw12_NameParts.f
  by_cases hs : (a0.size : Int) > 5000
  · exact Ev.pos hs T
  · refine Ev.neg hs ?_
    by_cases hn : (l1.length : Int) > 20
    · rw [decide_eq_true hn]
      exact T
    · rw [decide_eq_false hn]
      refine Ev.succ ?_
      simp only [portmanteaulaw12_NameParts.j0]
      refine Ev.neg (by decide) ?_
      have hsum := sumL_le l1 h1
      refine Ev.bind (join13_ev l1 (by omega) (by omega)) ?_
      by_cases hb : (((⟨(joinL l1).toArray⟩ : ByteArray)).size : Int) > 5000
      · exact Ev.pos hb (Ev.bind awake12 (Ev.now _))
      · refine Ev.neg hb ?_
        exact parts_round a0 _ l1 (by omega) (by omega) rfl (by omega) 3 0 rfl
end Go.Proofs.YtmmmmalicndkeaaDoor.X
