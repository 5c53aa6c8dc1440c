/- The plain law of name.Ok, name.Parts, and what the statements of layer 12 hold fixed ('awake'). -/
import Derived.Test.YtmmmmalicndkeaaDoorX6
import Derived.Test.YtmmmmalicndkeaaDoorExtN
import Derived.Lib.SplitLaws
namespace Go.Proofs.YtmmmmalicndkeaaDoor.X
open Go.RowKit Go.Proofs.YtmmmmalicndkeaaDoorW.PrintWords Go.Proofs.YtmmmmalicndkeaaDoorW.PrintLast Go.Proofs.YtmmmmalicndkeaaDoorW.PrintMore
set_option linter.unusedVariables false
set_option linter.unusedSimpArgs false

theorem w64 {x : Int} (h0 : -9223372036854775808 ≤ x) (h1 : x ≤ 9223372036854775807) : wrap64 x = x := by unfold wrap64; omega
theorem Ev.step1 {α : Type} {g : Nat → Option α} {r : α} (h : ∀ k, g (k + 1) = some r) : Ev g r := Ev.step h (Ev.now r)
theorem Ev.succ {α : Type} {g : Nat → Option α} {r : α} (h : Ev (fun k => g (k + 1)) r) : Ev g r := Ev.step (fun _ => rfl) h
theorem ev_eq {α : Type} {g : Nat → Option α} {r r' : α} (h : Ev g r) (e : r = r') : Ev g r' := e ▸ h
theorem ba_toList (b : ByteArray) : b.toList = b.data.toList := by
  first | exact ByteArray.toList_eq b | simp
theorem ba_len2 (s : ByteArray) : s.size = s.data.toList.length := by rw [Array.length_toList]; rfl
theorem ib_neg (c : UInt8) : ∀ l : List UInt8, Lib.indexByte l c < 0 ↔ l.contains c = false
  | [] => by simp [Lib.indexByte]
  | b :: l => by
    have ih := ib_neg c l
    have hg := Lib.indexByte_ge l c
    unfold Lib.indexByte
    by_cases h : b = c
    · simp [h]
    · have h2 : ¬ c = b := fun e => h e.symm
      have h3 : (b == c) = false := beq_eq_false_iff_ne.mpr h
      rw [h3]
      simp only [Bool.false_eq_true, if_false, List.contains_cons, beq_eq_false_iff_ne.mpr h2, Bool.false_or]
      rw [← ih]
      by_cases h4 : Lib.indexByte l c = -1
      · simp [h4]
      · have h5 : (Lib.indexByte l c == -1) = false := beq_eq_false_iff_ne.mpr h4
        rw [h5]
        simp only [Bool.false_eq_true, if_false]
        omega

/-- What name.Ok answers. -/
def okL (l : List UInt8) : Bool := decide (1 ≤ l.length) && decide (l.length ≤ 255) && !(l == [46]) && !(l == [46, 46]) && !(l.contains 0) && !(l.contains 47)
theorem ok_j0 (a : ByteArray) (b : Bool) : Ev (fun k => name_Ok.j0 k a b) (!b && !(a.data.toList.contains 0) && !(a.data.toList.contains 47)) := by
  refine Ev.succ ?_
  cases b
  · simp only [name_Ok.j0, Bool.false_eq_true, if_false, strings_IndexByte.f, Option.bind_some]
    have e0 : (0 : Int).toNat.toUInt8 = 0 := rfl
    have e1 : (47 : Int).toNat.toUInt8 = 47 := rfl
    rw [e0, e1]
    have h0 := ib_neg 0 a.data.toList
    have h1 := ib_neg 47 a.data.toList
    by_cases h2 : Lib.indexByte a.data.toList 0 < 0
    · have h3 := h0.1 h2
      simp only [h2, if_true, h3]
      by_cases h4 : Lib.indexByte a.data.toList 47 < 0
      · rw [decide_eq_true h4, h1.1 h4]
        exact Ev.now _
      · rw [decide_eq_false h4]
        have h5 : a.data.toList.contains 47 = true := by
          cases hq : a.data.toList.contains 47
          · exact absurd (h1.2 hq) h4
          · rfl
        rw [h5]
        exact Ev.now _
    · have h5 : a.data.toList.contains 0 = true := by
        cases hq : a.data.toList.contains 0
        · exact absurd (h0.2 hq) h2
        · rfl
      simp only [h2, if_false, h5]
      exact Ev.now _
  · simp only [name_Ok.j0, if_true]
    exact Ev.now _
theorem ok_ev (a : ByteArray) : Ev (fun k => name_Ok.f k a) (okL a.data.toList) := by
  have hz := ba_len2 a
  unfold name_Ok.f okL
  simp only [ba_toList]
  by_cases h1 : (a.size : Int) < 1
  · simp only [h1, if_true]
    refine ev_eq (ok_j0 a true) ?_
    rw [decide_eq_false (show ¬ 1 ≤ a.data.toList.length by omega)]
    simp
  simp only [h1, if_false]
  rw [decide_eq_true (show 1 ≤ a.data.toList.length by omega)]
  by_cases h2 : (a.size : Int) > 255
  · simp only [h2, if_true]
    refine ev_eq (ok_j0 a true) ?_
    rw [decide_eq_false (show ¬ a.data.toList.length ≤ 255 by omega)]
    simp
  simp only [h2, if_false]
  rw [decide_eq_true (show a.data.toList.length ≤ 255 by omega)]
  by_cases h3 : a.data.toList = [46]
  · simp only [h3, if_true]
    refine ev_eq (ok_j0 a true) ?_
    simp
  · simp only [h3, if_false]
    refine ev_eq (ok_j0 a (a.data.toList == [46, 46])) ?_
    rw [beq_eq_false_iff_ne.mpr h3]
    simp

/-- What name.Parts answers of the pieces. -/
def partsL : List ByteArray → List ByteArray → List ByteArray × Int
  | acc, [] => (acc, 0)
  | acc, p :: r => if p.data.toList = [] ∨ p.data.toList = [46] then partsL acc r else if okL p.data.toList = true then partsL (acc ++ [p]) r else ([], 9)
theorem rdOf_app (pre r : List ByteArray) (p : ByteArray) : rdOf ByteArray.empty (pre ++ p :: r) (pre.length : Int) = p := by
  unfold rdOf
  simp [List.getD_eq_getElem?_getD]
theorem parts_l0 : ∀ (r pre acc : List ByteArray), (pre ++ r).length ≤ 1000000 → acc.length ≤ pre.length →
    Ev (fun k => name_Parts.l0 k acc (pre ++ r) ((pre ++ r).length : Int) (pre.length : Int)) (partsL acc r)
  | [], pre, acc, hl, ha => by
    refine Ev.succ ?_
    have e : ¬ ((pre.length : Int) < ((pre ++ []).length : Int)) := by simp
    simp only [name_Parts.l0, e, if_false]
    exact Ev.now _
  | p :: r, pre, acc, hl, ha => by
    have hpl : (pre ++ p :: r).length = pre.length + (r.length + 1) := by simp
    have e1 : (pre.length : Int) < ((pre ++ p :: r).length : Int) := by omega
    have e2 : (0 : Int) ≤ (pre.length : Int) := by omega
    have e4 : wrap64 ((pre.length : Int) + 1) = ((pre ++ [p]).length : Int) := by rw [w64 (by omega) (by omega)]; simp
    have hskip := parts_l0 r (pre ++ [p]) acc (by simpa using hl) (by simp; omega)
    have htake := parts_l0 r (pre ++ [p]) (acc ++ [p]) (by simpa using hl) (by simp; omega)
    rw [List.append_assoc, List.singleton_append] at hskip htake
    refine Ev.succ ?_
    simp only [name_Parts.l0, e1, e2, if_true, rdOf_app, ba_toList]
    have J : ∀ b : Bool, (b = true ↔ (p.data.toList = [] ∨ p.data.toList = [46])) → Ev (fun k => name_Parts.j2 k acc p (pre ++ p :: r) ((pre ++ p :: r).length : Int) (pre.length : Int) b) (partsL acc (p :: r)) := by
      intro b hb
      unfold partsL
      cases b
      · have hn : ¬ (p.data.toList = [] ∨ p.data.toList = [46]) := fun h => by have := hb.2 h; cases this
        rw [if_neg hn]
        refine Ev.succ ?_
        simp only [name_Parts.j2, Bool.false_eq_true, if_false]
        refine Ev.bind (ok_ev p) ?_
        cases hq : okL p.data.toList
        · simp only [Bool.false_eq_true, if_false]
          exact Ev.now _
        · have e5 : acc.length < 8796093022208 := by omega
          simp only [if_true, e5, e4]
          exact htake
      · rw [if_pos (hb.1 rfl)]
        refine Ev.succ ?_
        simp only [name_Parts.j2, if_true, e4]
        exact hskip
    by_cases h : p.data.toList = []
    · simp only [h, if_true]
      exact J true (by simp [h])
    · simp only [h, if_false]
      exact J _ (by simp [h])
/-- What name.Parts answers. -/
def partsOf (a : ByteArray) : List ByteArray × Int := if a.data.toList = [] ∨ a.size > 4096 ∨ a.data.toList.head? = some 47 then ([], 9) else partsL [] (Lib.splitB (⟨#[47]⟩ : ByteArray) 0 (Lib.countB a (⟨#[47]⟩ : ByteArray)) a)
theorem parts_ev (a : ByteArray) : Ev (fun k => name_Parts.f k a) (partsOf a) := by
  have hz := ba_len2 a
  have T : Ev (fun k => name_Parts.j0 k a true) (([] : List ByteArray), (9 : Int)) := by
    refine Ev.succ ?_
    simp only [name_Parts.j0, if_true]
    exact Ev.now _
  unfold name_Parts.f partsOf
  simp only [ba_toList]
  by_cases h : a.data.toList = []
  · simp only [h, if_true, true_or]
    exact T
  by_cases h2 : (a.size : Int) > 4096
  · have h3 : a.size > 4096 := by omega
    simp only [h, h2, h3, if_true, if_false, true_or, or_true]
    exact T
  have h3 : ¬ a.size > 4096 := by omega
  have h4 : (0 : Int) < (a.size : Int) := by
    have : a.data.toList.length ≠ 0 := fun e => h (List.length_eq_zero_iff.1 e)
    omega
  simp only [h, h2, h3, h4, if_true, if_false, false_or]
  obtain ⟨c, r, hc⟩ : ∃ c r, a.data.toList = c :: r := by
    cases hq : a.data.toList with
    | nil => exact absurd hq h
    | cons c r => exact ⟨c, r, rfl⟩
  have hb : bt a 0 = (c.toNat : Int) := by
    have hlt : (0 : Int).toNat < a.size := by omega
    unfold bt
    rw [dif_pos hlt, Lib.getD_at a _ hlt, hc]
    simp
  rw [hb, hc]
  simp only [List.head?_cons, Option.some.injEq]
  by_cases h5 : c = 47
  · have e : ((c.toNat : Int) == 47) = true := by rw [h5]; rfl
    rw [e]
    simp only [h5, if_true]
    exact T
  · have e : ((c.toNat : Int) == 47) = false := by
      rw [beq_eq_false_iff_ne]
      intro h6
      exact h5 (UInt8.toNat_inj.1 (by rw [show (47 : UInt8).toNat = 47 from rfl]; omega))
    rw [e]
    simp only [h5, if_false]
    refine Ev.succ ?_
    have e6 : a.size < 4294967281 := by omega
    have e7 : 1 ≤ (⟨#[47]⟩ : ByteArray).size := by decide
    simp only [name_Parts.j0, Bool.false_eq_true, if_false, strings_Split.f, e6, e7, if_true, Option.bind_some]
    have hl := Lib.splitB_length_le (⟨#[47]⟩ : ByteArray) 0 (Lib.countB a (⟨#[47]⟩ : ByteArray)) a
    have hcn := Lib.countB_le (⟨#[47]⟩ : ByteArray) e7 a.size a (Nat.le_refl _)
    exact parts_l0 _ [] [] (by simp only [List.nil_append]; omega) (by simp)
end Go.Proofs.YtmmmmalicndkeaaDoor.X
