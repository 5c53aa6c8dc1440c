/- A row's parameters opened: slices of texts and of records, with the bounds that their weights give. -/
import Derived.Test.YtmmmmalicndkeaaDoorX0
import Derived.SizedLaws
import Derived.Deep.Slices
import Derived.ChangeSame
import Derived.ChangeArms
namespace Go.Proofs.YtmmmmalicndkeaaDoor.X
open Go.RowKit Go.ChangeShapes Go.WideShapes Go.Proofs.YtmmmmalicndkeaaDoorW.PrintWords Go.Proofs.YtmmmmalicndkeaaDoorW.PrintLast
set_option linter.unusedVariables false
set_option linter.unusedSimpArgs false

theorem list2 {α : Type} {cs : List α} (h : cs.length = 2) : ∃ c0 c1, cs = [c0, c1] := by
  match cs, h with
  | [c0, c1], _ => exact ⟨c0, c1, rfl⟩
section
variable {H : Type} {enc : TypeId × Value → H} {P : Program} {W : World} {base : Nat} {sp : Nat → Bool} {held : Bool}
/-- A datum's weights are within reach. -/
def Light (P : Program) (t : TypeId) (d : DataW H) : Prop := ∀ n ∈ d.weights P t, n ≤ reachBytes
theorem light_of {ts : List TypeId} {ds : List (DataW H)} {j : Nat} {t : TypeId} {d : DataW H} (h : (DataW.weightsEach P ts ds).all (· ≤ reachBytes) = true) (ht : ts[j]? = some t) (hd : ds[j]? = some d) : Light P t d := fun n hn => by
  have := List.all_eq_true.1 h _ (DataW.weights_mem_each ht hd n hn)
  simpa using this
theorem weights_mem_all {e : TypeId} {d : DataW H} {n : Nat} : ∀ {ds : List (DataW H)}, d ∈ ds → n ∈ d.weights P e → n ∈ DataW.weightsAll P e ds
  | d0 :: ds, hd, hn => by
    simp only [DataW.weightsAll, List.mem_append]
    rcases List.mem_cons.1 hd with rfl | hd
    · exact Or.inl hn
    · exact Or.inr (weights_mem_all hd hn)
theorem light_part {t : TypeId} {fs : Array Field} {parts : List (DataW H)} (hu : P.underlying t = some (.struct fs)) (h : Light P t (.agg parts)) {j : Nat} {f : Field} {d : DataW H} (hf : fs[j]? = some f) (hd : parts[j]? = some d) : Light P f.type d := fun n hn => by
  refine h n ?_
  simp only [DataW.weights, hu]
  exact DataW.weights_mem_each (j := j) (t := f.type) (by simp [hf]) hd n hn
theorem light_string {t : TypeId} {bs : List UInt8} (h : Light (H := H) P t (.lit (.string bs))) : bs.length ≤ reachBytes := h _ (by simp [DataW.weights])
theorem open_row {α : Type} (k : Kd α) (Q : α → Prop) [Inhabited α] {t e : TypeId} {fuel len cap : Nat} {a : Option Addr} {y : DataW H × List MemPlace} (ht : P.underlying t = some (.slice e)) (hc : P.cellsOf e = k.sz)
    (hk : ∀ (n : Nat) (cs : List Value) (z : DataW H × List MemPlace), DataW.trod enc P W base sp held n e cs = some z → Light P e z.1 → ∃ x, k.K W x cs ∧ Q x)
    (h : DataW.trod enc P W base sp held fuel t [.slice a len cap] = some y) (hl : Light P t y.1) :
    ∃ l : List α, len = l.length ∧ l.length ≤ cap ∧ k.C W a l.length l ∧ (∀ x ∈ l, Q x) ∧ l.length * P.bytesOf e ≤ reachBytes := by
  rcases Go.Deep.open_slice ht h with ⟨hcs, rfl⟩ | ⟨ad, len', cap', m, n, D, Pl, hcs, hb, hle, hm, hmm, rfl, hx⟩
  · simp only [List.cons.injEq, Value.slice.injEq, and_true] at hcs
    obtain ⟨rfl, rfl, rfl⟩ := hcs
    exact ⟨[], rfl, Nat.le_refl _, ⟨rfl, by simp, fun h0 => absurd h0 (by simp)⟩, by simp, by simp⟩
  · simp only [List.cons.injEq, Value.slice.injEq, and_true] at hcs
    obtain ⟨rfl, rfl, rfl⟩ := hcs
    have hlm : len ≤ m := by rw [hmm]; split <;> omega
    have hw : ∀ i, i < len → Light P e (D i) := fun i hi n' hn' => by
      refine hl n' ?_
      simp only [DataW.weights, ht, List.mem_cons, List.mem_append]
      exact .inr (.inl (weights_mem_all (List.mem_map.2 ⟨i, List.mem_range.2 hi, rfl⟩) hn'))
    have each : ∀ i, i < len → ∃ x : α, (∃ cs, cs.length = k.sz ∧ k.K W x cs ∧ ∀ j u, cs[j]? = some u → W.cell? (ad.add (i * k.sz + j)) = some u) ∧ Q x := fun i hi => by
      obtain ⟨cs, h1, h2⟩ := hx i (by omega)
      obtain ⟨_, h3, h4⟩ := World.cells?_some h1
      obtain ⟨x, h5, h6⟩ := hk n cs _ h2 (hw i hi)
      refine ⟨x, ⟨cs, h3.trans hc, h5, fun j u hj => ?_⟩, h6⟩
      have hj2 : j < P.cellsOf e := by
        have := (List.getElem?_eq_some_iff.1 hj).1
        omega
      have := h4 j hj2
      rw [Addr.add_add, hc] at this
      rw [this, hj]
    obtain ⟨X, hX⟩ := Go.Deep.choose_lt each
    have hlen : ((List.range len).map X).length = len := by simp
    refine ⟨(List.range len).map X, hlen.symm, by rw [hlen]; exact hle, ?_, ?_, ?_⟩
    · refine ⟨rfl, ?_, fun _ => ⟨ad, rfl, fun j p hj => ?_⟩⟩
      · rw [hlen]
        simp only [maxLen] at hm
        omega
      · rw [List.getElem?_map] at hj
        obtain ⟨i, hi, rfl⟩ := Option.map_eq_some_iff.1 hj
        have hi2 := List.getElem?_eq_some_iff.1 hi
        obtain ⟨hlt, hi3⟩ := hi2
        simp only [List.length_range] at hlt
        simp only [List.getElem_range] at hi3
        subst hi3
        obtain ⟨⟨cs, h1, h2, h3⟩, _⟩ := hX j hlt
        exact ⟨cs, h1, h2, h3⟩
    · intro x hx2
      obtain ⟨i, hi, rfl⟩ := List.mem_map.1 hx2
      exact (hX i (List.mem_range.1 hi)).2
    · have h0 := hl ((((List.range len).map D).length + ((List.range (m - len)).map fun j => D (len + j)).length) * P.bytesOf e) (by simp only [DataW.weights, ht, List.mem_cons]; exact .inl trivial)
      rw [hlen]
      simp only [List.length_map, List.length_range] at h0
      exact Nat.le_trans (Nat.mul_le_mul_right _ (by omega)) h0
theorem elem_string {e : TypeId} (he : P.underlying e = some .string) (n : Nat) (cs : List Value) (z : DataW H × List MemPlace) (h : DataW.trod enc P W base sp held n e cs = some z) (hl : Light P e z.1) : ∃ x : ByteArray, Kd.string.K W x cs ∧ x.size ≤ 140737488351232 := by
  obtain ⟨s, rfl, rfl, hm⟩ := DataW.trod_string he h
  refine ⟨s, rfl, ?_⟩
  have := light_string hl
  simp only [Array.length_toList] at this
  exact this
theorem open_strs_row {t e : TypeId} {fuel len cap : Nat} {a : Option Addr} {y : DataW H × List MemPlace} (ht : P.underlying t = some (.slice e)) (he : P.underlying e = some .string) (hc : P.cellsOf e = 1) {B : Nat} (hB : P.bytesOf e = B)
    (h : DataW.trod enc P W base sp held fuel t [.slice a len cap] = some y) (hl : Light P t y.1) :
    ∃ l : List ByteArray, len = l.length ∧ l.length ≤ cap ∧ Kd.C Kd.string W a l.length l ∧ (∀ x ∈ l, x.size ≤ 140737488351232) ∧ l.length * B ≤ 140737488351232 := by
  obtain ⟨l, h1, h2, h3, h4, h5⟩ := open_row Kd.string (fun x => x.size ≤ 140737488351232) ht hc (elem_string he) h hl
  rw [hB] at h5
  exact ⟨l, h1, h2, h3, h4, h5⟩
end
section
variable {H : Type} {enc : TypeId × Value → H} {W : World} {base : Nat} {sp : Nat → Bool} {held : Bool}
instance : Inhabited S42 := ⟨z42⟩
theorem elem_kv (n : Nat) (cs : List Value) (z : DataW H × List MemPlace) (h : DataW.trod enc Tryd.prog W base sp held n 42 cs = some z) (hl : Light Tryd.prog 42 z.1) :
    ∃ x : S42, k42.K W x cs ∧ (x.f0.size ≤ 140737488351232 ∧ x.f1.size ≤ 140737488351232) := by
  obtain ⟨y0, y1, m, rfl, hcs, h0, h1⟩ := trod_struct2 Tryd.underlying42 h
  have hC : Tryd.prog.cellsOf 42 = 2 := by kernel_rfl
  have hS : Tryd.prog.cellsOf 9 = 1 := by kernel_rfl
  rw [hC] at hcs
  obtain ⟨c0, c1, rfl⟩ := list2 hcs
  simp only [hS, List.drop_zero, List.take_succ_cons, List.take_zero, List.drop_succ_cons] at h0 h1
  obtain ⟨s0, e0, rfl, _⟩ := DataW.trod_string Tryd.underlying9 h0
  obtain ⟨s1, e1, rfl, _⟩ := DataW.trod_string Tryd.underlying9 h1
  simp only [List.cons.injEq, and_true] at e0 e1
  subst e0 e1
  have l0 := light_string (light_part (j := 0) Tryd.underlying42 hl rfl rfl)
  have l1 := light_string (light_part (j := 1) Tryd.underlying42 hl rfl rfl)
  simp only [Array.length_toList] at l0 l1
  exact ⟨⟨s0, s1⟩, k42_mk W ⟨s0, s1⟩, l0, l1⟩
theorem open_kvs_row {t : TypeId} {fuel len cap : Nat} {a : Option Addr} {y : DataW H × List MemPlace} (ht : Tryd.prog.underlying t = some (.slice 42))
    (h : DataW.trod enc Tryd.prog W base sp held fuel t [.slice a len cap] = some y) (hl : Light Tryd.prog t y.1) :
    ∃ l : List S42, len = l.length ∧ l.length ≤ cap ∧ Kd.C k42 W a l.length l ∧ (∀ x ∈ l, x.f0.size ≤ 140737488351232 ∧ x.f1.size ≤ 140737488351232) ∧ l.length * 32 ≤ 140737488351232 := by
  obtain ⟨l, h1, h2, h3, h4, h5⟩ := open_row k42 (fun x => x.f0.size ≤ 140737488351232 ∧ x.f1.size ≤ 140737488351232) ht (by kernel_rfl) elem_kv h hl
  rw [show Tryd.prog.bytesOf 42 = 32 by kernel_rfl] at h5
  exact ⟨l, h1, h2, h3, h4, h5⟩
end
end Go.Proofs.YtmmmmalicndkeaaDoor.X
