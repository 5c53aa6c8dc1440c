/- '[]byte(s)', of a string and of a constant's bytes: a row that is only read, in new memory (its block bears the mark of a conversion). -/
import Derived.Test.YtbaonnlpphpakaaDoorWMore
import Derived.Lib.ConvBytes
import Derived.Laws.AppendOwn
namespace Go.Proofs.YtbaonnlpphpakaaDoor.X
open Go.RowKit Go.Proofs.YtbaonnlpphpakaaDoorW.PrintWords Go.Proofs.YtbaonnlpphpakaaDoorW.PrintLast
set_option linter.unusedVariables false
set_option linter.unusedSimpArgs false

def conv_S.f (s : ByteArray) : Option (List Int) := if s.size ≤ 140737488355328 then some (bytesOf s) else none
def conv_L.f (l : List Int) : Option (List Int) := if l.length ≤ 140737488355328 then some l else none

theorem cell_of_heap {W W' : World} {g j : Nat} (h : W'.heap[g]? = W.heap[g]?) : W'.cell? ⟨g, j, none⟩ = W.cell? ⟨g, j, none⟩ := by
  simp only [World.cell?, h]
/-- A row that lies whole in one block, as what is only read. -/
theorem foot_of_block {W : World} {g n : Nat} {ok : Nat → Prop} {xs : List Int} (h : ReadsInt W .u8 (some ⟨g, 0, none⟩) n xs) (hg : ok g) (hlt : g < W.heap.size) : Kd.F (Kd.int .u8) W ok (some ⟨g, 0, none⟩) n xs := by
  intro W' hW
  have he := hW g hg hlt
  refine Kd.C_of_reads (d := (0 : Int)) (h1 := fun _ => rfl) ⟨h.1, h.2.1, fun hp => ?_⟩
  obtain ⟨ad, e, hc⟩ := h.2.2 hp
  refine ⟨ad, e, fun j hj => ?_⟩
  have := hc j hj
  injection e with e
  subst e
  rw [add_plain] at this ⊢
  rw [cell_of_heap he]
  exact this
section
variable {P : Program} {ops : Array Oper} {rest : List Oper} {o o2 : Oper} {a : Act} {Q : Exit → Act → World → Prop} {W : World}
theorem conv_ev_S (src dst e et : TypeId) {u : TypeDesc} (hs : P.underlying src = some u) (hd : P.underlying dst = some (.slice e)) (he : P.underlying e = some (.int .u8)) (x : Operand) (hg : o.guard = none) {N : Tmp} (hN : o.dst = some N) (ho : o.op = .convert src dst x)
    (s : ByteArray) (hx : a.eval x = .string s) (r : List Int) (hr : conv_S.f s = some r)
    (h : ∀ e' W', (∃ v : Value, e' = Ending.returned v ∧ Kd.V (Kd.int .u8) et W' W.heap.size (fun k_ => (W.heap.size ≤ k_)) v r ∧ Below W.heap.size W W') → ∃ v, e' = Ending.returned v ∧ wpList P ops Q rest (a.put (some N) v) W') : wpList P ops Q (o :: rest) a W := by
  unfold conv_S.f at hr
  split at hr
  case isFalse => cases hr
  rename_i hsz
  obtain rfl := Option.some.inj hr
  have hrun : (execOp a.eval o).run P W = .ok (.value (.slice (some ⟨W.heap.size, 0, none⟩) s.size (grownCap W s.size 0 e))) (Lib.bytesWorld W e s) := by
    simp [execOp, ho, hx, print_bytes src dst e hs hd he s W]
  refine Kd.event_run hg hrun ?_
  rw [hN]
  obtain ⟨v, hv, hc⟩ := h (.returned (.slice (some ⟨W.heap.size, 0, none⟩) s.size (grownCap W s.size 0 e))) (Lib.bytesWorld W e s) ⟨_, rfl, by
    have hl := bytesOf_length s
    rw [show s.size = (bytesOf s).length from hl.symm]
    refine Kd.V_mk (by rw [hl]; exact grownCap_ge _ _ _ _) (foot_of_block ?_ (Nat.le_refl _) (by rw [Lib.bytesWorld_size]; omega))
    rw [hl]
    exact bytes_reads W e s (by omega), bytes_below (Below.refl _ _) (Nat.le_refl _) e s⟩
  injection hv with hv
  rw [hv]
  exact hc
/-- A constant's bytes: a literal, and the conversion that marks it. -/
theorem conv_ev_L (t e et : TypeId) (ht : P.underlying t = some (.slice e)) (he : P.underlying e = some (.int .u8)) (hg : o.guard = none) {N N2 : Tmp} (hN : o.dst = some N) (hg2 : o2.guard = none) (hN2 : o2.dst = some N2) (ho2 : o2.op = .convert t t (.tmp N))
    (l : List Int) (hrun : (execOp a.eval o).run P W = .ok (.value (.slice (some ⟨W.heap.size, 0, none⟩) l.length l.length)) (W.alloc (.cells (nums .u8 l).toArray e)))
    (hx : (a.put (some N) (.slice (some ⟨W.heap.size, 0, none⟩) l.length l.length)).eval (.tmp N) = .slice (some ⟨W.heap.size, 0, none⟩) l.length l.length) (r : List Int) (hr : conv_L.f l = some r)
    (h : ∀ e' W', (∃ v : Value, e' = Ending.returned v ∧ Kd.V (Kd.int .u8) et W' W.heap.size (fun k_ => (W.heap.size ≤ k_)) v r ∧ Below W.heap.size W W') → ∃ v, e' = Ending.returned v ∧ wpList P ops Q rest ((a.put (some N) v).put (some N2) v) W') : wpList P ops Q (o :: o2 :: rest) a W := by
  unfold conv_L.f at hr
  split at hr
  case isFalse => cases hr
  rename_i hsz
  obtain rfl := Option.some.inj hr
  have hW2 : ∃ W2, (execOp (a.put (some N) (.slice (some ⟨W.heap.size, 0, none⟩) l.length l.length)).eval o2).run P (W.alloc (.cells (nums .u8 l).toArray e)) = .ok (.value (.slice (some ⟨W.heap.size, 0, none⟩) l.length l.length)) W2 ∧ W2.heap.size = W.heap.size + 1 ∧ Below W.heap.size W W2 ∧ ∃ fr, W2.heap[W.heap.size]? = some (.cells (nums .u8 l).toArray e fr) := by
    refine ⟨(W.alloc (.cells (nums .u8 l).toArray e)).freeze ⟨W.heap.size, (nums .u8 l).toArray.size, none⟩ 1, ?_, ?_, ?_, ?_⟩
    · have hsh : (W.alloc (.cells (nums .u8 l).toArray e)).shape? W.heap.size = some (e, (nums .u8 l).toArray.size) := by
        simp [World.shape?, World.alloc, -World.alloc_eq]
      simp [execOp, ho2, hx, convert, run_underlying ht, run_underlying he, markStringish, hsh, Result.andThen]
    · simp [World.freeze, World.alloc, -World.alloc_eq]
    · refine ⟨rfl, rfl, rfl, by simp [World.freeze, World.alloc, -World.alloc_eq], fun j hj => ?_⟩
      have h1 : W.heap.size ≠ j := by omega
      simp [World.freeze, World.alloc, -World.alloc_eq, Array.getElem?_modify, Array.getElem?_push, h1, Ne.symm h1]
    · refine ⟨((nums .u8 l).toArray.size, (nums .u8 l).toArray.size + 1), ?_⟩
      simp [World.freeze, World.alloc, -World.alloc_eq]
      rw [Array.getElem_modify_self]
      simp
  obtain ⟨W2, hrun2, hsz2, hb2, fr, hh⟩ := hW2
  refine Kd.event_run hg hrun ?_
  rw [hN]
  refine Kd.event_run hg2 hrun2 ?_
  rw [hN2]
  obtain ⟨v, hv, hc⟩ := h (.returned (.slice (some ⟨W.heap.size, 0, none⟩) l.length l.length)) W2 ⟨_, rfl, by
    refine Kd.V_mk (Nat.le_refl _) (foot_of_block ⟨rfl, by omega, fun hp => ⟨_, rfl, fun j hj => ?_⟩⟩ (Nat.le_refl _) (by omega))
    rw [add_plain]
    simp [World.cell?, hh, nums, List.getD_eq_getElem?_getD, List.getElem?_eq_getElem hj, hj], hb2⟩
  injection hv with hv
  rw [hv]
  exact hc
end
end Go.Proofs.YtbaonnlpphpakaaDoor.X
