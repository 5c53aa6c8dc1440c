/- '[]byte(s)', of a string and of a constant's bytes: a row that is only read, in new memory (its block bears the mark of a conversion). -/
import Derived.Test.YtmmmmalicndkeaaDoorVMore
import Derived.Lib.ConvBytes
import Derived.Laws.AppendOwn
namespace Go.Proofs.YtmmmmalicndkeaaDoor.X
open Go.RowKit Go.Proofs.YtmmmmalicndkeaaDoorW.PrintWords Go.Proofs.YtmmmmalicndkeaaDoorW.PrintLast
set_option linter.unusedVariables false
set_option linter.unusedSimpArgs false

theorem ba_mk_size (c : UInt8) (t : List UInt8) : (ByteArray.mk (List.toArray (c :: t))).size = (c :: t).length := rfl
theorem ba_bne (l : List UInt8) : (l != []) = !l.isEmpty := by cases l <;> rfl
theorem ba_beq (l : List UInt8) : (l == []) = l.isEmpty := by cases l <;> rfl
def conv_S.f (s : ByteArray) : Option (List Int) := if s.size ≤ 140737488355328 then some (bytesOf s) else none
def conv_L.f (l : List Int) : Option (List Int) := if l.length ≤ 140737488355328 then some l else none

theorem cell_of_heap {W W' : World} {g j : Nat} (h : W'.heap[g]? = W.heap[g]?) : W'.cell? ⟨g, j, none⟩ = W.cell? ⟨g, j, none⟩ := by
  simp only [World.cell?, h]
/-- A row that lies whole in one block, as what is only read. -/
theorem foot_of_block {W : World} {g n : Nat} {ok : Nat → Prop} {xs : List Int} (h : ReadsInt W .u8 (some ⟨g, 0, none⟩) n xs) (hg : ok g) (hlt : g < W.heap.size) : Kd.F (Kd.int .u8) W ok (some ⟨g, 0, none⟩) n xs := by
  intro W' hW
  have he := hW g hg hlt
  refine Kd.C_of_reads (d := (0 : Int)) (h1 := fun _ => rfl) ⟨h.1, h.2.1, fun hp => ?_⟩
  obtain ⟨ad, e, hc⟩ := h.2.2 hp
  refine ⟨ad, e, fun j hj => ?_⟩
  have := hc j hj
  injection e with e
  subst e
  rw [add_plain] at this ⊢
  rw [cell_of_heap he]
  exact this
section
variable {P : Program} {ops : Array Oper} {rest : List Oper} {o o2 : Oper} {a : Act} {Q : Exit → Act → World → Prop} {W : World}
theorem conv_ev_S (src dst e et : TypeId) {u : TypeDesc} (hs : P.underlying src = some u) (hd : P.underlying dst = some (.slice e)) (he : P.underlying e = some (.int .u8)) (x : Operand) (hg : o.guard = none) {N : Tmp} (hN : o.dst = some N) (ho : o.op = .convert src dst x)
    (s : ByteArray) (hx : a.eval x = .string s) (r : List Int) (hr : conv_S.f s = some r)
    (h : ∀ e' W', (∃ v : Value, e' = Ending.returned v ∧ Kd.V (Kd.int .u8) et W' W.heap.size (fun k_ => (W.heap.size ≤ k_)) v r ∧ Below W.heap.size W W') → ∃ v, e' = Ending.returned v ∧ wpList P ops Q rest (a.put (some N) v) W') : wpList P ops Q (o :: rest) a W := by
  unfold conv_S.f at hr
  split at hr
  case isFalse => cases hr
  rename_i hsz
  obtain rfl := Option.some.inj hr
  have hrun : (execOp a.eval o).run P W = .ok (.value (.slice (some ⟨W.heap.size, 0, none⟩) s.size (grownCap W s.size 0 e))) (Lib.bytesWorld W e s) := by
    simp [execOp, ho, hx, print_bytes src dst e hs hd he s W]
  refine Kd.event_run hg hrun ?_
  rw [hN]
  obtain ⟨v, hv, hc⟩ := h (.returned (.slice (some ⟨W.heap.size, 0, none⟩) s.size (grownCap W s.size 0 e))) (Lib.bytesWorld W e s) ⟨_, rfl, by
    have hl := bytesOf_length s
    rw [show s.size = (bytesOf s).length from hl.symm]
    refine Kd.V_mk (by rw [hl]; exact grownCap_ge _ _ _ _) (foot_of_block ?_ (Nat.le_refl _) (by rw [Lib.bytesWorld_size]; omega))
    rw [hl]
    exact bytes_reads W e s (by omega), bytes_below (Below.refl _ _) (Nat.le_refl _) e s⟩
  injection hv with hv
  rw [hv]
  exact hc
/-- A constant's bytes: a literal, and the conversion that marks it. -/
theorem conv_ev_L (t e et : TypeId) (ht : P.underlying t = some (.slice e)) (he : P.underlying e = some (.int .u8)) (hg : o.guard = none) {N N2 : Tmp} (hN : o.dst = some N) (hg2 : o2.guard = none) (hN2 : o2.dst = some N2) (ho2 : o2.op = .convert t t (.tmp N))
    (l : List Int) (hrun : (execOp a.eval o).run P W = .ok (.value (.slice (some ⟨W.heap.size, 0, none⟩) l.length l.length)) (W.alloc (.cells (nums .u8 l).toArray e)))
    (hx : (a.put (some N) (.slice (some ⟨W.heap.size, 0, none⟩) l.length l.length)).eval (.tmp N) = .slice (some ⟨W.heap.size, 0, none⟩) l.length l.length) (r : List Int) (hr : conv_L.f l = some r)
    (h : ∀ e' W', (∃ v : Value, e' = Ending.returned v ∧ Kd.V (Kd.int .u8) et W' W.heap.size (fun k_ => (W.heap.size ≤ k_)) v r ∧ Below W.heap.size W W') → ∃ v, e' = Ending.returned v ∧ wpList P ops Q rest ((a.put (some N) v).put (some N2) v) W') : wpList P ops Q (o :: o2 :: rest) a W := by
  unfold conv_L.f at hr
  split at hr
  case isFalse => cases hr
  rename_i hsz
  obtain rfl := Option.some.inj hr
  have hW2 : ∃ W2, (execOp (a.put (some N) (.slice (some ⟨W.heap.size, 0, none⟩) l.length l.length)).eval o2).run P (W.alloc (.cells (nums .u8 l).toArray e)) = .ok (.value (.slice (some ⟨W.heap.size, 0, none⟩) l.length l.length)) W2 ∧ W2.heap.size = W.heap.size + 1 ∧ Below W.heap.size W W2 ∧ ∃ fr, W2.heap[W.heap.size]? = some (.cells (nums .u8 l).toArray e fr) := by
    refine ⟨(W.alloc (.cells (nums .u8 l).toArray e)).freeze ⟨W.heap.size, (nums .u8 l).toArray.size, none⟩ 1, ?_, ?_, ?_, ?_⟩
    · have hsh : (W.alloc (.cells (nums .u8 l).toArray e)).shape? W.heap.size = some (e, (nums .u8 l).toArray.size) := by
        simp [World.shape?, World.alloc, -World.alloc_eq]
      simp [execOp, ho2, hx, convert, run_underlying ht, run_underlying he, markStringish, hsh, Result.andThen]
    · simp [World.freeze, World.alloc, -World.alloc_eq]
    · refine ⟨rfl, rfl, rfl, by simp [World.freeze, World.alloc, -World.alloc_eq], fun j hj => ?_⟩
      have h1 : W.heap.size ≠ j := by omega
      simp [World.freeze, World.alloc, -World.alloc_eq, Array.getElem?_modify, Array.getElem?_push, h1, Ne.symm h1]
    · refine ⟨((nums .u8 l).toArray.size, (nums .u8 l).toArray.size + 1), ?_⟩
      simp [World.freeze, World.alloc, -World.alloc_eq]
      rw [Array.getElem_modify_self]
      simp
  obtain ⟨W2, hrun2, hsz2, hb2, fr, hh⟩ := hW2
  refine Kd.event_run hg hrun ?_
  rw [hN]
  refine Kd.event_run hg2 hrun2 ?_
  rw [hN2]
  obtain ⟨v, hv, hc⟩ := h (.returned (.slice (some ⟨W.heap.size, 0, none⟩) l.length l.length)) W2 ⟨_, rfl, by
    refine Kd.V_mk (Nat.le_refl _) (foot_of_block ⟨rfl, by omega, fun hp => ⟨_, rfl, fun j hj => ?_⟩⟩ (Nat.le_refl _) (by omega))
    rw [add_plain]
    simp [World.cell?, hh, nums, List.getD_eq_getElem?_getD, List.getElem?_eq_getElem hj, hj], hb2⟩
  injection hv with hv
  rw [hv]
  exact hc
end

/-! ### A converted row that is stored into: 'Z': one block of the call's own, with a conversion's mark behind its cells -/
namespace Kd
def Z (_d : Kd Int) (e : Nat) (W : World) (base : Nat) (ok : Nat → Prop) (v : Value) (xs : List Int) : Prop :=
  ∃ g cap cur fr, v = .slice (some ⟨g, 0, none⟩) xs.length cap ∧ ok g ∧ base ≤ g ∧ W.heap[g]? = some (.cells cur e fr) ∧ cur.size ≤ fr.1 ∧ xs.length ≤ cap ∧ xs.length ≤ 9223372036854775807 ∧ ∀ j, j < xs.length → cur[j]? = some (.int .u8 (xs.getD j 0))
section
variable {d : Kd Int} {e base g n c : Nat} {ok ok' : Nat → Prop} {w w1 W : World} {A : Option Addr} {u v : Value} {xs : List Int}
theorem Z_mono (h : Z d e W base ok v xs) (hok : ∀ k, ok k → ok' k) : Z d e W base ok' v xs := by
  obtain ⟨g, cap, cur, fr, h1, h2, h3⟩ := h
  exact ⟨g, cap, cur, fr, h1, hok _ h2, h3⟩
theorem Z_lower {base' : Nat} (h : Z d e W base ok v xs) (hb : base' ≤ base) : Z d e W base' ok v xs := by
  obtain ⟨g, cap, cur, fr, h1, h2, h3, h4⟩ := h
  exact ⟨g, cap, cur, fr, h1, h2, Nat.le_trans hb h3, h4⟩
theorem Z_step (h : Z d e W base ok v xs) (hm : ∀ k, ok k → k < W.heap.size → w1.heap[k]? = W.heap[k]?) : Z d e w1 base ok v xs := by
  obtain ⟨g, cap, cur, fr, h1, h2, h3, h4, h5⟩ := h
  exact ⟨g, cap, cur, fr, h1, h2, h3, (hm g h2 (Array.getElem?_eq_some_iff.1 h4).1).trans h4, h5⟩
theorem Z_below (h : Z d e W base ok v xs) (hb : Below W.heap.size W w1) : Z d e w1 base ok v xs := Z_step h (fun k _ hk => hb.block k hk)
theorem Z_alloc (h : Z d e W base ok v xs) (o : Obj) : Z d e (W.alloc o) base ok v xs := Z_below h (below_alloc (Below.refl _ _) o)
theorem Z_drew (h : Z d e W base ok v xs) : Z d e W.drew base ok v xs := Z_below h (below_drew (Below.refl _ _))
theorem Z_drewN (h : Z d e W base ok v xs) (m : Nat) : Z d e (W.drewN m) base ok v xs := Z_below h (pw_below_drewN (Below.refl _ _) m)
theorem Z_grown (h : Z d e W base ok v xs) {row : Option Nat} (hg : W.grownBy w1 row) (hok : ∀ k, ok k → some k ≠ row) : Z d e w1 base ok v xs := Z_step h (fun k ho hk => hg.block k hk (hok k ho))
theorem Z_far (h : Z d e W base ok v xs) {p : Addr} (hok : ∀ k, ok k → k ≠ p.block) (u : Value) : Z d e (W.setCell p u) base ok v xs := Z_step h (fun k hk _ => Below.heap_setCell W p u k (hok k hk))
theorem Z_own (h : Z d e W base ok v xs) : ∀ k, v.ownBlock = some k → ok k ∧ base ≤ k ∧ k < W.heap.size := by
  obtain ⟨g, cap, cur, fr, rfl, h2, h3, h4, _⟩ := h
  intro k hk
  have : g = k := by simpa [Value.ownBlock] using hk
  subst this
  exact ⟨h2, h3, (Array.getElem?_eq_some_iff.1 h4).1⟩
theorem Z_base (h : Z d e W base ok v xs) : ∀ k, v.ownBlock = some k → base ≤ k := fun k hk => (Z_own h k hk).2.1
theorem Z_lt (h : Z d e W base ok v xs) : ∀ k, v.ownBlock = some k → k < W.heap.size := fun k hk => (Z_own h k hk).2.2
theorem Z_bound (h : Z d e W base ok v xs) : Z d e W base (fun k => ok k ∧ base ≤ k ∧ k < W.heap.size) v xs := by
  obtain ⟨g, cap, cur, fr, h1, h2, h3, h4, h5⟩ := h
  exact ⟨g, cap, cur, fr, h1, ⟨h2, h3, (Array.getElem?_eq_some_iff.1 h4).1⟩, h3, h4, h5⟩
theorem Z_slice (h : Z d e W base ok v xs) : ∃ A c, v = .slice A xs.length c := by
  obtain ⟨g, cap, cur, fr, h1, _⟩ := h
  exact ⟨_, _, h1⟩
theorem Z_cells (h : Z d e W base ok (.slice A n c) xs) : n = xs.length ∧ n ≤ c ∧ ReadsInt W .u8 A xs.length xs := by
  obtain ⟨g, cap, cur, fr, h1, h2, h3, h4, h5, h6, h7, h8⟩ := h
  injection h1 with ha hn hc
  subst ha; subst hc
  refine ⟨hn, by omega, rfl, h7, fun hp => ⟨_, rfl, fun j hj => ?_⟩⟩
  rw [add_plain, cell_of_row W g j cur e fr h4]
  exact h8 j hj
theorem Z_reads' (h : Z d e W base ok (.slice A n c) xs) : n = xs.length ∧ n ≤ c ∧ (Kd.int .u8).C W A xs.length xs :=
  ⟨(Z_cells h).1, (Z_cells h).2.1, Kd.C_of_reads (d := (0 : Int)) (h1 := fun _ => rfl) (Z_cells h).2.2⟩
theorem Z_celln (z : Int) (h : Z d e W base ok (.slice (some ⟨g, 0, none⟩) n c) xs) (i : Int) (h0 : 0 ≤ i) (hi : i < n) : W.cell? ⟨g, i.toNat, none⟩ = some (.int .u8 (rdOf z xs i)) ∧ W.frozen? ⟨g, i.toNat, none⟩ = false := by
  obtain ⟨g', cap, cur, fr, h1, h2, h3, h4, h5, h6, h7, h8⟩ := h
  injection h1 with ha hn hc
  injection ha with ha
  injection ha with ha
  subst ha; subst hc; subst hn
  have hj : i.toNat < xs.length := by omega
  have hc := h8 i.toNat hj
  refine ⟨?_, ?_⟩
  · rw [cell_of_row W g i.toNat cur e fr h4, hc]
    unfold rdOf
    simp [List.getD_eq_getElem?_getD, hj]
  · have hl : i.toNat < cur.size := (Array.getElem?_eq_some_iff.1 hc).1
    simp [World.frozen?, h4]
    omega
theorem Z_putg (h : Z d e W base ok (.slice (some ⟨g, 0, none⟩) n c) xs) (i : Int) (x : Int) : Z d e (W.setCell ⟨g, i.toNat, none⟩ (.int .u8 x)) base ok (.slice (some ⟨g, 0, none⟩) n c) (xs.set i.toNat x) ∧ W.grownBy (W.setCell ⟨g, i.toNat, none⟩ (.int .u8 x)) (some g) := by
  obtain ⟨g', cap, cur, fr, h1, h2, h3, h4, h5, h6, h7, h8⟩ := h
  injection h1 with ha hn hc
  injection ha with ha
  injection ha with ha
  subst ha; subst hc; subst hn
  have hb : (W.setCell ⟨g, i.toNat, none⟩ (.int .u8 x)).heap[g]? = some (.cells (cur.setIfInBounds i.toNat (.int .u8 x)) e fr) := by simp [World.setCell, Array.getElem?_modify, h4]
  refine ⟨⟨g, c, _, fr, by rw [List.length_set], h2, h3, hb, by simpa using h5, by rw [List.length_set]; exact h6, by rw [List.length_set]; exact h7, fun j hj => ?_⟩, ⟨rfl, rfl, rfl, by simp [World.setCell], fun k _ hk => Below.heap_setCell W _ _ k (fun he => hk (by rw [he]))⟩⟩
  rw [List.length_set] at hj
  have hc := h8 j hj
  have hl : j < cur.size := (Array.getElem?_eq_some_iff.1 hc).1
  rw [Array.getElem?_setIfInBounds]
  by_cases he : i.toNat = j
  · subst he
    rw [if_pos rfl, if_pos hl]
    simp [List.getD_eq_getElem?_getD, hj]
  · rw [if_neg he, hc]
    simp [List.getD_eq_getElem?_getD, List.getElem?_set_ne he]
theorem Z_putn (h : Z d e W base ok (.slice (some ⟨g, 0, none⟩) n c) xs) (i : Int) (x : Int) : Z d e (W.setCell ⟨g, i.toNat, none⟩ (.int .u8 x)) base ok (.slice (some ⟨g, 0, none⟩) n c) (xs.set i.toNat x) := (Z_putg h i x).1
theorem Z_form (h : Z d e w base ok v xs) (hp : 0 < xs.length) : ∃ g cap, v = .slice (some ⟨g, 0, none⟩) xs.length cap ∧ base ≤ g ∧ g < w.heap.size ∧ ∃ cells, ∃ fr, w.heap[g]? = some (.cells cells e fr) := by
  obtain ⟨g, cap, cur, fr, h1, h2, h3, h4, _⟩ := h
  exact ⟨g, cap, h1, h3, (Array.getElem?_eq_some_iff.1 h4).1, cur, fr, h4⟩
theorem Z_new' (h : Z d e w1 W.heap.size ok v xs) (hlt : ∀ k, u.ownBlock = some k → k < W.heap.size) : Z d e w1 W.heap.size (fun k => ok k ∧ some k ≠ u.ownBlock) v xs :=
  Z_mono (Z_bound h) (fun k hk => ⟨hk.1, fun he => by have := hlt k he.symm; have := hk.2.1; omega⟩)
theorem Z_newM {M : Nat → Prop} (h : Z d e w1 W.heap.size ok v xs) (hle : w.heap.size ≤ W.heap.size) (hM : ∀ k, w.heap.size ≤ k → M k) : Z d e w1 W.heap.size (fun k => M k ∧ ok k) v xs := Z_mono (Z_bound h) (fun k hk => ⟨hM k (Nat.le_trans hle hk.2.1), hk.1⟩)
theorem Z_elder' (h : Z d e W base ok v xs) (hbase : ∀ k, u.ownBlock = some k → W.heap.size ≤ k) (hb : Below W.heap.size W w1) : Z d e w1 base (fun k => ok k ∧ some k ≠ u.ownBlock) v xs :=
  Z_mono (Z_below (Z_bound h) hb) (fun k hk => ⟨hk.1, fun he => by have := hbase k he.symm; have := hk.2.2; omega⟩)
theorem Z_V {base' : Nat} (h : Z d e W base ok v xs) : Kd.V (Kd.int .u8) e W base' ok v xs := by
  obtain ⟨A, c, rfl⟩ := Z_slice h
  have hc := Z_cells h
  obtain ⟨g, cap, cur, fr, h1, h2, h3, h4, h5⟩ := h
  injection h1 with ha hn hcc
  subst ha
  exact Kd.V_mk hc.2.1 (foot_of_block hc.2.2 h2 (Array.getElem?_eq_some_iff.1 h4).1)
end
end Kd
section
variable {P : Program} {ops : Array Oper} {rest : List Oper} {o o2 : Oper} {a : Act} {Q : Exit → Act → World → Prop} {W : World}
theorem conv_ev_SZ (src dst e et : TypeId) {u : TypeDesc} (hs : P.underlying src = some u) (hd : P.underlying dst = some (.slice et)) (he : P.underlying et = some (.int .u8)) (hee : e = et) (x : Operand) (hg : o.guard = none) {N : Tmp} (hN : o.dst = some N) (ho : o.op = .convert src dst x)
    (s : ByteArray) (hx : a.eval x = .string s) (r : List Int) (hr : conv_S.f s = some r)
    (h : ∀ e' W', (∃ v : Value, e' = Ending.returned v ∧ Kd.Z (Kd.int .u8) et W' W.heap.size (fun k_ => (W.heap.size ≤ k_)) v r ∧ Below W.heap.size W W') → ∃ v, e' = Ending.returned v ∧ wpList P ops Q rest (a.put (some N) v) W') : wpList P ops Q (o :: rest) a W := by
  unfold conv_S.f at hr
  split at hr
  case isFalse => cases hr
  rename_i hsz
  obtain rfl := Option.some.inj hr
  have hrun : (execOp a.eval o).run P W = .ok (.value (.slice (some ⟨W.heap.size, 0, none⟩) s.size (grownCap W s.size 0 et))) (Lib.bytesWorld W et s) := by
    simp [execOp, ho, hx, print_bytes src dst et hs hd he s W]
  refine Kd.event_run hg hrun ?_
  rw [hN]
  obtain ⟨v, hv, hc⟩ := h (.returned (.slice (some ⟨W.heap.size, 0, none⟩) s.size (grownCap W s.size 0 et))) (Lib.bytesWorld W et s) ⟨_, rfl, by
    have hl := bytesOf_length s
    have hsize : s.size ≤ (Lib.bytesCells W et s).size := by simp [Lib.bytesCells]
    refine ⟨W.heap.size, _, _, _, by rw [hl], Nat.le_refl _, Nat.le_refl _, Lib.bytesWorld_at_new W et s, Nat.le_refl _, by rw [hl]; exact grownCap_ge _ _ _ _, by rw [hl]; omega, fun j hj => ?_⟩
    rw [hl] at hj
    have := Lib.bytesWorld_cell W et s j hj
    rw [cell_of_row _ _ _ _ _ _ (Lib.bytesWorld_at_new W et s)] at this
    rw [this]
    have h' : j < s.data.toList.length := by rw [data_length]; exact hj
    simp [bytesOf, List.getD_eq_getElem?_getD, List.getElem?_eq_getElem h'], bytes_below (Below.refl _ _) (Nat.le_refl _) et s⟩
  injection hv with hv
  rw [hv]
  exact hc
end
end Go.Proofs.YtmmmmalicndkeaaDoor.X
