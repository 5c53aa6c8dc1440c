/- PaxBack in plain words: it answers true, for all records and every key. -/
import Derived.Test.YtmmmmalicndkeaaDoorX42
import Derived.Test.YtmmmmalicndkeaaDoorPaxAwake
import Derived.Test.YtmmmmalicndkeaaDoorBits
namespace Go.Proofs.YtmmmmalicndkeaaDoor.X
open Go.RowKit Go.Proofs.YtmmmmalicndkeaaDoorW.PrintWords Go.Proofs.YtmmmmalicndkeaaDoorW.PrintLast Go.Proofs.YtmmmmalicndkeaaDoorW.PrintMore
set_option linter.unusedVariables false
set_option linter.unusedSimpArgs false

theorem cast_succ {α : Type} (pre : List α) (x : α) (h : pre.length ≤ 10000000000000) : wrap64 ((pre.length : Int) + 1) = ((pre ++ [x]).length : Int) := by rw [w64 (by omega) (by omega)]; simp

/-! ### small -/
/-- Are records few, and short? -/
def smallL (l : List KV) : Bool := decide (l.length ≤ 15) && l.all fun x => decide (x.f0.size ≤ 300) && decide (x.f1.size ≤ 300)
theorem small_l0 (l : List KV) (hl : l.length ≤ 10000000000000) : ∀ (r pre : List KV), l = pre ++ r → (∀ x ∈ pre, x.f0.size ≤ 300 ∧ x.f1.size ≤ 300) → pre.length ≤ 15 → Ev (fun k => portmanteaulaw18_small.l0 k l (pre.length : Int)) (smallL l)
  | [], pre, e, hp, hn => by
    refine Ev.succ ?_
    simp only [portmanteaulaw18_small.l0]
    have hlen : l.length = pre.length := by rw [e]; simp
    refine Ev.neg (by omega) ?_
    have hs : smallL l = true := by
      unfold smallL
      rw [decide_eq_true (by omega), Bool.true_and, List.all_eq_true]
      intro x hx
      have := hp x (by rw [e, List.append_nil] at hx; exact hx)
      rw [decide_eq_true this.1, decide_eq_true this.2]
      rfl
    rw [hs]
    exact Ev.now _
  | x :: r, pre, e, hp, hn => by
    refine Ev.succ ?_
    simp only [portmanteaulaw18_small.l0]
    have hlen : l.length = pre.length + (r.length + 1) := by rw [e]; simp
    have hx : rd_T42 l (pre.length : Int) = x := by rw [e]; exact rd_app pre r x
    have hmem : x ∈ l := by rw [e]; simp
    refine Ev.pos (by omega) ?_
    by_cases h15 : (pre.length : Int) ≥ 15
    · refine Ev.pos h15 ?_
      have hs : smallL l = false := by unfold smallL; rw [decide_eq_false (by omega)]; rfl
      rw [hs]
      exact Ev.now _
    · refine Ev.neg h15 (Ev.pos (by omega) ?_)
      rw [hx]
      by_cases h0 : (x.f0.size : Int) > 300
      · refine Ev.pos h0 ?_
        have hs : smallL l = false := by
          rw [Bool.eq_false_iff]
          intro h
          unfold smallL at h
          rw [Bool.and_eq_true, List.all_eq_true] at h
          have := h.2 x hmem
          simp only [Bool.and_eq_true, decide_eq_true_eq] at this
          omega
        rw [hs]
        exact Ev.now _
      · refine Ev.neg h0 ?_
        by_cases h1 : (x.f1.size : Int) > 300
        · refine Ev.pos h1 ?_
          have hs : smallL l = false := by
            rw [Bool.eq_false_iff]
            intro h
            unfold smallL at h
            rw [Bool.and_eq_true, List.all_eq_true] at h
            have := h.2 x hmem
            simp only [Bool.and_eq_true, decide_eq_true_eq] at this
            omega
          rw [hs]
          exact Ev.now _
        · refine Ev.neg h1 ?_
          rw [cast_succ pre x (by omega)]
          exact small_l0 l hl r (pre ++ [x]) (by rw [e]; simp) (by
            intro y hy
            rcases List.mem_append.1 hy with hy | hy
            · exact hp y hy
            · rw [List.mem_singleton.1 hy]; omega) (by rw [List.length_append, List.length_singleton]; omega)
theorem small_ev (l : List KV) (hl : l.length ≤ 10000000000000) : Ev (fun k => portmanteaulaw18_small.f k l) (smallL l) := by
  unfold portmanteaulaw18_small.f
  exact small_l0 l hl l [] rfl (by simp) (by simp)

/-! ### Same -/
theorem same_kv_l0 (l : List KV) (hl : l.length ≤ 10000000000000) : ∀ (r pre : List KV), l = pre ++ r → Ev (fun k => portmanteaulaw18_Same.l0 k l l (pre.length : Int)) true
  | [], pre, e => by
    refine Ev.succ ?_
    simp only [portmanteaulaw18_Same.l0]
    have hlen : l.length = pre.length := by rw [e]; simp
    exact Ev.neg (by omega) (Ev.now _)
  | x :: r, pre, e => by
    refine Ev.succ ?_
    simp only [portmanteaulaw18_Same.l0]
    have hlen : l.length = pre.length + (r.length + 1) := by rw [e]; simp
    refine Ev.pos (by omega) (Ev.pos (by omega) (Ev.pos (by omega) ?_))
    refine Ev.neg (by simp) ?_
    rw [cast_succ pre x (by omega)]
    exact same_kv_l0 l hl r (pre ++ [x]) (by rw [e]; simp)
theorem same_kv (l : List KV) (hl : l.length ≤ 10000000000000) : Ev (fun k => portmanteaulaw18_Same.f k l l) true := by
  unfold portmanteaulaw18_Same.f
  exact Ev.pos (by first | trivial | rfl) (same_kv_l0 l hl l [] rfl)

/-! ### Get -/
/-- The last value of a key. -/
def lastOf (key : List UInt8) : List KV → ByteArray × Bool → ByteArray × Bool
  | [], r => r
  | x :: l, r => lastOf key l (if x.f0.data.toList = key then (x.f1, !x.f1.data.toList.isEmpty) else r)
theorem lastOf_snoc (key : List UInt8) : ∀ (l : List KV) (x : KV) (r : ByteArray × Bool), lastOf key (l ++ [x]) r = if x.f0.data.toList = key then (x.f1, !x.f1.data.toList.isEmpty) else lastOf key l r
  | [], x, r => rfl
  | y :: l, x, r => by simp only [List.cons_append, lastOf]; exact lastOf_snoc key l x _
theorem get_l0 (key : ByteArray) (t : List KV) : ∀ (n : Nat) (p : List KV), p.length = n → (p ++ t).length ≤ 1000000000000 → Ev (fun k => pax_Get.l0 k (p ++ t) key ((n : Int) - 1)) (lastOf key.data.toList p ((⟨#[]⟩ : ByteArray), false)) := by
  intro n
  induction n generalizing t with
  | zero =>
    intro p hp hl
    have : p = [] := List.eq_nil_of_length_eq_zero hp
    subst this
    refine Ev.succ ?_
    simp only [pax_Get.l0]
    exact Ev.neg (by omega) (Ev.now _)
  | succ n ih =>
    intro p hp hl
    obtain ⟨q, x, rfl⟩ : ∃ q x, p = q ++ [x] := by
      have hne : p ≠ [] := by intro h; rw [h] at hp; simp at hp
      exact ⟨p.dropLast, p.getLast hne, (List.dropLast_concat_getLast hne).symm⟩
    have hq : q.length = n := by simp at hp; exact hp
    have hlen : (q ++ [x] ++ t).length = n + 1 + t.length := by simp; omega
    have e0 : ((n + 1 : Nat) : Int) - 1 = (q.length : Int) := by omega
    rw [e0]
    refine Ev.succ ?_
    simp only [pax_Get.l0]
    refine Ev.pos (by omega) (Ev.pos (by omega) (Ev.pos (by omega) ?_))
    have hx : rd_T42 (q ++ [x] ++ t) (q.length : Int) = x := by rw [List.append_assoc, List.singleton_append]; exact rd_app q t x
    rw [hx, lastOf_snoc]
    simp only [ba_toList]
    by_cases h : x.f0.data.toList = key.data.toList
    · rw [if_pos h]
      refine Ev.pos h ?_
      refine ev_eq (Ev.now _) ?_
      rw [ba_bne]
    · rw [if_neg h]
      refine Ev.neg h ?_
      have e1 : wrap64 ((q.length : Int) - 1) = (n : Int) - 1 := by rw [w64 (by omega) (by omega)]; omega
      rw [e1, List.append_assoc]
      exact ih ([x] ++ t) q hq (by rw [← List.append_assoc]; omega)
theorem get_ev (l : List KV) (key : ByteArray) (hl : l.length ≤ 1000000000) : Ev (fun k => pax_Get.f k l key) (lastOf key.data.toList l ((⟨#[]⟩ : ByteArray), false)) := by
  unfold pax_Get.f
  have h := get_l0 key [] l.length l rfl (by simp; omega)
  rw [List.append_nil] at h
  rw [w64 (by omega) (by omega)]
  exact h
theorem lastOf_empty (key : List UInt8) : ∀ (l : List KV) (r : ByteArray × Bool), (r.2 = false → r.1.data.toList = []) → (lastOf key l r).2 = false → (lastOf key l r).1.data.toList = []
  | [], r, h, h2 => h h2
  | x :: l, r, h, h2 => by
    unfold lastOf at h2 ⊢
    refine lastOf_empty key l _ ?_ h2
    intro h3
    split at h3
    · rename_i hk
      rw [if_pos hk]
      simpa using h3
    · rename_i hk
      rw [if_neg hk]
      exact h h3

/-! ### the statement -/
/-- May a record be written? -/
def okKV (x : KV) : Bool := kvOk x.f0.data.toList x.f1.data.toList
theorem one_len (x : KV) (h0 : x.f0.size ≤ 300) (h1 : x.f1.size ≤ 300) : (recL x.f0.data.toList x.f1.data.toList).length ≤ 623 := by
  have a := ba_len2 x.f0
  have b := ba_len2 x.f1
  have := recL_len x.f0.data.toList x.f1.data.toList (by omega)
  omega
theorem encode_one (x : KV) (h0 : x.f0.size ≤ 300) (h1 : x.f1.size ≤ 300) : Ev (fun k => pax_Encode.f k [x]) (if okKV x = true then (I (recL x.f0.data.toList x.f1.data.toList), true) else ([], false)) := by
  have h := encode_ev [x] (by simp) (by simp only [tot]; omega)
  refine ev_eq h ?_
  unfold encOf encL encL okKV
  by_cases hk : kvOk x.f0.data.toList x.f1.data.toList = true
  · rw [if_pos hk, if_pos hk]
    have := one_len x h0 h1
    simp only [Option.map_some, List.append_nil]
    rw [if_neg (by omega)]
  · rw [if_neg hk, if_neg hk]
theorem enc_nil_key : Ev (fun k => pax_Encode.f k [(⟨(⟨#[]⟩ : ByteArray), (⟨#[120]⟩ : ByteArray)⟩ : KV)]) (([] : List Int), false) := by
  have h := encode_one (⟨(⟨#[]⟩ : ByteArray), (⟨#[120]⟩ : ByteArray)⟩ : KV) (by decide) (by decide)
  rw [if_neg (by decide)] at h
  exact h
theorem catL_le : ∀ l : List KV, (∀ x ∈ l, x.f0.size ≤ 300 ∧ x.f1.size ≤ 300) → (catL l).length ≤ 623 * l.length
  | [], _ => by simp [catL]
  | x :: l, h => by
    have h1 := one_len x (h x (by simp)).1 (h x (by simp)).2
    have h2 := catL_le l (fun y hy => h y (by simp [hy]))
    simp only [catL, List.length_append, List.length_cons]
    omega
theorem tot_le : ∀ l : List KV, (∀ x ∈ l, x.f0.size ≤ 300 ∧ x.f1.size ≤ 300) → tot l ≤ 623 * l.length
  | [], _ => by simp [tot]
  | x :: l, h => by
    have h1 := h x (by simp)
    have h2 := tot_le l (fun y hy => h y (by simp [hy]))
    simp only [tot, List.length_cons]
    omega
theorem back_l1 (key : ByteArray) (own : List KV) (hl : own.length ≤ 15) : ∀ (r pre : List KV), own = pre ++ r → Ev (fun k => portmanteaulaw18_PaxBack.l1 k key own own (lastOf key.data.toList pre ((⟨#[]⟩ : ByteArray), false)).1 (lastOf key.data.toList pre ((⟨#[]⟩ : ByteArray), false)).2 (pre.length : Int)) true
  | [], pre, e => by
    rw [List.append_nil] at e
    subst e
    refine Ev.succ ?_
    simp only [portmanteaulaw18_PaxBack.l1]
    refine Ev.neg (by omega) ?_
    refine Ev.bind (get_ev own key (by omega)) ?_
    refine Ev.bind enc_nil_key ?_
    refine Ev.pos (by simp) ?_
    simp only [ba_toList]
    have hem := lastOf_empty key.data.toList own ((⟨#[]⟩ : ByteArray), false) (fun _ => rfl)
    cases hq : (lastOf key.data.toList own ((⟨#[]⟩ : ByteArray), false)).2
    · refine Ev.neg (by decide) (Ev.pos (hem hq) (Ev.neg (by decide) ?_))
      exact Ev.bind awake18 (Ev.now _)
    · refine Ev.pos (by first | trivial | rfl) (Ev.pos (by first | trivial | rfl) (Ev.neg (by decide) ?_))
      exact Ev.bind awake18 (Ev.now _)
  | x :: r, pre, e => by
    refine Ev.succ ?_
    simp only [portmanteaulaw18_PaxBack.l1]
    have hlen : own.length = pre.length + (r.length + 1) := by rw [e]; simp
    have hx : rd_T42 own (pre.length : Int) = x := by rw [e]; exact rd_app pre r x
    refine Ev.pos (by omega) (Ev.pos (by omega) ?_)
    rw [hx, cast_succ pre x (by omega)]
    have ih := back_l1 key own hl r (pre ++ [x]) (by rw [e]; simp)
    rw [lastOf_snoc] at ih
    simp only [ba_toList]
    by_cases h : x.f0.data.toList = key.data.toList
    · rw [if_pos h] at ih
      refine Ev.pos h ?_
      rw [ba_bne]
      exact ih
    · rw [if_neg h] at ih
      exact Ev.neg h ih
theorem back_l0 (key : ByteArray) (l : List KV) (hl : l.length ≤ 15) (hs : ∀ x ∈ l, x.f0.size ≤ 300 ∧ x.f1.size ≤ 300) : ∀ (r pre own : List KV), l = pre ++ r → own.length ≤ pre.length → (∀ x ∈ own, okKV x = true ∧ x.f0.size ≤ 300 ∧ x.f1.size ≤ 300) →
    Ev (fun k => portmanteaulaw18_PaxBack.l0 k l key own (pre.length : Int)) true
  | [], pre, own, e, ho, hk => by
    have hlen : l.length = pre.length := by rw [e]; simp
    refine Ev.succ ?_
    simp only [portmanteaulaw18_PaxBack.l0]
    refine Ev.neg (by omega) ?_
    have ht := tot_le own (fun x hx => (hk x hx).2)
    have hc := catL_le own (fun x hx => (hk x hx).2)
    have henc := encode_ev own (by omega) (by omega)
    have heo : encOf own = (I (catL own), true) := by
      unfold encOf
      rw [encL_cat own (fun x hx => (hk x hx).1)]
      simp only
      rw [if_neg (by omega)]
    rw [heo] at henc
    refine Ev.bind henc ?_
    have hdec := decode_ev own (fun x hx => (hk x hx).1) (fun x hx => by have := (hk x hx).2; omega) (by omega) (by omega)
    refine Ev.bind hdec (Ev.pos (by first | trivial | rfl) (Ev.pos (by first | trivial | rfl) ?_))
    refine Ev.bind (same_kv own (by omega)) ?_
    refine Ev.succ ?_
    simp only [portmanteaulaw18_PaxBack.j2]
    refine Ev.neg (by decide) ?_
    exact back_l1 key own (by omega) own [] rfl
  | x :: r, pre, own, e, ho, hk => by
    have hlen : l.length = pre.length + (r.length + 1) := by rw [e]; simp
    have hx : rd_T42 l (pre.length : Int) = x := by rw [e]; exact rd_app pre r x
    have hsx := hs x (by rw [e]; simp)
    refine Ev.succ ?_
    simp only [portmanteaulaw18_PaxBack.l0]
    refine Ev.pos (by omega) (Ev.pos (by omega) ?_)
    have hone := encode_one x hsx.1 hsx.2
    have heta : (⟨x.f0, x.f1⟩ : KV) = x := rfl
    rw [hx, heta, cast_succ pre x (by omega)]
    refine Ev.bind hone ?_
    by_cases hok : okKV x = true
    · rw [if_pos hok]
      refine Ev.pos (by first | trivial | rfl) (Ev.pos (by omega) ?_)
      exact back_l0 key l hl hs r (pre ++ [x]) (own ++ [x]) (by rw [e]; simp) (by simp; omega) (by
        intro y hy
        rcases List.mem_append.1 hy with hy | hy
        · exact hk y hy
        · rw [List.mem_singleton.1 hy]; exact ⟨hok, hsx⟩)
    · rw [if_neg hok]
      refine Ev.neg (by decide) ?_
      exact back_l0 key l hl hs r (pre ++ [x]) own (by rw [e]; simp) (by simp; omega) hk
theorem PaxBack (l0 : List KV) (a1 : ByteArray) (h0 : ∀ x ∈ l0, x.f0.size ≤ 140737488351232 ∧ x.f1.size ≤ 140737488351232) (hl0 : l0.length * 32 ≤ 140737488351232) (h1 : a1.size ≤ 140737488351232) : ∃ k, portmanteaulaw18_PaxBack.f k l0 a1 = some true := by
  refine Ev.rounds (g := fun k => portmanteaulaw18_PaxBack.f k l0 a1) ?_
  unfold portmanteaulaw18_PaxBack.f
  refine Ev.bind (small_ev l0 (by omega)) ?_
  have T : Ev (fun k => portmanteaulaw18_PaxBack.j0 k l0 a1 true) true := by
    refine Ev.succ ?_
    simp only [portmanteaulaw18_PaxBack.j0]
    exact Ev.pos (by first | trivial | rfl) (Ev.bind awake18 (Ev.now _))
  cases hs : smallL l0
  · exact Ev.neg (by decide) T
  · refine Ev.pos (by first | trivial | rfl) ?_
    unfold smallL at hs
    rw [Bool.and_eq_true, List.all_eq_true] at hs
    obtain ⟨hs1, hs2⟩ := hs
    cases hd : decide ((a1.size : Int) > 100)
    · refine Ev.succ ?_
      simp only [portmanteaulaw18_PaxBack.j0]
      refine Ev.neg (by decide) ?_
      exact back_l0 a1 l0 (by simpa using hs1) (fun x hx => by have := hs2 x hx; simpa using this) l0 [] [] rfl (by simp) (by simp)
    · exact T
end Go.Proofs.YtmmmmalicndkeaaDoor.X
