/- The plain law of the document's Join, NameOk and Parts: they answer as name's do. -/
import Derived.Test.YtmmmmalicndkeaaDoorX12
import Derived.Test.YtmmmmalicndkeaaDoorX8
import Derived.Test.YtmmmmalicndkeaaDoorX4
import Derived.Test.YtmmmmalicndkeaaDoorName
import Derived.Lib.SplitLaws
namespace Go.Proofs.YtmmmmalicndkeaaDoor.X
open Go.RowKit Go.Proofs.YtmmmmalicndkeaaDoorW.PrintWords Go.Proofs.YtmmmmalicndkeaaDoorW.PrintLast Go.Proofs.YtmmmmalicndkeaaDoorW.PrintMore
set_option linter.unusedVariables false
set_option linter.unusedSimpArgs false

theorem Ev.const {α : Type} {x : Option α} {a : α} (h : x = some a) : Ev (fun _ => x) a := ⟨0, fun _ _ => h⟩
theorem Ev.pos {α : Type} {c : Prop} [Decidable c] {g f : Nat → Option α} {r : α} (hc : c) (h : Ev g r) : Ev (fun k => if c then g k else f k) r := Ev.congr (fun k => if_pos hc) h
theorem Ev.neg {α : Type} {c : Prop} [Decidable c] {g f : Nat → Option α} {r : α} (hc : ¬ c) (h : Ev f r) : Ev (fun k => if c then g k else f k) r := Ev.congr (fun k => if_neg hc) h
theorem ba_ext {a b : ByteArray} (h : a.data.toList = b.data.toList) : a = b := by
  cases a; cases b
  simp only [ByteArray.mk.injEq]
  exact Array.ext' h
theorem ba_append (a b : ByteArray) : (a ++ b).data.toList = a.data.toList ++ b.data.toList := by
  cases a; cases b
  simp [ByteArray.data_append]
theorem ba_size (a b : ByteArray) : (a ++ b).size = a.size + b.size := by simp
theorem ba_len (l : List UInt8) : (⟨l.toArray⟩ : ByteArray).size = l.length := by simp [ByteArray.size]
theorem cast_succ {α : Type} (pre : List α) (x : α) (h : pre.length ≤ 10000000000000) : wrap64 ((pre.length : Int) + 1) = ((pre ++ [x]).length : Int) := by rw [w64 (by omega) (by omega)]; simp
theorem bt_app (s : ByteArray) (p r : List UInt8) (c : UInt8) (h : s.data.toList = p ++ c :: r) : bt s (p.length : Int) = (c.toNat : Int) := by
  have hz := ba_len2 s
  have hlt : (p.length : Int).toNat < s.size := by rw [hz, h]; simp
  unfold bt
  rw [dif_pos hlt, Lib.getD_at s _ hlt, h]
  simp [List.getD_eq_getElem?_getD]

/-! ### Join -/
def tailJ : List ByteArray → List UInt8
  | [] => []
  | x :: r => 47 :: (x.data.toList ++ tailJ r)
theorem tailJ_snoc : ∀ (r : List ByteArray) (x : ByteArray), tailJ (r ++ [x]) = tailJ r ++ 47 :: x.data.toList
  | [], x => by simp [tailJ]
  | y :: r, x => by simp [tailJ, tailJ_snoc r x]
def joinL : List ByteArray → List UInt8
  | [] => []
  | x :: r => x.data.toList ++ tailJ r
theorem joinL_snoc (l : List ByteArray) (x : ByteArray) (h : l ≠ []) : joinL (l ++ [x]) = joinL l ++ 47 :: x.data.toList := by
  cases l with
  | nil => exact absurd rfl h
  | cons y r => simp [joinL, tailJ_snoc]
theorem join_eq : ∀ l : List ByteArray, Lib.join (l.map (·.data.toList)) [47] = joinL l
  | [] => rfl
  | [x] => by simp [Lib.join, joinL, tailJ, List.intercalate]
  | x :: y :: r => by
    have ih := join_eq (y :: r)
    simp only [Lib.join, List.intercalate, List.map_cons, joinL] at ih ⊢
    simp only [List.intersperse, List.flatten_cons, ih, tailJ]
    simp
def sumL : List ByteArray → Nat
  | [] => 0
  | x :: r => x.size + 1 + sumL r
theorem join_l0 (l : List ByteArray) (hl : l.length ≤ 1000) : ∀ (r pre : List ByteArray) (s : ByteArray), l = pre ++ r → s.data.toList = joinL pre → s.size + sumL r ≤ 4611686018427387904 →
    Ev (fun k => portmanteauref13_Join.l0 k l s (pre.length : Int)) (⟨(joinL l).toArray⟩ : ByteArray)
  | [], pre, s, e, hs, hz => by
    rw [List.append_nil] at e
    subst e
    refine Ev.succ ?_
    simp only [portmanteauref13_Join.l0]
    refine Ev.neg (by omega) (ev_eq (Ev.now _) ?_)
    exact ba_ext hs
  | x :: r, pre, s, e, hs, hz => by
    have hlen : l.length = pre.length + (r.length + 1) := by rw [e]; simp
    have hx : rdOf ByteArray.empty l (pre.length : Int) = x := by rw [e]; exact rdOf_app pre r x
    have z1 : (⟨#[47]⟩ : ByteArray).size = 1 := rfl
    simp only [sumL] at hz
    refine Ev.succ ?_
    simp only [portmanteauref13_Join.l0]
    refine Ev.pos (by omega) ?_
    rw [hx, cast_succ pre x (by omega)]
    by_cases hp : pre = []
    · subst hp
      have hs0 : s = (⟨#[]⟩ : ByteArray) := ba_ext hs
      refine Ev.neg (by simp) (Ev.pos (by simp) (Ev.pos (by omega) ?_))
      refine join_l0 l hl r ([] ++ [x]) (s ++ x) (by rw [e]; rfl) ?_ (by rw [ba_size]; omega)
      rw [ba_append, hs]
      simp [joinL, tailJ]
    · have hpl : 0 < pre.length := List.length_pos_iff.2 hp
      refine Ev.pos (by omega) (Ev.pos (by omega) (Ev.pos (by omega) (Ev.pos (by rw [ba_size]; omega) ?_)))
      refine join_l0 l hl r (pre ++ [x]) ((s ++ (⟨#[47]⟩ : ByteArray)) ++ x) (by rw [e]; simp) ?_ (by rw [ba_size, ba_size]; omega)
      rw [ba_append, ba_append, hs, joinL_snoc pre x hp]
      simp
theorem join13_ev (l : List ByteArray) (hl : l.length ≤ 1000) (hz : sumL l ≤ 4611686018427387904) : Ev (fun k => portmanteauref13_Join.f k l) (⟨(joinL l).toArray⟩ : ByteArray) := by
  unfold portmanteauref13_Join.f
  exact join_l0 l hl l [] _ rfl rfl (by rw [show (⟨#[]⟩ : ByteArray).size = 0 from rfl]; omega)
theorem name_join (l : List ByteArray) (hl : l.length ≤ 1000) (hz : (joinL l).length ≤ 140737488355328) : name_Join.f l = some (⟨(joinL l).toArray⟩ : ByteArray) := by
  unfold name_Join.f strings_Join.f
  have e : (⟨#[47]⟩ : ByteArray).data.toList = [47] := rfl
  rw [e, join_eq, if_pos (by omega), if_pos hz]
  rfl

/-! ### NameOk, nought -/
theorem nameok_l0 (a : ByteArray) (hz : a.size ≤ 140737488355328) : ∀ (r pre : List UInt8), a.data.toList = pre ++ r → Ev (fun k => portmanteauref13_NameOk.l0 k a (pre.length : Int)) (!r.contains 0 && !r.contains 47)
  | [], pre, e => by
    have hl := ba_len2 a
    have hlen : a.size = pre.length := by rw [hl, e]; simp
    refine Ev.succ ?_
    simp only [portmanteauref13_NameOk.l0]
    exact Ev.neg (by omega) (Ev.now _)
  | c :: r, pre, e => by
    have hl := ba_len2 a
    have hlen : a.size = pre.length + (r.length + 1) := by rw [hl, e]; simp
    refine Ev.succ ?_
    simp only [portmanteauref13_NameOk.l0]
    refine Ev.pos (by omega) (Ev.pos (by omega) ?_)
    rw [bt_app a pre r c e]
    have hc : ∀ n : Nat, n < 256 → ((c.toNat : Int) = (n : Int) ↔ c = UInt8.ofNat n) := by
      intro n hn
      constructor
      · intro h
        have : c.toNat = n := by omega
        rw [← this]; simp
      · intro h
        rw [h, UInt8.toNat_ofNat']
        omega
    by_cases h0 : c = 0
    · refine Ev.pos ((hc 0 (by decide)).2 h0) (ev_eq (Ev.now _) ?_)
      rw [h0]; simp
    · refine Ev.neg (fun h => h0 ((hc 0 (by decide)).1 h)) ?_
      by_cases h1 : c = 47
      · refine Ev.pos ((hc 47 (by decide)).2 h1) (ev_eq (Ev.now _) ?_)
        rw [h1]; simp
      · refine Ev.neg (fun h => h1 ((hc 47 (by decide)).1 h)) ?_
        have e2 : wrap64 ((pre.length : Int) + 1) = ((pre ++ [c]).length : Int) := by rw [w64 (by omega) (by omega)]; simp
        rw [e2]
        refine ev_eq (nameok_l0 a hz r (pre ++ [c]) (by rw [e]; simp)) ?_
        have h0' : ¬ (0 : UInt8) = c := fun h => h0 h.symm
        have h1' : ¬ (47 : UInt8) = c := fun h => h1 h.symm
        simp [List.contains_cons, h0', h1']
theorem nameok_ev (a : ByteArray) (hz : a.size ≤ 140737488355328) : Ev (fun k => portmanteauref13_NameOk.f k a) (okL a.data.toList) := by
  have hl := ba_len2 a
  have T : Ev (fun k => portmanteauref13_NameOk.j0 k a true) false := by
    refine Ev.succ ?_
    simp only [portmanteauref13_NameOk.j0]
    exact Ev.pos (by first | trivial | rfl) (Ev.now _)
  unfold portmanteauref13_NameOk.f okL
  simp only [ba_toList]
  by_cases h1 : a.data.toList = []
  · refine Ev.pos h1 (ev_eq T ?_)
    rw [h1]; rfl
  · have hp : 0 < a.data.toList.length := List.length_pos_iff.2 h1
    refine Ev.neg h1 ?_
    rw [decide_eq_true (show 1 ≤ a.data.toList.length by omega)]
    by_cases h2 : (a.size : Int) > 255
    · refine Ev.pos h2 (ev_eq T ?_)
      rw [decide_eq_false (show ¬ a.data.toList.length ≤ 255 by omega)]
      rfl
    · refine Ev.neg h2 ?_
      rw [decide_eq_true (show a.data.toList.length ≤ 255 by omega)]
      by_cases h3 : a.data.toList = [46]
      · refine Ev.pos h3 (ev_eq T ?_)
        rw [h3]; rfl
      · refine Ev.neg h3 ?_
        rw [beq_eq_false_iff_ne.mpr h3]
        cases h4 : (a.data.toList == [46, 46])
        · refine Ev.succ ?_
          simp only [portmanteauref13_NameOk.j0]
          refine Ev.neg (by decide) ?_
          exact nameok_l0 a hz a.data.toList [] rfl
        · exact T
theorem nought_l0 (a : ByteArray) (hz : a.size ≤ 140737488355328) : ∀ (r pre : List UInt8), a.data.toList = pre ++ r → Ev (fun k => portmanteauref13_nought.l0 k a (pre.length : Int)) (r.contains 0)
  | [], pre, e => by
    have hl := ba_len2 a
    have hlen : a.size = pre.length := by rw [hl, e]; simp
    refine Ev.succ ?_
    simp only [portmanteauref13_nought.l0]
    exact Ev.neg (by omega) (Ev.now _)
  | c :: r, pre, e => by
    have hl := ba_len2 a
    have hlen : a.size = pre.length + (r.length + 1) := by rw [hl, e]; simp
    refine Ev.succ ?_
    simp only [portmanteauref13_nought.l0]
    refine Ev.pos (by omega) (Ev.pos (by omega) ?_)
    rw [bt_app a pre r c e]
    by_cases h0 : c = 0
    · refine Ev.pos (by rw [h0]; rfl) (ev_eq (Ev.now _) ?_)
      rw [h0]; simp
    · have hne : ¬ ((c.toNat : Int) = 0) := fun h => h0 (by
        have h5 : c.toNat = 0 := by omega
        exact UInt8.toNat_inj.1 (by rw [h5]; rfl))
      refine Ev.neg hne ?_
      have e2 : wrap64 ((pre.length : Int) + 1) = ((pre ++ [c]).length : Int) := by rw [w64 (by omega) (by omega)]; simp
      rw [e2]
      refine ev_eq (nought_l0 a hz r (pre ++ [c]) (by rw [e]; simp)) ?_
      have h0' : ¬ (0 : UInt8) = c := fun h => h0 h.symm
      simp [List.contains_cons, h0']
theorem nought_ev (a : ByteArray) (hz : a.size ≤ 140737488355328) : Ev (fun k => portmanteauref13_nought.f k a) (a.data.toList.contains 0) := by
  unfold portmanteauref13_nought.f
  exact nought_l0 a hz a.data.toList [] rfl

/-! ### the pieces between slashes -/
def segs : List UInt8 → List (List UInt8)
  | [] => [[]]
  | c :: l => if c = 47 then [] :: segs l else match segs l with
    | [] => [[c]]
    | p :: r => (c :: p) :: r
theorem segs_ne : ∀ l, segs l ≠ []
  | [] => by simp [segs]
  | c :: l => by
    unfold segs
    split
    · simp
    · split <;> simp
theorem segs_last : ∀ p : List UInt8, p.contains 47 = false → segs p = [p]
  | [], _ => rfl
  | c :: p, h => by
    rw [List.contains_cons, Bool.or_eq_false_iff] at h
    have hc : ¬ c = 47 := fun e => by rw [e] at h; simp at h
    unfold segs
    rw [if_neg hc, segs_last p h.2]
theorem segs_piece : ∀ (p r : List UInt8), p.contains 47 = false → segs (p ++ 47 :: r) = p :: segs r
  | [], r, _ => by simp [segs]
  | c :: p, r, h => by
    rw [List.contains_cons, Bool.or_eq_false_iff] at h
    have hc : ¬ c = 47 := fun e => by rw [e] at h; simp at h
    rw [List.cons_append, segs, if_neg hc, segs_piece p r h.2]
/-- A piece that is told. -/
def told (p : List UInt8) : Bool := !(p == []) && !(p == [46])
def mk (p : List UInt8) : ByteArray := ⟨p.toArray⟩
theorem mk_data (p : List UInt8) : (mk p).data.toList = p := by simp [mk]
theorem extract_mid (a : ByteArray) (p c r : List UInt8) (e : a.data.toList = p ++ c ++ r) : a.extract p.length (p.length + c.length) = mk c := by
  apply ba_ext
  rw [mk_data, ByteArray.data_extract]
  rw [Array.toList_extract, e, List.extract_eq_take_drop]
  simp
theorem slashes_l0 (a : ByteArray) (hz : a.size ≤ 1000000) : ∀ (rest cur pre : List UInt8) (acc : List ByteArray), a.data.toList = pre ++ cur ++ rest → cur.contains 47 = false → acc.length ≤ pre.length →
    Ev (fun k => portmanteauref13_slashes.l0 k a acc (pre.length : Int) ((pre.length + cur.length : Nat) : Int)) (acc ++ ((segs (cur ++ rest)).filter told).map mk)
  | [], cur, pre, acc, e, hc, ha => by
    have hl := ba_len2 a
    have hlen : a.size = pre.length + cur.length := by rw [hl, e]; simp
    have hex := extract_mid a pre cur [] e
    have n1 : ((pre.length : Int)).toNat = pre.length := by omega
    have n2 : (((pre.length + cur.length : Nat) : Int)).toNat = pre.length + cur.length := by omega
    have e2 : wrap64 (((pre.length + cur.length : Nat) : Int) + 1) = ((pre.length + cur.length + 1 : Nat) : Int) := by rw [w64 (by omega) (by omega)]; simp
    have fin : ∀ acc2 : List ByteArray, Ev (fun k => portmanteauref13_slashes.l0 k a acc2 ((pre.length + cur.length + 1 : Nat) : Int) ((pre.length + cur.length + 1 : Nat) : Int)) acc2 := fun acc2 => by
      refine Ev.succ ?_
      simp only [portmanteauref13_slashes.l0]
      exact Ev.neg (by omega) (Ev.now _)
    refine Ev.succ ?_
    simp only [portmanteauref13_slashes.l0]
    refine Ev.pos (by omega) (Ev.pos (by omega) ?_)
    refine Ev.succ ?_
    simp only [portmanteauref13_slashes.j1]
    refine Ev.pos (by first | trivial | rfl) (Ev.pos (by omega) (Ev.pos (by omega) (Ev.pos (by omega) ?_)))
    rw [n1, n2, hex, e2, List.append_nil, segs_last cur hc]
    simp only [ba_toList, mk_data]
    by_cases h1 : cur = []
    · refine Ev.pos h1 (ev_eq (fin acc) ?_)
      rw [h1]; simp [told]
    · refine Ev.neg h1 ?_
      by_cases h2 : cur = [46]
      · refine Ev.pos h2 (ev_eq (fin acc) ?_)
        rw [h2]
        have : ([[46]] : List (List UInt8)).filter told = [] := by decide
        rw [this]; simp
      · refine Ev.neg h2 (Ev.pos (by omega) (ev_eq (fin _) ?_))
        have ht : told cur = true := by unfold told; rw [beq_eq_false_iff_ne.mpr h1, beq_eq_false_iff_ne.mpr h2]; rfl
        simp [ht]
  | c :: rest, cur, pre, acc, e, hc, ha => by
    have hl := ba_len2 a
    have hlen : a.size = pre.length + cur.length + (rest.length + 1) := by rw [hl, e]; simp; omega
    have hex := extract_mid a pre cur (c :: rest) e
    have n1 : ((pre.length : Int)).toNat = pre.length := by omega
    have n2 : (((pre.length + cur.length : Nat) : Int)).toNat = pre.length + cur.length := by omega
    have e2 : wrap64 (((pre.length + cur.length : Nat) : Int) + 1) = ((pre.length + cur.length + 1 : Nat) : Int) := by rw [w64 (by omega) (by omega)]; simp
    have hb : bt a ((pre.length + cur.length : Nat) : Int) = (c.toNat : Int) := by
      have := bt_app a (pre ++ cur) rest c e
      rw [List.length_append] at this
      exact this
    refine Ev.succ ?_
    simp only [portmanteauref13_slashes.l0]
    refine Ev.pos (by omega) (Ev.neg (by omega) (Ev.pos (by omega) (Ev.pos (by omega) ?_)))
    rw [hb]
    by_cases h47 : c = 47
    · subst h47
      rw [show (((47 : UInt8).toNat : Int) == 47) = true from rfl]
      refine Ev.succ ?_
      simp only [portmanteauref13_slashes.j1]
      refine Ev.pos (by first | trivial | rfl) (Ev.pos (by omega) (Ev.pos (by omega) (Ev.pos (by omega) ?_)))
      rw [n1, n2, hex, e2, segs_piece cur rest hc]
      simp only [ba_toList, mk_data]
      have step : ∀ acc2 : List ByteArray, acc2.length ≤ pre.length + cur.length + 1 → Ev (fun k => portmanteauref13_slashes.l0 k a acc2 ((pre.length + cur.length + 1 : Nat) : Int) ((pre.length + cur.length + 1 : Nat) : Int)) (acc2 ++ ((segs rest).filter told).map mk) := fun acc2 h => by
        have ih := slashes_l0 a hz rest [] (pre ++ cur ++ [47]) acc2 (by rw [e]; simp) rfl (by simp; omega)
        have e5 : (pre ++ cur ++ [47]).length = pre.length + cur.length + 1 := by simp; omega
        rw [e5] at ih
        exact ih
      by_cases h1 : cur = []
      · refine Ev.pos h1 (ev_eq (step acc (by omega)) ?_)
        rw [h1]
        simp [told]
      · refine Ev.neg h1 ?_
        by_cases h2 : cur = [46]
        · refine Ev.pos h2 (ev_eq (step acc (by omega)) ?_)
          rw [h2]
          simp [told]
        · refine Ev.neg h2 (Ev.pos (by omega) (ev_eq (step _ (by rw [List.length_append, List.length_singleton]; omega)) ?_))
          have ht : told cur = true := by unfold told; rw [beq_eq_false_iff_ne.mpr h1, beq_eq_false_iff_ne.mpr h2]; rfl
          rw [List.filter_cons_of_pos ht]
          simp
    · have hne : ((c.toNat : Int) == 47) = false := by
        rw [beq_eq_false_iff_ne]
        intro h
        apply h47
        have h5 : c.toNat = 47 := by omega
        exact UInt8.toNat_inj.1 (by rw [h5]; rfl)
      rw [hne]
      refine Ev.succ ?_
      simp only [portmanteauref13_slashes.j1]
      refine Ev.neg (by decide) ?_
      rw [e2]
      have h47' : ¬ (47 : UInt8) = c := fun h => h47 h.symm
      have ih := slashes_l0 a hz rest (cur ++ [c]) pre acc (by rw [e]; simp) (by
        rw [Bool.eq_false_iff]
        intro h
        rcases List.mem_append.1 (List.contains_iff_mem.1 h) with h | h
        · rw [List.contains_iff_mem.2 h] at hc; cases hc
        · exact h47' (List.mem_singleton.1 h)) ha
      rw [List.length_append, List.length_singleton, ← Nat.add_assoc, List.append_assoc, List.singleton_append] at ih
      exact ih
theorem slashes_ev (a : ByteArray) (hz : a.size ≤ 1000000) : Ev (fun k => portmanteauref13_slashes.f k a) (((segs a.data.toList).filter told).map mk) := by
  unfold portmanteauref13_slashes.f
  have := slashes_l0 a hz a.data.toList [] [] [] rfl rfl (by simp)
  exact this

/-! ### Parts -/
theorem parts13_l0 (l : List ByteArray) (hl : l.length ≤ 1000000000) (hz : ∀ p ∈ l, p.size ≤ 140737488355328) : ∀ (r pre : List ByteArray), l = pre ++ r → Ev (fun k => portmanteauref13_Parts.l0 k l (pre.length : Int)) (if r.all (fun p => okL p.data.toList) = true then (l, 0) else ([], 9))
  | [], pre, e => by
    have hlen : l.length = pre.length := by rw [e]; simp
    refine Ev.succ ?_
    simp only [portmanteauref13_Parts.l0]
    refine Ev.neg (by omega) ?_
    exact Ev.now _
  | x :: r, pre, e => by
    have hlen : l.length = pre.length + (r.length + 1) := by rw [e]; simp
    have hx : rdOf ByteArray.empty l (pre.length : Int) = x := by rw [e]; exact rdOf_app pre r x
    refine Ev.succ ?_
    simp only [portmanteauref13_Parts.l0]
    refine Ev.pos (by omega) (Ev.pos (by omega) ?_)
    rw [hx, cast_succ pre x (by omega)]
    refine Ev.bind (nameok_ev x (hz x (by rw [e]; simp))) ?_
    rw [List.all_cons]
    cases hk : okL x.data.toList
    · exact Ev.neg (by decide) (Ev.now _)
    · rw [Bool.true_and]
      exact Ev.pos (by first | trivial | rfl) (parts13_l0 l hl hz r (pre ++ [x]) (by rw [e]; simp))
theorem partsL_is : ∀ (r acc : List ByteArray), partsL acc r = if ((r.filter fun p => told p.data.toList).all fun p => okL p.data.toList) = true then (acc ++ r.filter fun p => told p.data.toList, 0) else ([], 9)
  | [], acc => by simp [partsL]
  | p :: r, acc => by
    unfold partsL
    by_cases h : p.data.toList = [] ∨ p.data.toList = [46]
    · rw [if_pos h, partsL_is r acc]
      have ht : told p.data.toList = false := by
        unfold told
        rcases h with h | h <;> rw [h] <;> rfl
      have hf : (p :: r).filter (fun p => told p.data.toList) = r.filter (fun p => told p.data.toList) := List.filter_cons_of_neg (by rw [ht]; decide)
      rw [hf]
    · rw [if_neg h]
      have ht : told p.data.toList = true := by
        unfold told
        have h1 : ¬ p.data.toList = [] := fun e => h (.inl e)
        have h2 : ¬ p.data.toList = [46] := fun e => h (.inr e)
        rw [beq_eq_false_iff_ne.mpr h1, beq_eq_false_iff_ne.mpr h2]; rfl
      have hf : (p :: r).filter (fun p => told p.data.toList) = p :: r.filter (fun p => told p.data.toList) := List.filter_cons_of_pos ht
      rw [hf, List.all_cons]
      cases hk : okL p.data.toList
      · simp
      · simp only [if_true, Bool.true_and]
        rw [partsL_is r (acc ++ [p])]
        simp
theorem count_none (c : UInt8) (p : List UInt8) (h : p.contains c = false) : p.count c = 0 := by
  rw [List.count_eq_zero]
  intro hm
  rw [List.contains_iff_mem.2 hm] at h
  cases h
theorem segs_nought : ∀ l : List UInt8, l.contains 0 = true → ∃ p ∈ segs l, p.contains 0 = true
  | [], h => by simp at h
  | c :: l, h => by
    unfold segs
    by_cases hc : c = 47
    · rw [if_pos hc]
      have : l.contains 0 = true := by
        rw [List.contains_cons, Bool.or_eq_true] at h
        rcases h with h | h
        · rw [hc] at h; cases h
        · exact h
      obtain ⟨p, h1, h2⟩ := segs_nought l this
      exact ⟨p, by simp [h1], h2⟩
    · rw [if_neg hc]
      cases hs : segs l with
      | nil => exact absurd hs (segs_ne l)
      | cons q r =>
        rw [List.contains_cons, Bool.or_eq_true] at h
        rcases h with h | h
        · exact ⟨c :: q, by simp, by rw [List.contains_cons, h]; rfl⟩
        · obtain ⟨p, h1, h2⟩ := segs_nought l h
          rw [hs] at h1
          rcases List.mem_cons.1 h1 with rfl | h1
          · exact ⟨c :: p, by simp, by rw [List.contains_cons, h2]; simp⟩
          · exact ⟨p, by simp [h1], h2⟩
/-! ### the pieces -/
theorem ib_app (c : UInt8) : ∀ (p r : List UInt8), p.contains c = false → Lib.indexByte (p ++ c :: r) c = (p.length : Int)
  | [], r, h => by simp [Lib.indexByte]
  | b :: p, r, h => by
    have h1 : ¬ b = c := fun e => by rw [e] at h; simp at h
    have h2 : p.contains c = false := by
      rw [List.contains_cons] at h
      exact (Bool.or_eq_false_iff.1 h).2
    have ih := ib_app c p r h2
    rw [List.cons_append]
    unfold Lib.indexByte
    rw [beq_eq_false_iff_ne.mpr h1, ih]
    have h3 : (((p.length : Int)) == -1) = false := beq_eq_false_iff_ne.mpr (by omega)
    rw [h3]
    simp
theorem split_last (p : List UInt8) (h : p.contains 47 = false) : Lib.splitK [47] 0 (Lib.count p [47]) p = [p] := by
  rw [Lib.count_one, count_none 47 p h]
  rfl
theorem split_piece (p r : List UInt8) (h : p.contains 47 = false) : Lib.splitK [47] 0 (Lib.count (p ++ 47 :: r) [47]) (p ++ 47 :: r) = p :: Lib.splitK [47] 0 (Lib.count r [47]) r := by
  have e : Lib.count (p ++ 47 :: r) [47] = Lib.count r [47] + 1 := by
    rw [Lib.count_one, Lib.count_one, List.count_append, count_none 47 p h, List.count_cons_self]
    omega
  rw [e]
  have hi := ib_app 47 p r h
  rw [← Lib.index_one] at hi
  conv => lhs; unfold Lib.splitK
  rw [hi]
  have h3 : (((p.length : Int)) == -1) = false := beq_eq_false_iff_ne.mpr (by omega)
  rw [h3]
  simp
theorem pieces (a : ByteArray) (ls : List (List UInt8)) (h : Lib.splitK [47] 0 (Lib.count a.data.toList [47]) a.data.toList = ls) : (Lib.splitB (⟨#[47]⟩ : ByteArray) 0 (Lib.countB a (⟨#[47]⟩ : ByteArray)) a).map (·.data.toList) = ls := by
  rw [Lib.splitB_data]
  exact h

/-! ### the name -/
theorem first_slash : ∀ l : List UInt8, l.contains 47 = true → ∃ p r, l = p ++ 47 :: r ∧ p.contains 47 = false
  | [], h => by simp at h
  | c :: l, h => by
    by_cases hc : c = 47
    · exact ⟨[], l, by rw [hc]; rfl, rfl⟩
    · have : l.contains 47 = true := by
        rw [List.contains_cons, Bool.or_eq_true] at h
        rcases h with h | h
        · exact absurd (beq_iff_eq.1 h).symm hc
        · exact h
      obtain ⟨p, r, rfl, h2⟩ := first_slash l this
      refine ⟨c :: p, r, rfl, ?_⟩
      have hc' : ¬ (47 : UInt8) = c := fun e => hc e.symm
      rw [List.contains_cons, h2]
      simp [hc']
theorem split_segs (n : Nat) : ∀ l : List UInt8, l.length ≤ n → Lib.splitK [47] 0 (Lib.count l [47]) l = segs l := by
  induction n with
  | zero =>
    intro l hl
    have : l = [] := List.eq_nil_of_length_eq_zero (by omega)
    subst this
    exact split_last [] rfl
  | succ n ih =>
    intro l hl
    cases hc : l.contains 47
    · rw [split_last l hc, segs_last l hc]
    · obtain ⟨p, r, rfl, h2⟩ := first_slash l hc
      have hr : r.length ≤ n := by simp at hl; omega
      rw [split_piece p r h2, segs_piece p r h2, ih r hr]
theorem pieces_segs (a : ByteArray) : Lib.splitB (⟨#[47]⟩ : ByteArray) 0 (Lib.countB a (⟨#[47]⟩ : ByteArray)) a = (segs a.data.toList).map mk := by
  have h := pieces a _ (split_segs _ a.data.toList (Nat.le_refl _))
  rw [← h, List.map_map]
  conv => lhs; rw [← List.map_id (Lib.splitB (⟨#[47]⟩ : ByteArray) 0 (Lib.countB a (⟨#[47]⟩ : ByteArray)) a)]
  apply List.map_congr_left
  intro p _
  apply ba_ext
  simp [mk_data]
theorem filter_mk : ∀ l : List (List UInt8), (l.map mk).filter (fun p => told p.data.toList) = (l.filter told).map mk
  | [] => rfl
  | p :: l => by
    rw [List.map_cons, List.filter_cons, mk_data, List.filter_cons, filter_mk l]
    split <;> rfl
theorem all_mk : ∀ l : List (List UInt8), (l.map mk).all (fun p => okL p.data.toList) = l.all okL
  | [] => rfl
  | p :: l => by rw [List.map_cons, List.all_cons, List.all_cons, mk_data, all_mk l]
/-- What Parts answers, in terms of the pieces. -/
theorem partsOf_is (a : ByteArray) : partsOf a = if a.data.toList = [] ∨ a.size > 4096 ∨ a.data.toList.head? = some 47 then ([], 9) else if ((segs a.data.toList).filter told).all okL = true then (((segs a.data.toList).filter told).map mk, 0) else ([], 9) := by
  unfold partsOf
  rw [pieces_segs, partsL_is, filter_mk, all_mk, List.nil_append]
theorem segs_len : ∀ l : List UInt8, (segs l).length ≤ l.length + 1
  | [] => by simp [segs]
  | c :: l => by
    have ih := segs_len l
    unfold segs
    split
    · simp; omega
    · split
      · simp
      · rename_i p r h
        rw [h] at ih
        simp at ih ⊢
        omega
theorem segs_part : ∀ (l p : List UInt8), p ∈ segs l → p.length ≤ l.length
  | [], p, h => by simp [segs] at h; rw [h]; simp
  | c :: l, p, h => by
    unfold segs at h
    split at h
    · rcases List.mem_cons.1 h with rfl | h
      · simp
      · have := segs_part l p h; simp; omega
    · split at h
      · rw [List.mem_singleton.1 h]; simp
      · rename_i q r hs
        rcases List.mem_cons.1 h with rfl | h
        · have := segs_part l q (by rw [hs]; simp); simp; omega
        · have := segs_part l p (by rw [hs]; simp [h]); simp; omega
theorem parts13_ev (a : ByteArray) (hz : a.size ≤ 1000000) : Ev (fun k => portmanteauref13_Parts.f k a) (partsOf a) := by
  have hl := ba_len2 a
  have T : Ev (fun k => portmanteauref13_Parts.j0 k a true) (([] : List ByteArray), (9 : Int)) := by
    refine Ev.succ ?_
    simp only [portmanteauref13_Parts.j0]
    exact Ev.pos (by first | trivial | rfl) (Ev.now _)
  unfold portmanteauref13_Parts.f
  rw [partsOf_is]
  simp only [ba_toList]
  by_cases h1 : a.data.toList = []
  · rw [if_pos (.inl h1)]
    exact Ev.pos h1 T
  · refine Ev.neg h1 ?_
    have hp : 0 < a.data.toList.length := List.length_pos_iff.2 h1
    by_cases h2 : (a.size : Int) > 4096
    · rw [if_pos (.inr (.inl (by omega)))]
      exact Ev.pos h2 T
    · refine Ev.neg h2 (Ev.pos (by omega) ?_)
      obtain ⟨c, r, hcr⟩ : ∃ c r, a.data.toList = c :: r := by
        cases h : a.data.toList with
        | nil => exact absurd h h1
        | cons c r => exact ⟨c, r, rfl⟩
      have hb : bt a 0 = (c.toNat : Int) := bt_app a [] r c hcr
      rw [hb]
      by_cases h3 : (c.toNat : Int) = 47
      · have hc : c = 47 := UInt8.toNat_inj.1 (by rw [show c.toNat = 47 by omega]; rfl)
        rw [if_pos (.inr (.inr (by rw [hcr, hc]; rfl)))]
        exact Ev.pos h3 T
      · have hc : ¬ c = 47 := fun e => h3 (by rw [e]; rfl)
        refine Ev.neg h3 ?_
        have hn : ¬ (a.data.toList = [] ∨ a.size > 4096 ∨ a.data.toList.head? = some 47) := by
          rintro (h | h | h)
          · exact h1 h
          · omega
          · rw [hcr] at h; simp at h; exact hc h
        rw [if_neg hn]
        refine Ev.bind (nought_ev a (by omega)) ?_
        cases hno : a.data.toList.contains 0
        · refine Ev.succ ?_
          simp only [portmanteauref13_Parts.j0]
          refine Ev.neg (by decide) ?_
          refine Ev.bind (slashes_ev a hz) ?_
          have hlen : (((segs a.data.toList).filter told).map mk).length ≤ 1000001 := by
            rw [List.length_map]
            have h5 := List.length_filter_le told (segs a.data.toList)
            have h6 := segs_len a.data.toList
            omega
          have hps : ∀ p ∈ ((segs a.data.toList).filter told).map mk, p.size ≤ 140737488355328 := by
            intro p hp2
            obtain ⟨q, hq, rfl⟩ := List.mem_map.1 hp2
            have := segs_part _ q (List.mem_filter.1 hq).1
            unfold mk
            rw [ba_len]
            omega
          have := parts13_l0 (((segs a.data.toList).filter told).map mk) (by omega) hps (((segs a.data.toList).filter told).map mk) [] rfl
          rw [all_mk] at this
          exact this
        · obtain ⟨p, hp1, hp2⟩ := segs_nought _ hno
          have ht : told p = true := by
            unfold told
            have q1 : ¬ p = [] := fun e => by rw [e] at hp2; simp at hp2
            have q2 : ¬ p = [46] := fun e => by rw [e] at hp2; revert hp2; decide
            rw [beq_eq_false_iff_ne.mpr q1, beq_eq_false_iff_ne.mpr q2]; rfl
          have hk : okL p = false := by unfold okL; rw [hp2]; simp
          have hall : ((segs a.data.toList).filter told).all okL = false := by
            rw [Bool.eq_false_iff]
            intro h
            rw [List.all_eq_true] at h
            have := h p (List.mem_filter.2 ⟨hp1, ht⟩)
            rw [hk] at this
            cases this
          rw [hall]
          exact T
end Go.Proofs.YtmmmmalicndkeaaDoor.X
