/- Names of 255 bytes and paths of 4096 are taken, longer ones are not: the plain law of NameBounds. -/
import Derived.Test.YtmmmmalicndkeaaDoorX3
import Derived.Test.YtmmmmalicndkeaaDoorName
namespace Go.Proofs.YtmmmmalicndkeaaDoor.X
open Go.RowKit Go.Proofs.YtmmmmalicndkeaaDoorW.PrintWords Go.Proofs.YtmmmmalicndkeaaDoorW.PrintLast Go.Proofs.YtmmmmalicndkeaaDoorW.PrintMore
set_option linter.unusedVariables false
set_option linter.unusedSimpArgs false

/-! ### awake -/
theorem same_l0 (l : List ByteArray) (hl : l.length ≤ 1000000) : ∀ (m i : Nat), i + m = l.length → Ev (fun k => portmanteauref13_SameTexts.l0 k l l (i : Int)) true
  | 0, i, h => by
    refine Ev.succ ?_
    have e : ¬ (i : Int) < (l.length : Int) := by omega
    simp only [portmanteauref13_SameTexts.l0, e, if_false]
    exact Ev.now _
  | m + 1, i, h => by
    refine Ev.succ ?_
    have e1 : (i : Int) < (l.length : Int) := by omega
    have e2 : (0 : Int) ≤ (i : Int) := by omega
    have e4 : wrap64 ((i : Int) + 1) = ((i + 1 : Nat) : Int) := by rw [w64 (by omega) (by omega)]; rfl
    simp only [portmanteauref13_SameTexts.l0, e1, e2, e4, if_true]
    exact same_l0 l hl m (i + 1) (by omega)
theorem same_self (l : List ByteArray) (hl : l.length ≤ 1000000) : Ev (fun k => portmanteauref13_SameTexts.f k l l) true := by
  unfold portmanteauref13_SameTexts.f
  simp only [if_true]
  exact same_l0 l hl l.length 0 (by omega)
theorem parts_1 : partsOf (⟨#[97, 47, 46, 47, 98, 47]⟩ : ByteArray) = ([(⟨#[97]⟩ : ByteArray), (⟨#[98]⟩ : ByteArray)], 0) := by decide +kernel
theorem parts_2 : (partsOf (⟨#[97, 47, 46, 46, 47, 98]⟩ : ByteArray)).2 = 9 := by decide +kernel
theorem join_ab : name_Join.f [(⟨#[97]⟩ : ByteArray), (⟨#[98]⟩ : ByteArray)] = some (⟨#[97, 47, 98]⟩ : ByteArray) := by decide +kernel
theorem awake12 : Ev (fun k => portmanteaulaw12_awake.f k) true := by
  unfold portmanteaulaw12_awake.f
  refine Ev.bind (parts_ev _) (Ev.bind (parts_ev _) ?_)
  rw [parts_1]
  simp only [if_true]
  refine Ev.bind (same_self _ (by decide)) ?_
  simp only [if_true, parts_2, join_ab, Option.bind_some, ba_toList]
  refine Ev.bind (ok_ev _) ?_
  rw [show okL (⟨#[46, 46]⟩ : ByteArray).data.toList = false by decide +kernel]
  exact Ev.now _

/-! ### the pieces -/
theorem ib_app (c : UInt8) : ∀ (p r : List UInt8), p.contains c = false → Lib.indexByte (p ++ c :: r) c = (p.length : Int)
  | [], r, h => by simp [Lib.indexByte]
  | b :: p, r, h => by
    have h1 : ¬ b = c := fun e => by rw [e] at h; simp at h
    have h2 : p.contains c = false := by
      rw [List.contains_cons] at h
      exact (Bool.or_eq_false_iff.1 h).2
    have ih := ib_app c p r h2
    rw [List.cons_append]
    unfold Lib.indexByte
    rw [beq_eq_false_iff_ne.mpr h1, ih]
    have h3 : (((p.length : Int)) == -1) = false := beq_eq_false_iff_ne.mpr (by omega)
    rw [h3]
    simp
theorem count_none (c : UInt8) (p : List UInt8) (h : p.contains c = false) : p.count c = 0 := by
  rw [List.count_eq_zero]
  intro hm
  rw [List.contains_iff_mem.2 hm] at h
  cases h
theorem split_last (p : List UInt8) (h : p.contains 47 = false) : Lib.splitK [47] 0 (Lib.count p [47]) p = [p] := by
  rw [Lib.count_one, count_none 47 p h]
  rfl
theorem split_piece (p r : List UInt8) (h : p.contains 47 = false) : Lib.splitK [47] 0 (Lib.count (p ++ 47 :: r) [47]) (p ++ 47 :: r) = p :: Lib.splitK [47] 0 (Lib.count r [47]) r := by
  have e : Lib.count (p ++ 47 :: r) [47] = Lib.count r [47] + 1 := by
    rw [Lib.count_one, Lib.count_one, List.count_append, count_none 47 p h, List.count_cons_self]
    omega
  rw [e]
  have hi := ib_app 47 p r h
  rw [← Lib.index_one] at hi
  conv => lhs; unfold Lib.splitK
  rw [hi]
  have h3 : (((p.length : Int)) == -1) = false := beq_eq_false_iff_ne.mpr (by omega)
  rw [h3]
  simp
theorem partsL_ok : ∀ (r acc : List ByteArray), (∀ p ∈ r, okL p.data.toList = true) → partsL acc r = (acc ++ r, 0)
  | [], acc, h => by simp [partsL]
  | p :: r, acc, h => by
    have hp := h p (by simp)
    have hn : ¬ (p.data.toList = [] ∨ p.data.toList = [46]) := by
      intro hq
      rcases hq with hq | hq
      · rw [hq] at hp; revert hp; decide
      · rw [hq] at hp; revert hp; decide
    unfold partsL
    rw [if_neg hn, if_pos hp, partsL_ok r _ (fun q hq => h q (by simp [hq]))]
    simp
theorem pieces (a : ByteArray) (ls : List (List UInt8)) (h : Lib.splitK [47] 0 (Lib.count a.data.toList [47]) a.data.toList = ls) : (Lib.splitB (⟨#[47]⟩ : ByteArray) 0 (Lib.countB a (⟨#[47]⟩ : ByteArray)) a).map (·.data.toList) = ls := by
  rw [Lib.splitB_data]
  exact h

/-! ### the name -/
def xs (n : Nat) : List Int := List.replicate n 120
theorem xs_data (n : Nat) : (strOfNums (xs n)).data.toList = List.replicate n 120 := by
  rw [strOfNums_data]
  simp [xs]
theorem xs_ok (n : Nat) (h1 : 252 ≤ n) : okL (List.replicate n 120) = decide (n ≤ 255) := by
  unfold okL
  have e1 : (List.replicate n (120 : UInt8)).length = n := by simp
  have e2 : ¬ List.replicate n (120 : UInt8) = [46] := fun e => by have := congrArg List.length e; simp at this; omega
  have e3 : ¬ List.replicate n (120 : UInt8) = [46, 46] := fun e => by have := congrArg List.length e; simp at this; omega
  have e4 : (List.replicate n (120 : UInt8)).contains 0 = false := by
    cases hq : (List.replicate n (120 : UInt8)).contains 0
    · rfl
    · have := List.contains_iff_mem.1 hq
      rw [List.mem_replicate] at this
      exact absurd this.2 (by decide)
  have e5 : (List.replicate n (120 : UInt8)).contains 47 = false := by
    cases hq : (List.replicate n (120 : UInt8)).contains 47
    · rfl
    · have := List.contains_iff_mem.1 hq
      rw [List.mem_replicate] at this
      exact absurd this.2 (by decide)
  rw [e1, beq_eq_false_iff_ne.mpr e2, beq_eq_false_iff_ne.mpr e3, e4, e5, decide_eq_true (show 1 ≤ n by omega)]
  simp
theorem xs_no (n : Nat) : (List.replicate n (120 : UInt8)).contains 47 = false := by
  cases hq : (List.replicate n (120 : UInt8)).contains 47
  · rfl
  · have := List.contains_iff_mem.1 hq
    rw [List.mem_replicate] at this
    exact absurd this.2 (by decide)
theorem name_parts (n : Nat) (h1 : 252 ≤ n) (h2 : n ≤ 259) : ((partsOf ((⟨#[97, 47]⟩ : ByteArray) ++ strOfNums (xs n))).2 == 0) = decide (n ≤ 255) := by
  have hd : ((⟨#[97, 47]⟩ : ByteArray) ++ strOfNums (xs n)).data.toList = [97] ++ 47 :: List.replicate n 120 := by
    have : ((⟨#[97, 47]⟩ : ByteArray) ++ strOfNums (xs n)).data.toList = (⟨#[97, 47]⟩ : ByteArray).data.toList ++ (strOfNums (xs n)).data.toList := by simp
    rw [this, xs_data]
    rfl
  generalize (⟨#[97, 47]⟩ : ByteArray) ++ strOfNums (xs n) = a at hd
  have hz := ba_len2 a
  have hlen : a.size = n + 2 := by rw [hz, hd]; simp
  unfold partsOf
  rw [if_neg (by rw [hd]; simp; omega)]
  have hp := pieces a _ (by rw [hd, split_piece [97] _ (by decide), split_last _ (xs_no n)])
  generalize Lib.splitB (⟨#[47]⟩ : ByteArray) 0 (Lib.countB a (⟨#[47]⟩ : ByteArray)) a = ps at hp
  have hl2 : ps.length = 2 := by have := congrArg List.length hp; simpa using this
  obtain ⟨p, q, rfl⟩ : ∃ p q, ps = [p, q] := by
    rcases ps with _ | ⟨p, _ | ⟨q, _ | ⟨z, t⟩⟩⟩
    · simp at hl2
    · simp at hl2
    · exact ⟨p, q, rfl⟩
    · simp at hl2
  · simp only [List.map_cons, List.map_nil, List.cons.injEq, and_true] at hp
    obtain ⟨hp1, hq1⟩ := hp
    have hok := xs_ok n h1
    unfold partsL
    rw [hp1, if_neg (by decide), if_pos (by decide)]
    unfold partsL
    rw [hq1, if_neg (by intro hq; rcases hq with hq | hq <;> (have := congrArg List.length hq; simp at this; omega)), hok]
    by_cases h : n ≤ 255
    · simp [h, partsL]
    · simp [h]

/-! ### the path -/
def ys (m : Nat) : List Int := (List.range m).map fun i => if i % 100 = 99 then 47 else 121
def row : Nat → List UInt8 → List UInt8
  | 0, t => t
  | j + 1, t => List.replicate 99 121 ++ 47 :: row j t
theorem row_split (t : List UInt8) (h : t.contains 47 = false) : ∀ j, Lib.splitK [47] 0 (Lib.count (row j t) [47]) (row j t) = List.replicate j (List.replicate 99 121) ++ [t]
  | 0 => by rw [row]; exact split_last t h
  | j + 1 => by
    rw [row, split_piece _ _ (by decide +kernel), row_split t h j]
    rfl
def yb (i : Nat) : UInt8 := if i % 100 = 99 then 47 else 121
theorem yb_row (r : Nat) (hr : r ≤ 99) : ∀ j a : Nat, (List.range' (100 * a) (100 * j + r)).map yb = row j (List.replicate r 121)
  | 0, a => by
    rw [row, List.eq_replicate_iff]
    refine ⟨by simp, fun x hx => ?_⟩
    obtain ⟨i, hi, rfl⟩ := List.mem_map.1 hx
    have := List.mem_range'_1.1 hi
    unfold yb
    rw [if_neg (by omega)]
  | j + 1, a => by
    have e : List.range' (100 * a) (100 * (j + 1) + r) = List.range' (100 * a) 99 ++ (100 * a + 99) :: List.range' (100 * (a + 1)) (100 * j + r) := by
      have e0 : List.range' (100 * a + 99) ((100 * j + r) + 1) = (100 * a + 99) :: List.range' (100 * (a + 1)) (100 * j + r) := by
        rw [List.range'_succ, show 100 * a + 99 + 1 = 100 * (a + 1) by omega]
      rw [show 100 * (j + 1) + r = 99 + ((100 * j + r) + 1) by omega, ← List.range'_append_1, e0]
    rw [e, List.map_append, List.map_cons, yb_row r hr j (a + 1), row]
    congr 1
    · rw [List.eq_replicate_iff]
      refine ⟨by simp, fun x hx => ?_⟩
      obtain ⟨i, hi, rfl⟩ := List.mem_map.1 hx
      have := List.mem_range'_1.1 hi
      unfold yb
      rw [if_neg (by omega)]
    · congr 1
      unfold yb
      rw [if_pos (by omega)]
theorem ys_row (m : Nat) (h1 : 4093 ≤ m) (h2 : m ≤ 4096) : (strOfNums (ys m)).data.toList = row 40 (List.replicate (m - 4000) 121) := by
  have h := yb_row (m - 4000) (by omega) 40 0
  rw [show 100 * 40 + (m - 4000) = m by omega, show 100 * 0 = 0 from rfl, ← List.range_eq_range'] at h
  rw [strOfNums_data, ys, List.map_map, ← h]
  apply List.map_congr_left
  intro i hi
  simp only [Function.comp, yb]
  by_cases h99 : i % 100 = 99
  · simp [h99]
  · simp [h99]
theorem path_parts (m : Nat) (h1 : 4093 ≤ m) (h2 : m ≤ 4096) : (partsOf (strOfNums (ys m))).2 = 0 ∧ (partsOf (strOfNums (ys m))).1.length = 41 := by
  have hd := ys_row m h1 h2
  have hsz : (strOfNums (ys m)).size = m := by rw [strOfNums_size]; simp [ys]
  generalize strOfNums (ys m) = a at hd hsz
  have ht : (List.replicate (m - 4000) (121 : UInt8)).contains 47 = false := by
    cases hq : (List.replicate (m - 4000) (121 : UInt8)).contains 47
    · rfl
    · have := List.contains_iff_mem.1 hq
      rw [List.mem_replicate] at this
      exact absurd this.2 (by decide)
  have hokt : okL (List.replicate (m - 4000) 121) = true := by
    obtain rfl | rfl | rfl | rfl : m = 4093 ∨ m = 4094 ∨ m = 4095 ∨ m = 4096 := by omega
    all_goals decide +kernel
  have hp := pieces a _ (by rw [hd, row_split _ ht 40])
  unfold partsOf
  have hrow : row 40 (List.replicate (m - 4000) 121) = 121 :: (List.replicate 98 121 ++ 47 :: row 39 (List.replicate (m - 4000) 121)) := rfl
  rw [if_neg (by
    rw [hd, hsz, hrow]
    intro hq
    rcases hq with hq | hq | hq
    · cases hq
    · omega
    · rw [List.head?_cons, Option.some.injEq] at hq
      revert hq
      decide)]
  have hok : ∀ p ∈ Lib.splitB (⟨#[47]⟩ : ByteArray) 0 (Lib.countB a (⟨#[47]⟩ : ByteArray)) a, okL p.data.toList = true := by
    intro p hm
    have hm2 : p.data.toList ∈ List.replicate 40 (List.replicate 99 (121 : UInt8)) ++ [List.replicate (m - 4000) 121] := by
      rw [← hp]
      exact List.mem_map_of_mem hm
    rcases List.mem_append.1 hm2 with h | h
    · rw [(List.mem_replicate.1 h).2]
      decide +kernel
    · rw [List.mem_singleton.1 h]
      exact hokt
  rw [partsL_ok _ _ hok]
  refine ⟨rfl, ?_⟩
  have := congrArg List.length hp
  rw [List.length_map] at this
  rw [List.nil_append, this]
  simp
theorem path_long (m : Nat) (h1 : 4096 < m) : (partsOf (strOfNums (ys m))).2 = 9 := by
  have hsz : (strOfNums (ys m)).size = m := by rw [strOfNums_size]; simp [ys]
  unfold partsOf
  rw [if_pos (.inr (.inl (by omega)))]

/-! ### the loops -/
theorem and_lo (x : Int) (N j : Nat) (hN : N = 2 ^ j) (hj : j < 63) : bits .and .i64 x ((N : Int) - 1) = x % (N : Int) := by
  have hp : (2 : Nat) ^ j ≤ 2 ^ 62 := Nat.pow_le_pow_right (by decide) (by omega)
  have hpos : 0 < N := by rw [hN]; exact Nat.two_pow_pos j
  have hN2 : N ≤ 4611686018427387904 := by rw [hN]; exact hp
  have hdvd : N ∣ 18446744073709551616 := ⟨2 ^ (64 - j), by rw [hN, ← Nat.pow_add, show j + (64 - j) = 64 by omega]⟩
  have key : ((BitVec.ofInt IntKind.i64.bits x &&& BitVec.ofInt IntKind.i64.bits ((N : Int) - 1)).toNat : Int) = x % (N : Int) := by
    rw [BitVec.toNat_and]
    have e1 : (BitVec.ofInt IntKind.i64.bits ((N : Int) - 1)).toNat = 2 ^ j - 1 := by
      have : ((N : Int) - 1) = ((N - 1 : Nat) : Int) := by omega
      rw [this, BitVec.ofInt_natCast, BitVec.toNat_ofNat, ← hN]
      exact Nat.mod_eq_of_lt (show N - 1 < 18446744073709551616 by omega)
    rw [e1, Nat.and_two_pow_sub_one_eq_mod, BitVec.toNat_ofInt, ← hN]
    show ((((x % (18446744073709551616 : Int)).toNat % N : Nat)) : Int) = _
    rw [Int.natCast_emod, Int.toNat_of_nonneg (Int.emod_nonneg _ (by decide))]
    exact Int.emod_emod_of_dvd _ (by
      obtain ⟨c, hc⟩ := hdvd
      exact ⟨(c : Int), by rw [← Int.natCast_mul, ← hc]; rfl⟩)
  unfold bits
  simp only
  rw [key, IntKind.wrap_i64]
  have h1 := Int.emod_nonneg x (show (N : Int) ≠ 0 by omega)
  have h2 := Int.emod_lt_of_pos x (show (0 : Int) < N by omega)
  omega
theorem and7 (x : Int) : bits .and .i64 x 7 = x % 8 := and_lo x 8 3 rfl (by decide)
theorem set_at {α : Type} (l r : List α) (c v : α) (n : Nat) (h : l.length = n) : (l ++ c :: r).set n v = l ++ v :: r := by
  subst h
  rw [List.set_append_right _ _ (Nat.le_refl _)]
  simp
theorem zeros_cons (m i : Nat) (h : i < m) : List.replicate (m - i) (0 : Int) = 0 :: List.replicate (m - (i + 1)) 0 := by
  rw [show m - i = (m - (i + 1)) + 1 by omega, List.replicate_succ]
theorem bounds_tail (n m : Nat) (h1 : 252 ≤ n) (h2 : n ≤ 259) (h3 : 4093 ≤ m) (h4 : m ≤ 4100) : Ev (fun k => portmanteaulaw12_NameBounds.l1 k (n : Int) (m : Int) (xs n) (ys m) (m : Int) (m : Int)) true := by
  refine Ev.succ ?_
  have e1 : ¬ (m : Int) < (m : Int) := by omega
  have e2 : 2 + (strOfNums (xs n)).size ≤ 9223372036854775807 := by rw [strOfNums_size]; simp [xs]; omega
  simp only [portmanteaulaw12_NameBounds.l1, e1, e2, if_true, if_false]
  refine Ev.bind (parts_ev _) (Ev.bind (parts_ev _) (Ev.bind (ok_ev _) ?_))
  have D : decide ((n : Int) ≤ 255) = decide (n ≤ 255) := decide_eq_decide.2 (by omega)
  rw [name_parts n h1 h2, xs_data, xs_ok n h1, D]
  have e3 : (decide (n ≤ 255) == decide (n ≤ 255)) = true := by simp
  simp only [e3, if_true]
  have F : Ev (fun k => (name_Ok.f k (⟨#[]⟩ : ByteArray)).bind fun t149 => (if t149 = true then (some false) else ((name_Ok.f k (⟨#[97, 47, 98]⟩ : ByteArray)).bind fun t150 => (if t150 = true then (some false) else ((name_Ok.f k (⟨#[97, 0]⟩ : ByteArray)).bind fun t151 => (if t151 = true then (some false) else ((portmanteaulaw12_awake.f k).bind fun t152 => (some t152)))))))) true := by
    refine Ev.bind (ok_ev _) ?_
    rw [show okL (⟨#[]⟩ : ByteArray).data.toList = false by decide +kernel]
    simp only [Bool.false_eq_true, if_false]
    refine Ev.bind (ok_ev _) ?_
    rw [show okL (⟨#[97, 47, 98]⟩ : ByteArray).data.toList = false by decide +kernel]
    simp only [Bool.false_eq_true, if_false]
    refine Ev.bind (ok_ev _) ?_
    rw [show okL (⟨#[97, 0]⟩ : ByteArray).data.toList = false by decide +kernel]
    simp only [Bool.false_eq_true, if_false]
    exact Ev.bind awake12 (Ev.now _)
  by_cases hm : m ≤ 4096
  · obtain ⟨p1, p2⟩ := path_parts m h3 hm
    have e4 : decide ((m : Int) ≤ 4096) = true := decide_eq_true (by omega)
    have e5 : (((0 : Int) == 0) == true) = true := rfl
    have e6 : ((41 : Nat) : Int) = 41 := rfl
    simp only [p1, p2, e4, e5, e6, if_true]
    exact F
  · have p1 := path_long m (by omega)
    have e4 : decide ((m : Int) ≤ 4096) = false := decide_eq_false (by omega)
    have e5 : (((9 : Int) == 0) == false) = true := rfl
    have e6 : ¬ ((9 : Int) = 0) := by decide
    simp only [p1, e4, e5, e6, if_true, if_false]
    exact F
theorem ys_succ (i : Nat) : ys (i + 1) = ys i ++ [if i % 100 = 99 then 47 else 121] := by
  unfold ys
  rw [List.range_succ, List.map_append]
  rfl
theorem bounds_l1 (n m : Nat) (h1 : 252 ≤ n) (h2 : n ≤ 259) (h3 : 4093 ≤ m) (h4 : m ≤ 4100) : ∀ (d i : Nat), i + d = m →
    Ev (fun k => portmanteaulaw12_NameBounds.l1 k (n : Int) (m : Int) (xs n) (ys i ++ List.replicate (m - i) 0) (m : Int) (i : Int)) true
  | 0, i, h => by
    have e : i = m := by omega
    subst e
    have := bounds_tail n i h1 h2 h3 h4
    rw [Nat.sub_self]
    simpa using this
  | d + 1, i, h => by
    have ih := bounds_l1 n m h1 h2 h3 h4 d (i + 1) (by omega)
    have hl : (ys i).length = i := by simp [ys]
    rw [zeros_cons m i (by omega)]
    refine Ev.succ ?_
    have e1 : (i : Int) < (m : Int) := by omega
    have e2 : (0 : Int) ≤ (i : Int) := by omega
    have e3 : (i : Int) < ((ys i ++ 0 :: List.replicate (m - (i + 1)) 0).length : Int) := by
      simp only [List.length_append, List.length_cons, hl]; omega
    have e4 : wrap64 ((i : Int) + 1) = ((i + 1 : Nat) : Int) := by rw [w64 (by omega) (by omega)]; rfl
    have e5 : (i : Int).toNat = i := by omega
    have e6 : Int.tmod (i : Int) 100 = ((i % 100 : Nat) : Int) := by rw [Int.tmod_eq_emod_of_nonneg (by omega)]; rfl
    simp only [portmanteaulaw12_NameBounds.l1, e1, e2, e3, e4, e5, e6, if_true, Option.bind_some, set_at _ _ _ _ _ hl]
    rw [ys_succ] at ih
    by_cases h99 : i % 100 = 99
    · have e7 : ((i % 100 : Nat) : Int) = 99 := by omega
      simp only [e7, if_true]
      rw [if_pos h99, List.append_assoc] at ih
      exact ih
    · have e7 : ¬ ((i % 100 : Nat) : Int) = 99 := by omega
      simp only [e7, if_false]
      rw [if_neg h99, List.append_assoc] at ih
      exact ih
theorem bounds_l0 (n m : Nat) (h1 : 252 ≤ n) (h2 : n ≤ 259) (h3 : 4093 ≤ m) (h4 : m ≤ 4100) : ∀ (d i : Nat), i + d = n →
    Ev (fun k => portmanteaulaw12_NameBounds.l0 k (n : Int) (m : Int) (xs i ++ List.replicate (n - i) 0) (n : Int) (i : Int)) true
  | 0, i, h => by
    have e : i = n := by omega
    subst e
    refine Ev.succ ?_
    have e1 : ¬ (i : Int) < (i : Int) := by omega
    have e2 : (0 : Int) ≤ (m : Int) := by omega
    have e3 : (m : Int).toNat = m := by omega
    have e4 : m ≤ 281474976710656 := by omega
    have e5 : ((List.replicate m (0 : Int)).length : Int) = (m : Int) := by simp
    simp only [portmanteaulaw12_NameBounds.l0, e1, e2, e3, e4, e5, if_true, if_false, Option.bind_some, Nat.sub_self, List.replicate_zero, List.append_nil]
    exact bounds_l1 i m h1 h2 h3 h4 m 0 (by omega)
  | d + 1, i, h => by
    have ih := bounds_l0 n m h1 h2 h3 h4 d (i + 1) (by omega)
    have hl : (xs i).length = i := by simp [xs]
    rw [zeros_cons n i (by omega)]
    refine Ev.succ ?_
    have e1 : (i : Int) < (n : Int) := by omega
    have e2 : (0 : Int) ≤ (i : Int) := by omega
    have e3 : (i : Int) < ((xs i ++ 0 :: List.replicate (n - (i + 1)) 0).length : Int) := by
      simp only [List.length_append, List.length_cons, hl]; omega
    have e4 : wrap64 ((i : Int) + 1) = ((i + 1 : Nat) : Int) := by rw [w64 (by omega) (by omega)]; rfl
    have e5 : (i : Int).toNat = i := by omega
    have e6 : xs (i + 1) = xs i ++ [120] := by unfold xs; rw [List.replicate_succ']
    simp only [portmanteaulaw12_NameBounds.l0, e1, e2, e3, e4, e5, if_true, set_at _ _ _ _ _ hl]
    rw [e6, List.append_assoc] at ih
    exact ih
theorem NameBounds : portmanteaulaw12_NameBounds.Pure := by
  intro a b _ _
  refine Ev.rounds ?_
  unfold portmanteaulaw12_NameBounds.f
  obtain ⟨n, hn, n1, n2⟩ : ∃ n : Nat, wrap64 (bits .and .i64 a 7 + 252) = (n : Int) ∧ 252 ≤ n ∧ n ≤ 259 := by
    rw [and7, w64 (by omega) (by omega)]
    exact ⟨(a % 8 + 252).toNat, by omega, by omega, by omega⟩
  obtain ⟨m, hm, m1, m2⟩ : ∃ m : Nat, wrap64 (bits .and .i64 b 7 + 4093) = (m : Int) ∧ 4093 ≤ m ∧ m ≤ 4100 := by
    rw [and7, w64 (by omega) (by omega)]
    exact ⟨(b % 8 + 4093).toNat, by omega, by omega, by omega⟩
  have e2 : (0 : Int) ≤ (n : Int) := by omega
  have e3 : (n : Int).toNat = n := by omega
  have e4 : n ≤ 281474976710656 := by omega
  have e5 : ((List.replicate n (0 : Int)).length : Int) = (n : Int) := by simp
  simp only [hn, hm, e2, e3, e4, e5, if_true, Option.bind_some]
  exact bounds_l0 n m n1 n2 m1 m2 n 0 (by omega)
end Go.Proofs.YtmmmmalicndkeaaDoor.X
