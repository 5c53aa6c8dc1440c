/- The plain law of pax: what ok, record, Encode, first and Decode answer, and that what is written is read. -/
import Derived.Test.YtmmmmalicndkeaaDoorX20
import Derived.Test.YtmmmmalicndkeaaDoorX18
import Derived.Test.YtmmmmalicndkeaaDoorDec
import Derived.Lib.ItoaLen
namespace Go.Proofs.YtmmmmalicndkeaaDoor.X
open Go.RowKit Go.Proofs.YtmmmmalicndkeaaDoorW.PrintWords Go.Proofs.YtmmmmalicndkeaaDoorW.PrintLast Go.Proofs.YtmmmmalicndkeaaDoorW.PrintMore
set_option linter.unusedVariables false
set_option linter.unusedSimpArgs false

theorem Ev.const {α : Type} {x : Option α} {a : α} (h : x = some a) : Ev (fun _ => x) a := ⟨0, fun _ _ => h⟩
theorem Ev.pos {α : Type} {c : Prop} [Decidable c] {g f : Nat → Option α} {r : α} (hc : c) (h : Ev g r) : Ev (fun k => if c then g k else f k) r := Ev.congr (fun k => if_pos hc) h
theorem Ev.neg {α : Type} {c : Prop} [Decidable c] {g f : Nat → Option α} {r : α} (hc : ¬ c) (h : Ev f r) : Ev (fun k => if c then g k else f k) r := Ev.congr (fun k => if_neg hc) h
/-- A record. -/
abbrev KV := S42
/-- Bytes as numbers. -/
def I (l : List UInt8) : List Int := l.map fun b => (b.toNat : Int)
theorem I_len (l : List UInt8) : (I l).length = l.length := by simp [I]
theorem I_app (a b : List UInt8) : I (a ++ b) = I a ++ I b := by simp [I]
theorem I_take (l : List UInt8) (n : Nat) : (I l).take n = I (l.take n) := by simp [I, List.map_take]
theorem I_drop (l : List UInt8) (n : Nat) : (I l).drop n = I (l.drop n) := by simp [I, List.map_drop]
theorem I_back (l : List UInt8) : (I l).map (fun n => UInt8.ofNat n.toNat) = l := by
  unfold I
  rw [List.map_map]
  conv => rhs; rw [← List.map_id l]
  apply List.map_congr_left
  intro b _
  simp
theorem str_I (l : List UInt8) : strOfNums (I l) = ⟨l.toArray⟩ := by
  apply ba_ext
  rw [strOfNums_data, I_back]
theorem bytesOf_mk (l : List UInt8) : bytesOf (⟨l.toArray⟩ : ByteArray) = I l := by simp [bytesOf, I]
theorem lib_bytesOf_I (l : List UInt8) : Lib.bytesOf (I l) = l := by unfold Lib.bytesOf; exact I_back l
theorem ba_mk_append (a b : List UInt8) : (⟨a.toArray⟩ : ByteArray) ++ (⟨b.toArray⟩ : ByteArray) = ⟨(a ++ b).toArray⟩ := by
  apply ba_ext
  rw [ba_append]
theorem ba_eta (a : ByteArray) : a = ⟨a.data.toList.toArray⟩ := by cases a; simp

theorem ib_app (c : UInt8) : ∀ (p r : List UInt8), p.contains c = false → Lib.indexByte (p ++ c :: r) c = (p.length : Int)
  | [], r, h => by simp [Lib.indexByte]
  | b :: p, r, h => by
    have h1 : ¬ b = c := fun e => by rw [e] at h; simp at h
    have h2 : p.contains c = false := by
      rw [List.contains_cons] at h
      exact (Bool.or_eq_false_iff.1 h).2
    have ih := ib_app c p r h2
    rw [List.cons_append]
    unfold Lib.indexByte
    rw [beq_eq_false_iff_ne.mpr h1, ih]
    have h3 : (((p.length : Int)) == -1) = false := beq_eq_false_iff_ne.mpr (by omega)
    rw [h3]
    simp
theorem ix_app (c : UInt8) : ∀ (p r : List UInt8), p.contains c = false → Lib.index (p ++ c :: r) [c] = (p.length : Int)
  | [], r, h => by simp [Lib.index, List.isPrefixOf]
  | b :: p, r, h => by
    have h1 : ¬ c = b := fun e => by rw [e] at h; simp at h
    have h2 : p.contains c = false := by
      rw [List.contains_cons] at h
      exact (Bool.or_eq_false_iff.1 h).2
    have ih := ix_app c p r h2
    rw [List.cons_append]
    unfold Lib.index
    rw [ih]
    have h3 : (((p.length : Int)) == -1) = false := beq_eq_false_iff_ne.mpr (by omega)
    rw [h3]
    simp [List.isPrefixOf, h1]
theorem cut_app (c : UInt8) (p r : List UInt8) (h : p.contains c = false) : Lib.cut (p ++ c :: r) [c] = (p, r, true) := by
  unfold Lib.cut
  rw [ix_app c p r h, if_pos (by omega)]
  have e : ((p.length : Int)).toNat = p.length := by omega
  rw [e, List.take_left, List.length_singleton]
  congr 2
  rw [show p.length + 1 = (p ++ [c]).length by simp, show p ++ c :: r = (p ++ [c]) ++ r by simp, List.drop_left]

/-! ### ok -/
/-- May a record be? -/
def kvOk (a b : List UInt8) : Bool := !a.isEmpty && !a.contains 61 && !a.contains 10 && !a.contains 0 && !b.contains 0
theorem ib_some (s : ByteArray) (c : Int) : strings_IndexByte.f s c = some (Lib.indexByte s.data.toList c.toNat.toUInt8) := rfl
theorem ib_nonneg (c : UInt8) (l : List UInt8) : (Lib.indexByte l c ≥ 0) ↔ l.contains c = true := by
  have h := ib_neg c l
  cases hc : l.contains c
  · rw [hc] at h
    constructor
    · intro h1
      have := h.2 rfl
      omega
    · intro h1
      cases h1
  · constructor
    · intro _; rfl
    · intro _
      have : ¬ Lib.indexByte l c < 0 := fun h1 => by have := h.1 h1; rw [hc] at this; cases this
      omega
theorem ok_some (a b : ByteArray) : pax_ok.f a b = some (kvOk a.data.toList b.data.toList) := by
  unfold pax_ok.f kvOk
  simp only [ba_toList, ib_some, Option.bind_some]
  have e1 : (61 : Int).toNat.toUInt8 = 61 := rfl
  have e2 : (10 : Int).toNat.toUInt8 = 10 := rfl
  have e3 : (0 : Int).toNat.toUInt8 = 0 := rfl
  rw [e1, e2, e3]
  by_cases h0 : a.data.toList = []
  · simp [h0]
  have h0' : a.data.toList.isEmpty = false := by simpa using h0
  rw [if_neg h0, h0']
  simp only [ib_nonneg]
  cases a.data.toList.contains 61
  · cases a.data.toList.contains 10
    · cases a.data.toList.contains 0
      · simp only [Bool.false_eq_true, if_false, Bool.not_false, Bool.true_and]
        cases hb : b.data.toList.contains 0
        · rw [decide_eq_true ((ib_neg 0 b.data.toList).2 hb)]; rfl
        · rw [decide_eq_false (fun h => by have := (ib_neg 0 b.data.toList).1 h; rw [hb] at this; cases this)]; rfl
      · simp
    · simp
  · simp

/-! ### record -/
theorem nd_mono : ∀ v u : Nat, u ≤ v → Lib.nDigits u ≤ Lib.nDigits v := by
  intro v
  induction v using Nat.strongRecOn with
  | _ v ih =>
    intro u hu
    by_cases hv : v < 10
    · rw [Lib.nDigits_small hv, Lib.nDigits_small (by omega)]; omega
    · rw [Lib.nDigits_big hv]
      by_cases h : u < 10
      · rw [Lib.nDigits_small h]; omega
      · rw [Lib.nDigits_big h]
        have := ih (v / 10) (by omega) (u / 10) (by omega)
        omega
/-- How long a record is, whose rest has m bytes: the least number that counts itself. -/
def recGo (m : Nat) : Nat → Nat → Nat
  | 0, n => n
  | f + 1, n => if Lib.nDigits n + m = n then n else recGo m f (n + 1)
def recN (m : Nat) : Nat := recGo m 21 (m + 1)
theorem recGo_spec (m : Nat) (hm : m ≤ 1000000000000000) : ∀ f n, m + 1 ≤ n → n ≤ Lib.nDigits n + m → n + f = m + 22 → Lib.nDigits (recGo m f n) + m = recGo m f n ∧ n ≤ recGo m f n ∧ recGo m f n ≤ m + 20
  | 0, n, h1, h2, h3 => by
    have := Lib.nDigits_le20 n (by omega)
    omega
  | f + 1, n, h1, h2, h3 => by
    unfold recGo
    have h5 := Lib.nDigits_le20 n (by omega)
    by_cases h : Lib.nDigits n + m = n
    · rw [if_pos h]
      exact ⟨h, Nat.le_refl _, by omega⟩
    · rw [if_neg h]
      have h4 := nd_mono (n + 1) n (by omega)
      obtain ⟨a, b, c⟩ := recGo_spec m hm f (n + 1) (by omega) (by omega) (by omega)
      exact ⟨a, by omega, c⟩
theorem recN_spec (m : Nat) (hm : m ≤ 1000000000000000) : Lib.nDigits (recN m) + m = recN m ∧ m + 1 ≤ recN m ∧ recN m ≤ m + 20 := by
  have := Lib.nDigits_pos (m + 1)
  exact recGo_spec m hm 21 (m + 1) (Nat.le_refl _) (by omega) (by omega)
theorem itoa_nat (n : Nat) : Lib.itoa (n : Int) = Lib.decDigits n := by
  unfold Lib.itoa
  rw [if_neg (by omega)]
  rfl
theorem digits_nat (n : Nat) (h : n ≤ 9223372036854775807) : num_Digits.f (n : Int) = some ⟨(Lib.decDigits n).toArray⟩ := by
  unfold num_Digits.f
  rw [if_pos (by omega), if_pos (by omega), itoa_nat]
theorem rec_l0 (rest : ByteArray) (m : Nat) (hz : rest.size = m) (hm : m ≤ 1000000000000000) (f : Nat) : ∀ n : Nat, m + 1 ≤ n → n ≤ Lib.nDigits n + m → n + f = m + 22 →
    Ev (fun k => pax_record.l0 k rest (n : Int)) ((⟨(Lib.decDigits (recGo m f n)).toArray⟩ : ByteArray) ++ rest) := by
  induction f with
  | zero =>
    intro n h1 h2 h3
    have := Lib.nDigits_le20 n (by omega)
    exfalso
    omega
  | succ f ih =>
    intro n h1 h2 h3
    refine Ev.succ ?_
    have hn : n ≤ 9223372036854775807 := by omega
    have hd := digits_nat n hn
    have hl := Lib.decDigits_length n
    have h5 := Lib.nDigits_le20 n (by omega)
    have e : wrap64 ((Lib.nDigits n : Int) + (m : Int)) = ((Lib.nDigits n + m : Nat) : Int) := by rw [w64 (by omega) (by omega)]; simp
    have e2 : wrap64 ((n : Int) + 1) = ((n + 1 : Nat) : Int) := by rw [w64 (by omega) (by omega)]; simp
    simp only [pax_record.l0]
    refine Ev.bind (Ev.const hd) ?_
    rw [ba_len, hl, hz, e, e2]
    have ih2 := ih (n + 1)
    clear ih
    rw [recGo]
    by_cases h : Lib.nDigits n + m = n
    · rw [if_pos h]
      clear e e2
      refine Ev.pos (by omega) (Ev.bind (Ev.const hd) ?_)
      refine Ev.pos (by rw [ba_len]; clear hd; omega) (Ev.now _)
    · rw [if_neg h]
      have h6 := nd_mono (n + 1) n (by omega)
      clear e e2 hd
      exact Ev.neg (by omega) (ih2 (by omega) (by omega) (by omega))
/-- A record's rest; a record. -/
def restL (a b : List UInt8) : List UInt8 := 32 :: (a ++ 61 :: (b ++ [10]))
theorem restL_len (a b : List UInt8) : (restL a b).length = a.length + b.length + 3 := by simp [restL]; omega
def recL (a b : List UInt8) : List UInt8 := Lib.decDigits (recN (a.length + b.length + 3)) ++ restL a b
theorem recL_len (a b : List UInt8) (h : a.length + b.length ≤ 100000000000000) : (recL a b).length = recN (a.length + b.length + 3) ∧ (recL a b).length ≤ a.length + b.length + 23 ∧ a.length + b.length + 4 ≤ (recL a b).length := by
  obtain ⟨h1, h2, h3⟩ := recN_spec (a.length + b.length + 3) (by omega)
  have e : (recL a b).length = recN (a.length + b.length + 3) := by
    unfold recL
    rw [List.length_append, restL_len, Lib.decDigits_length]
    exact h1
  omega
theorem record_ev (a b : ByteArray) (h : a.size + b.size ≤ 100000000000000) : Ev (fun k => pax_record.f k a b) (⟨(recL a.data.toList b.data.toList).toArray⟩ : ByteArray) := by
  have ha := ba_len2 a
  have hb := ba_len2 b
  have z1 : (⟨#[32]⟩ : ByteArray).size = 1 := rfl
  have z2 : (⟨#[61]⟩ : ByteArray).size = 1 := rfl
  have z3 : (⟨#[10]⟩ : ByteArray).size = 1 := rfl
  have hr : (((((⟨#[32]⟩ : ByteArray) ++ a) ++ (⟨#[61]⟩ : ByteArray)) ++ b) ++ (⟨#[10]⟩ : ByteArray)) = (⟨(restL a.data.toList b.data.toList).toArray⟩ : ByteArray) := by
    apply ba_ext
    simp only [ba_append]
    simp [restL]
  have hz : (⟨(restL a.data.toList b.data.toList).toArray⟩ : ByteArray).size = a.data.toList.length + b.data.toList.length + 3 := by rw [ba_len, restL_len]
  unfold pax_record.f
  simp only [hr]
  refine Ev.pos (by omega) (Ev.pos (by rw [ba_size]; omega) (Ev.pos (by rw [ba_size, ba_size]; omega) (Ev.pos (by rw [ba_size, ba_size, ba_size]; omega) ?_)))
  rw [hz]
  have e : wrap64 (((a.data.toList.length + b.data.toList.length + 3 : Nat) : Int) + 1) = ((a.data.toList.length + b.data.toList.length + 3 + 1 : Nat) : Int) := by rw [w64 (by omega) (by omega)]; simp
  rw [e]
  have hp := Lib.nDigits_pos (a.data.toList.length + b.data.toList.length + 3 + 1)
  have := rec_l0 (⟨(restL a.data.toList b.data.toList).toArray⟩ : ByteArray) _ hz (by omega) 21 (a.data.toList.length + b.data.toList.length + 3 + 1) (by omega) (by omega) (by omega)
  refine ev_eq this ?_
  apply ba_ext
  rw [ba_append]
  rfl

/-! ### Encode -/
/-- The bytes of records, if each may be. -/
def encL : List KV → Option (List UInt8)
  | [] => some []
  | x :: r => if kvOk x.f0.data.toList x.f1.data.toList = true then (encL r).map (recL x.f0.data.toList x.f1.data.toList ++ ·) else none
def tot : List KV → Nat
  | [] => 0
  | x :: r => x.f0.size + x.f1.size + 23 + tot r
def encOf (l : List KV) : List Int × Bool := match encL l with
  | none => ([], false)
  | some s => if s.length > 65536 then ([], false) else (I s, true)
theorem rd_app (pre r : List KV) (x : KV) : rd_T42 (pre ++ x :: r) (pre.length : Int) = x := by
  unfold rd_T42
  simp [List.getD_eq_getElem?_getD]
theorem encode_l0 : ∀ (r pre : List KV) (acc : List UInt8), (pre ++ r).length ≤ 1000000000000 → acc.length + tot r ≤ 100000000000000 →
    Ev (fun k => pax_Encode.l0 k (I acc) (pre ++ r) ((pre ++ r).length : Int) (pre.length : Int)) (match encL r with | none => ([], false) | some s => if (acc ++ s).length > 65536 then ([], false) else (I (acc ++ s), true))
  | [], pre, acc, hl, ht => by
    refine Ev.succ ?_
    have e : ¬ ((pre.length : Int) < ((pre ++ []).length : Int)) := by simp
    simp only [pax_Encode.l0]
    refine Ev.neg e ?_
    simp only [I_len, encL, List.append_nil]
    by_cases h : acc.length > 65536
    · rw [if_pos h]; exact Ev.pos (by omega) (Ev.now _)
    · rw [if_neg h]; exact Ev.neg (by omega) (Ev.now _)
  | x :: r, pre, acc, hl, ht => by
    have hpl : (pre ++ x :: r).length = pre.length + (r.length + 1) := by simp
    have e1 : (pre.length : Int) < ((pre ++ x :: r).length : Int) := by omega
    have e2 : (0 : Int) ≤ (pre.length : Int) := by omega
    have e4 : wrap64 ((pre.length : Int) + 1) = ((pre ++ [x]).length : Int) := by rw [w64 (by omega) (by omega)]; simp
    have ha := ba_len2 x.f0
    have hb := ba_len2 x.f1
    simp only [tot] at ht
    refine Ev.succ ?_
    simp only [pax_Encode.l0, e1, e2, if_true, rd_app, ok_some, Option.bind_some, encL]
    cases hk : kvOk x.f0.data.toList x.f1.data.toList
    · simp only [Bool.false_eq_true, if_false]
      exact Ev.now _
    · simp only [if_true]
      refine Ev.bind (record_ev x.f0 x.f1 (by omega)) ?_
      obtain ⟨h1, h2, h3⟩ := recL_len x.f0.data.toList x.f1.data.toList (by omega)
      rw [I_len, ba_len, e4, bytesOf_mk, ← I_app]
      refine Ev.pos (by omega) ?_
      have ih := encode_l0 r (pre ++ [x]) (acc ++ recL x.f0.data.toList x.f1.data.toList) (by simpa using hl) (by rw [List.length_append]; omega)
      rw [List.append_assoc, List.singleton_append] at ih
      refine ev_eq ih ?_
      cases encL r with
      | none => rfl
      | some s => simp only [Option.map_some, List.append_assoc]
theorem encode_ev (l : List KV) (hl : l.length ≤ 1000000000000) (ht : tot l ≤ 100000000000000) : Ev (fun k => pax_Encode.f k l) (encOf l) := by
  have := encode_l0 l [] [] (by simpa using hl) (by simpa using ht)
  exact this

/-! ### first, Decode -/
theorem dec_no (c : UInt8) (h : c.toNat < 48) (u : Nat) : (Lib.decDigits u).contains c = false := by
  rw [Bool.eq_false_iff]
  intro hc
  have := dec_digit u c (List.contains_iff_mem.1 hc)
  omega
theorem number_dec (n : Nat) (h : n ≤ 9223372036854775807) : numberOf (Lib.decDigits n) = ((n : Int), true) := by
  have h1 := number_is (Lib.decDigits n)
  exact h1.one (.inl ⟨(n : Int), by omega, by omega, itoa_nat n, rfl⟩)
theorem first_gen (D a b t : List UInt8) (N : Nat) (hD : D.contains 32 = false) (hnum : numberOf D = ((N : Int), true)) (hN : N = D.length + (a.length + b.length + 3)) (h1 : 1 ≤ D.length) (h2 : D.length ≤ 100) (hk : kvOk a b = true) (h : a.length + b.length ≤ 1000000) (ht : t.length ≤ 1000000)
    (hrec : Ev (fun k => pax_record.f k (⟨a.toArray⟩ : ByteArray) (⟨b.toArray⟩ : ByteArray)) (⟨(D ++ restL a b).toArray⟩ : ByteArray)) :
    Ev (fun k => pax_first.f k (I (D ++ restL a b ++ t))) ((⟨a.toArray⟩ : ByteArray), (⟨b.toArray⟩ : ByteArray), (N : Int), true) := by
  have hk2 : a.contains 61 = false := by
    unfold kvOk at hk
    simp only [Bool.and_eq_true, Bool.not_eq_true'] at hk
    exact hk.1.1.1.2
  have hsp : D ++ restL a b ++ t = D ++ 32 :: (a ++ 61 :: (b ++ 10 :: t)) := by simp [restL]
  have hlI : (I (D ++ restL a b ++ t)).length = N + t.length := by rw [I_len, List.length_append, List.length_append, restL_len]; omega
  have hib : bytes_IndexByte.f (I (D ++ restL a b ++ t)) 32 = some (D.length : Int) := by
    unfold bytes_IndexByte.f
    rw [if_pos (by omega), lib_bytesOf_I, show (32 : Int).toNat.toUInt8 = 32 from rfl, hsp, ib_app 32 _ _ hD]
  have hnm : num_Number.f (⟨D.toArray⟩ : ByteArray) = some ((N : Int), true) := by
    unfold num_Number.f
    rw [if_pos (by rw [ba_len]; omega)]
    simp only [hnum]
  have E2 : Aside0 (wrap64 ((D.length : Int) + 1) = ((D.length + 1 : Nat) : Int)) := ⟨by rw [w64 (by omega) (by omega)]; simp⟩
  have E3 : Aside0 (wrap64 ((N : Int) - 1) = ((N - 1 : Nat) : Int)) := ⟨by rw [w64 (by omega) (by omega)]; omega⟩
  have tk1 : (I (D ++ restL a b ++ t)).take D.length = I D := by rw [I_take, hsp, List.take_left]
  have tk2 : ((I (D ++ restL a b ++ t)).take (N - 1)).drop (D.length + 1) = I (a ++ 61 :: b) := by
    have e4 : N - 1 = (D ++ 32 :: (a ++ 61 :: b)).length := by simp; omega
    have e5 : D.length + 1 = (D ++ [32]).length := by simp
    have e6 : D ++ restL a b ++ t = (D ++ 32 :: (a ++ 61 :: b)) ++ 10 :: t := by simp [restL]
    have e7 : D ++ 32 :: (a ++ 61 :: b) = (D ++ [32]) ++ (a ++ 61 :: b) := by simp
    rw [e4, I_take, e6, List.take_left, e5, I_drop, e7, List.drop_left]
  have tk3 : (I (D ++ restL a b ++ t)).take N = I (D ++ restL a b) := by
    have e : N = (D ++ restL a b).length := by rw [List.length_append, restL_len]; omega
    rw [e, I_take, List.take_left]
  have hcut : strings_Cut.f (⟨(a ++ 61 :: b).toArray⟩ : ByteArray) (⟨#[61]⟩ : ByteArray) = some ((⟨a.toArray⟩ : ByteArray), (⟨b.toArray⟩ : ByteArray), true) := by
    unfold strings_Cut.f
    rw [if_pos (by rw [ba_len]; simp; omega)]
    have := cut_app 61 a b hk2
    simp only [this]
  generalize I (D ++ restL a b ++ t) = L at hlI hib tk1 tk2 tk3 ⊢
  clear hnum hD hsp
  have n1 : ((D.length : Int)).toNat = D.length := by omega
  have n2 : (((D.length + 1 : Nat) : Int)).toNat = D.length + 1 := by omega
  have n3 : (((N - 1 : Nat) : Int)).toNat = N - 1 := by omega
  have n4 : ((N : Int)).toNat = N := by omega
  unfold pax_first.f
  refine Ev.bind (Ev.const hib) ?_
  clear hib
  refine Ev.neg (by omega) (Ev.pos (by omega) (Ev.pos (by omega) ?_))
  rw [n1, tk1, str_I]
  refine Ev.bind (Ev.const hnm) (Ev.pos rfl ?_)
  clear hnm
  dsimp only
  rw [E2.out]
  refine Ev.neg (by omega) ?_
  rw [decide_eq_false (show ¬ ((N : Int) > (L.length : Int)) by omega)]
  refine Ev.succ ?_
  simp only [pax_first.j0]
  refine Ev.neg (by decide) ?_
  rw [E2.out, E3.out]
  refine Ev.pos (by omega) (Ev.pos (by omega) (Ev.pos (by omega) ?_))
  rw [n2, n3, tk2, str_I]
  refine Ev.bind (Ev.const hcut) (Ev.pos rfl ?_)
  clear hcut
  dsimp only
  refine Ev.bind (Ev.const (ok_some _ _)) (Ev.pos hk ?_)
  refine Ev.bind hrec ?_
  refine Ev.pos (by omega) (Ev.pos (by omega) ?_)
  rw [n4, tk3, str_I]
  simp only [beq_self_eq_true]
  exact Ev.now _
theorem first_ev (a b t : List UInt8) (hk : kvOk a b = true) (h : a.length + b.length ≤ 1000000) (ht : t.length ≤ 1000000) : Ev (fun k => pax_first.f k (I (recL a b ++ t))) ((⟨a.toArray⟩ : ByteArray), (⟨b.toArray⟩ : ByteArray), ((recL a b).length : Int), true) := by
  obtain ⟨h1, h2, h3⟩ := recL_len a b (by omega)
  obtain ⟨g1, g2, g3⟩ := recN_spec (a.length + b.length + 3) (by omega)
  have hda := Lib.decDigits_length (recN (a.length + b.length + 3))
  have hdp := Lib.nDigits_pos (recN (a.length + b.length + 3))
  have hr := record_ev (⟨a.toArray⟩ : ByteArray) (⟨b.toArray⟩ : ByteArray) (by rw [ba_len, ba_len]; omega)
  have hnum := number_dec (recN (a.length + b.length + 3)) (by omega)
  rw [h1]
  exact first_gen (Lib.decDigits (recN (a.length + b.length + 3))) a b t _ (dec_no 32 (by decide) _) hnum (by omega) (by omega) (by omega) hk h ht hr
/-- Records that may be, one behind the other. -/
def catL : List KV → List UInt8
  | [] => []
  | x :: r => recL x.f0.data.toList x.f1.data.toList ++ catL r
theorem encL_cat : ∀ l : List KV, (∀ x ∈ l, kvOk x.f0.data.toList x.f1.data.toList = true) → encL l = some (catL l)
  | [], _ => rfl
  | x :: r, h => by
    unfold encL catL
    rw [if_pos (h x (by simp)), encL_cat r (fun y hy => h y (by simp [hy]))]
    rfl
theorem kv_eta (x : KV) : (⟨(⟨x.f0.data.toList.toArray⟩ : ByteArray), (⟨x.f1.data.toList.toArray⟩ : ByteArray)⟩ : KV) = x := by
  cases x with | mk a b =>
  simp
theorem catL_part : ∀ (l : List KV) (x : KV), x ∈ l → x.f0.size + x.f1.size ≤ 100000000000000 → x.f0.size + x.f1.size ≤ (catL l).length
  | y :: r, x, hx, hs => by
    unfold catL
    rw [List.length_append]
    rcases List.mem_cons.1 hx with rfl | hx
    · have ha := ba_len2 x.f0
      have hb := ba_len2 x.f1
      have := recL_len x.f0.data.toList x.f1.data.toList (by omega)
      omega
    · have := catL_part r x hx hs
      omega
theorem decode_l0 : ∀ (l acc : List KV), (∀ x ∈ l, kvOk x.f0.data.toList x.f1.data.toList = true) → (∀ x ∈ l, x.f0.size + x.f1.size ≤ 100000000000000) → (catL l).length ≤ 65536 → acc.length + l.length ≤ 1000000 →
    Ev (fun k => pax_Decode.l0 k (I (catL l)) acc) (acc ++ l, 0)
  | [], acc, hk, hs, hl, ha => by
    refine Ev.succ ?_
    simp only [pax_Decode.l0, catL, I, List.map_nil, List.length_nil, List.append_nil]
    exact Ev.neg (by omega) (Ev.now _)
  | x :: r, acc, hk, hs, hl, ha => by
    have hsz := catL_part (x :: r) x (by simp) (hs x (by simp))
    have h0 := ba_len2 x.f0
    have h1 := ba_len2 x.f1
    obtain ⟨g1, g2, g3⟩ := recL_len x.f0.data.toList x.f1.data.toList (by omega)
    have hcat : (catL (x :: r)).length = (recL x.f0.data.toList x.f1.data.toList).length + (catL r).length := by simp [catL]
    simp only [List.length_cons] at ha
    refine Ev.succ ?_
    simp only [pax_Decode.l0]
    rw [I_len]
    refine Ev.pos (by omega) ?_
    have hf := first_ev x.f0.data.toList x.f1.data.toList (catL r) (hk x (by simp)) (by omega) (by omega)
    refine Ev.bind hf ?_
    simp only [if_true]
    refine Ev.pos (by omega) (Ev.pos (by omega) (Ev.pos (by omega) ?_))
    have e : (((recL x.f0.data.toList x.f1.data.toList).length : Int)).toNat = (recL x.f0.data.toList x.f1.data.toList).length := by omega
    rw [e, I_drop, show catL (x :: r) = recL x.f0.data.toList x.f1.data.toList ++ catL r from rfl, List.drop_left, kv_eta]
    have ih := decode_l0 r (acc ++ [x]) (fun y hy => hk y (by simp [hy])) (fun y hy => hs y (by simp [hy])) (by omega) (by rw [List.length_append, List.length_singleton]; omega)
    rw [List.append_assoc, List.singleton_append] at ih
    exact ih
theorem decode_ev (l : List KV) (hk : ∀ x ∈ l, kvOk x.f0.data.toList x.f1.data.toList = true) (hs : ∀ x ∈ l, x.f0.size + x.f1.size ≤ 100000000000000) (hl : (catL l).length ≤ 65536) (hn : l.length ≤ 1000000) : Ev (fun k => pax_Decode.f k (I (catL l))) (l, 0) := by
  unfold pax_Decode.f
  rw [I_len]
  refine Ev.neg (by omega) ?_
  exact decode_l0 l [] hk hs hl (by simpa using hn)
end Go.Proofs.YtmmmmalicndkeaaDoor.X
