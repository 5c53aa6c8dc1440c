/- The plain law of the document's Digits and Number: they answer as num's do. -/
import Derived.Test.YtbaonnlpphpakaaDoorRef16
import Derived.Test.YtbaonnlpphpakaaDoorExt
import Derived.Test.YtbaonnlpphpakaaDoorX9
import Derived.Test.YtbaonnlpphpakaaDoorX10
namespace Go.Proofs.YtbaonnlpphpakaaDoor.X
open Go.RowKit Go.Proofs.YtbaonnlpphpakaaDoorW.PrintWords Go.Proofs.YtbaonnlpphpakaaDoorW.PrintLast Go.Proofs.YtbaonnlpphpakaaDoorW.PrintMore
set_option linter.unusedVariables false
set_option linter.unusedSimpArgs false

/-! ### what is spelt is parsed -/
theorem u8_dig (d : Nat) (h : d < 10) : (UInt8.ofNat (48 + d)).toNat = 48 + d := by
  rw [UInt8.toNat_ofNat']; omega
theorem parse_dec (t : List UInt8) : ∀ u : Nat, u ≤ 9223372036854775808 → Lib.parseUint10 0 (Lib.decDigits u ++ t) = Lib.parseUint10 u t := by
  intro u
  induction u using Nat.strongRecOn generalizing t with
  | _ u ih =>
    intro hu
    rw [Lib.decDigits]
    by_cases h : u < 10
    · rw [dif_pos h]
      simp only [List.cons_append, List.nil_append, Lib.parseUint10]
      rw [u8_dig u h, if_pos (by omega), if_neg (by omega), if_neg (by omega)]
      congr 1
      omega
    · rw [dif_neg h, List.append_assoc, ih (u / 10) (by omega) _ (by omega)]
      simp only [List.cons_append, List.nil_append, Lib.parseUint10]
      rw [u8_dig (u % 10) (by omega), if_pos (by omega), if_neg (by omega), if_neg (by omega)]
      congr 1
      omega
theorem dec_ne (u : Nat) : Lib.decDigits u ≠ [] := by
  have a := Lib.decDigits_length u
  have b := Lib.nDigits_pos u
  intro h
  rw [h, List.length_nil] at a
  omega
theorem dec_digit : ∀ u : Nat, ∀ x ∈ Lib.decDigits u, 48 ≤ x.toNat ∧ x.toNat ≤ 57 := by
  intro u
  induction u using Nat.strongRecOn with
  | _ u ih =>
    intro x hx
    rw [Lib.decDigits] at hx
    by_cases h : u < 10
    · rw [dif_pos h, List.mem_singleton] at hx
      rw [hx, u8_dig u h]; omega
    · rw [dif_neg h, List.mem_append, List.mem_singleton] at hx
      rcases hx with hx | hx
      · exact ih (u / 10) (by omega) x hx
      · rw [hx, u8_dig (u % 10) (by omega)]; omega
theorem mag_dec (u : Nat) (h : u ≤ 9223372036854775808) : Lib.parseMag (Lib.decDigits u) = .ok u := by
  unfold Lib.parseMag
  rw [if_neg (dec_ne u)]
  have := parse_dec [] u h
  rw [List.append_nil] at this
  rw [this]
  rfl
theorem atoi_itoa (v : Int) (h0 : -9223372036854775808 ≤ v) (h1 : v ≤ 9223372036854775807) : Lib.atoiAll (Lib.itoa v) = .ok v := by
  unfold Lib.itoa
  by_cases hv : v < 0
  · rw [if_pos hv]
    have hm := mag_dec v.natAbs (by omega)
    unfold Lib.atoiAll
    have e3 : ¬ 9223372036854775808 < v.natAbs := by omega
    have e4 : -((v.natAbs : Nat) : Int) = v := by omega
    simp only [show (45 : UInt8).toNat = 45 by rfl, show (45 : Nat) = 43 ∨ (45 : Nat) = 45 from .inr rfl, if_true, hm, not_true, false_and, if_false, true_and, e3, e4, or_true]
  · rw [if_neg hv]
    have hm := mag_dec v.toNat (by omega)
    have hd := dec_digit v.toNat
    have hn := dec_ne v.toNat
    generalize Lib.decDigits v.toNat = l at hm hd hn
    cases l with
    | nil => exact absurd rfl hn
    | cons c r =>
      have hc := hd c (by simp)
      unfold Lib.atoiAll
      have e1 : ¬ (c.toNat = 43) := by omega
      have e2 : ¬ (c.toNat = 45) := by omega
      have e3 : ¬ 9223372036854775808 ≤ v.toNat := by omega
      have e4 : ((v.toNat : Nat) : Int) = v := by omega
      simp only [e1, e2, or_false, if_false, hm, not_false_eq_true, true_and, false_and, e3, e4]
theorem itoa_inj {v u : Int} (h0 : -9223372036854775808 ≤ v) (h1 : v ≤ 9223372036854775807) (h2 : -9223372036854775808 ≤ u) (h3 : u ≤ 9223372036854775807) (h : Lib.itoa v = Lib.itoa u) : v = u := by
  have := atoi_itoa v h0 h1
  rw [h, atoi_itoa u h2 h3] at this
  injection this with this
  exact this.symm
/-- The number that the text spells, if there is one. -/
def IsNum (l : List UInt8) (r : Int × Bool) : Prop := (∃ v : Int, -9223372036854775808 ≤ v ∧ v ≤ 9223372036854775807 ∧ Lib.itoa v = l ∧ r = (v, true)) ∨ ((∀ v : Int, -9223372036854775808 ≤ v → v ≤ 9223372036854775807 → Lib.itoa v ≠ l) ∧ r = (0, false))
theorem IsNum.one {l : List UInt8} {r s : Int × Bool} (h : IsNum l r) (g : IsNum l s) : r = s := by
  rcases h with ⟨v, a0, a1, a2, rfl⟩ | ⟨a, rfl⟩
  · rcases g with ⟨u, b0, b1, b2, rfl⟩ | ⟨b, rfl⟩
    · rw [itoa_inj a0 a1 b0 b1 (a2.trans b2.symm)]
    · exact absurd a2 (b v a0 a1)
  · rcases g with ⟨u, b0, b1, b2, rfl⟩ | ⟨b, rfl⟩
    · exact absurd b2 (a u b0 b1)
    · rfl
theorem number_is (l : List UInt8) : IsNum l (numberOf l) := by
  unfold numberOf
  by_cases hx : ∃ v : Int, -9223372036854775808 ≤ v ∧ v ≤ 9223372036854775807 ∧ Lib.itoa v = l
  · obtain ⟨v, h0, h1, rfl⟩ := hx
    rw [atoi_itoa v h0 h1]
    simp only [if_true]
    exact .inl ⟨v, h0, h1, rfl, rfl⟩
  · refine .inr ⟨fun v h0 h1 h2 => hx ⟨v, h0, h1, h2⟩, ?_⟩
    split
    · rename_i v hv
      obtain ⟨b0, b1⟩ := Lib.atoiAll_bounds hv
      rw [if_neg (fun h => hx ⟨v, b0, b1, h⟩)]
    · rfl

/-! ### Digits -/
theorem dec_piece (d : Nat) (h : d < 10) : (⟨#[48, 49, 50, 51, 52, 53, 54, 55, 56, 57]⟩ : ByteArray).extract d (d + 1) = ⟨#[UInt8.ofNat (48 + d)]⟩ := by
  have : ∀ d : Fin 10, (⟨#[48, 49, 50, 51, 52, 53, 54, 55, 56, 57]⟩ : ByteArray).extract d.val (d.val + 1) = ⟨#[UInt8.ofNat (48 + d.val)]⟩ := by decide +kernel
  exact this ⟨d, h⟩
theorem ba_len (l : List UInt8) : (⟨l.toArray⟩ : ByteArray).size = l.length := by simp [ByteArray.size]
theorem ba_size (a b : ByteArray) : (a ++ b).size = a.size + b.size := by simp
theorem dig_l0 (sign : ByteArray) (hs : sign.size ≤ 1) : ∀ (u : Nat) (s : ByteArray), u < 18446744073709551616 → s.size + Lib.nDigits u ≤ 1000 →
    Ev (fun k => portmanteauref13_Digits.l0 k (u : Int) s sign) (sign ++ (⟨(Lib.decDigits u).toArray⟩ : ByteArray) ++ s) := by
  intro u
  induction u using Nat.strongRecOn with
  | _ u ih =>
    intro s hu hsz
    by_cases h : u < 10
    · refine Ev.step1 fun k => ?_
      simp only [portmanteauref13_Digits.l0]
      have e1 : (u : Int).toNat = u := by omega
      have e2 : ((u : Int) + 1).toNat = u + 1 := by omega
      have hp := dec_piece u h
      have hpz : ((⟨#[UInt8.ofNat (48 + u)]⟩ : ByteArray)).size = 1 := rfl
      rw [if_neg (by omega), w64 (by omega) (by omega), w64 (by omega) (by omega), if_pos (by omega), if_pos (by omega), if_pos (by omega), e1, e2, hp, if_pos (by rw [hpz]; omega), if_pos (by rw [ba_size, hpz]; omega), Lib.decDigits_one h]
    · have hd : u % 10 < 10 := Nat.mod_lt _ (by decide)
      have hn := Lib.nDigits_big h
      have hpz : ((⟨#[UInt8.ofNat (48 + u % 10)]⟩ : ByteArray)).size = 1 := rfl
      have hi := ih (u / 10) (by omega) ((⟨#[UInt8.ofNat (48 + u % 10)]⟩ : ByteArray) ++ s) (by omega) (by rw [ba_size, hpz]; omega)
      refine Ev.step (fun k => ?_) (ev_eq hi ?_)
      · simp only [portmanteauref13_Digits.l0]
        have e1 : Int.tdiv (u : Int) 10 = ((u / 10 : Nat) : Int) := by rw [Int.tdiv_eq_ediv_of_nonneg (by omega)]; rfl
        have e2 : Int.tmod (u : Int) 10 = ((u % 10 : Nat) : Int) := by rw [Int.tmod_eq_emod_of_nonneg (by omega)]; rfl
        have e3 : (((u % 10 : Nat) : Int)).toNat = u % 10 := by omega
        have e4 : (((u % 10 : Nat) : Int) + 1).toNat = u % 10 + 1 := by omega
        have e5 : IntKind.u64.wrap ((u / 10 : Nat) : Int) = ((u / 10 : Nat) : Int) := by rw [IntKind.wrap_u64]; omega
        have hp := dec_piece (u % 10) hd
        rw [if_pos (by omega), e1, e2, e5, w64 (by omega) (by omega), w64 (by omega) (by omega), if_pos (by omega), if_pos (by omega), if_pos (by omega), e3, e4, hp, if_pos (by rw [hpz]; omega)]
      · apply ba_ext
        simp only [ba_append]
        rw [Lib.decDigits.eq_1 u, dif_neg h]
        simp
theorem digits13_ev (n : Int) (h0 : -9223372036854775808 ≤ n) (h1 : n ≤ 9223372036854775807) : Ev (fun k => portmanteauref13_Digits.f k n) (⟨(Lib.itoa n).toArray⟩ : ByteArray) := by
  unfold portmanteauref13_Digits.f Lib.itoa
  by_cases hn : n < 0
  · have e : IntKind.u64.wrap (-(IntKind.u64.wrap n)) = ((n.natAbs : Nat) : Int) := by
      rw [IntKind.wrap_u64, IntKind.wrap_u64]; omega
    simp only [hn, if_true, e]
    have hl := Lib.nDigits_le20 n.natAbs (by omega)
    refine Ev.succ ?_
    simp only [portmanteauref13_Digits.j0]
    refine ev_eq (dig_l0 _ (by decide) n.natAbs _ (by omega) (by rw [show (⟨#[]⟩ : ByteArray).size = 0 by rfl]; omega)) ?_
    apply ba_ext
    simp only [ba_append]
    simp
  · have e : IntKind.u64.wrap n = ((n.toNat : Nat) : Int) := by
      rw [IntKind.wrap_u64]; omega
    simp only [hn, if_false, e]
    have hl := Lib.nDigits_le20 n.toNat (by omega)
    refine Ev.succ ?_
    simp only [portmanteauref13_Digits.j0]
    refine ev_eq (dig_l0 _ (by decide) n.toNat _ (by omega) (by rw [show (⟨#[]⟩ : ByteArray).size = 0 by rfl]; omega)) ?_
    apply ba_ext
    simp only [ba_append]
    simp

/-! ### Number -/
theorem ba_len2 (s : ByteArray) : s.size = s.data.toList.length := by rw [Array.length_toList]; rfl
theorem bt_app (s : ByteArray) (p r : List UInt8) (c : UInt8) (h : s.data.toList = p ++ c :: r) : bt s (p.length : Int) = (c.toNat : Int) := by
  have hz := ba_len2 s
  have hlt : (p.length : Int).toNat < s.size := by rw [hz, h]; simp
  unfold bt
  rw [dif_pos hlt, Lib.getD_at s _ hlt, h]
  simp [List.getD_eq_getElem?_getD]
/-- What is answered behind the digits. -/
def refTail (x d : List UInt8) (m : Nat) : Int × Bool :=
  if m > 9223372036854775808 then (0, false) else if d = x then (if m > 9223372036854775807 then (0, false) else if Lib.itoa (m : Int) = x then ((m : Int), true) else (0, false)) else if Lib.itoa (-(m : Int)) = x then (-(m : Int), true) else (0, false)
theorem num_j4 (x d : ByteArray) (m : Nat) (b : Bool) (hm : m ≤ 9223372036854775808) (hb : b = true ∨ ¬ (d.data.toList = x.data.toList ∧ m > 9223372036854775807)) :
    Ev (fun k => portmanteauref16_Number.j4 k x d (m : Int) b) (if b = true then (0, false) else refTail x.data.toList d.data.toList m) := by
  cases b
  · have hb2 : ¬ (d.data.toList = x.data.toList ∧ m > 9223372036854775807) := by simpa using hb
    refine Ev.succ ?_
    simp only [portmanteauref16_Number.j4, Bool.false_eq_true, if_false, ba_toList]
    unfold refTail
    rw [if_neg (by omega)]
    by_cases hd : d.data.toList = x.data.toList
    · have hm2 : m ≤ 9223372036854775807 := by
        refine Nat.le_of_not_lt fun h => hb2 ⟨hd, h⟩
      simp only [hd, if_true]
      rw [if_neg (by omega), w64 (by omega) (by omega)]
      refine Ev.bind (digits13_ev (m : Int) (by omega) (by omega)) ?_
      by_cases hi : Lib.itoa (m : Int) = x.data.toList
      · simp only [hi, if_true]
        exact Ev.now _
      · simp only [hi, if_false]
        exact Ev.now _
    · simp only [hd, if_false]
      have e : wrap64 (IntKind.u64.wrap (-(m : Int))) = -(m : Int) := by
        rw [IntKind.wrap_u64]; unfold wrap64; omega
      rw [e]
      refine Ev.bind (digits13_ev (-(m : Int)) (by omega) (by omega)) ?_
      by_cases hi : Lib.itoa (-(m : Int)) = x.data.toList
      · simp only [hi, if_true]
        exact Ev.now _
      · simp only [hi, if_false]
        exact Ev.now _
  · refine Ev.step1 fun k => ?_
    simp only [portmanteauref16_Number.j4, if_true]
theorem num_tail (x d : ByteArray) (m : Nat) (i : Int) (hi : ¬ i < (d.size : Int)) : Ev (fun k => portmanteauref16_Number.l0 k x d (m : Int) i) (refTail x.data.toList d.data.toList m) := by
  refine Ev.succ ?_
  simp only [portmanteauref16_Number.l0, hi, if_false, ba_toList]
  by_cases hm : m > 9223372036854775808
  · have h1 : ((m : Int) > 9223372036854775808) := by omega
    simp only [h1, if_true]
    refine Ev.step1 fun k => ?_
    simp only [portmanteauref16_Number.j4, if_true]
    unfold refTail
    rw [if_pos hm]
  · have h1 : ¬ ((m : Int) > 9223372036854775808) := by omega
    simp only [h1, if_false]
    by_cases hd : d.data.toList = x.data.toList
    · simp only [hd, if_true]
      by_cases h2 : m > 9223372036854775807
      · rw [decide_eq_true (by omega)]
        refine ev_eq (num_j4 x d m true (by omega) (.inl rfl)) ?_
        unfold refTail
        simp only [hm, h2, if_true, if_false]
      · rw [decide_eq_false (by omega)]
        refine ev_eq (num_j4 x d m false (by omega) (.inr fun h => h2 h.2)) ?_
        rw [if_neg (by decide), hd]
    · simp only [hd, if_false]
      exact ev_eq (num_j4 x d m false (by omega) (.inr fun h => hd h.1)) (by rw [if_neg (by decide)])
theorem num_l0 (x d : ByteArray) : ∀ (r p : List UInt8) (v : Nat), d.data.toList = p ++ r → (v + 1) * 10 ^ r.length ≤ 10 ^ 19 → p.length + r.length ≤ 19 →
    Ev (fun k => portmanteauref16_Number.l0 k x d (v : Int) (p.length : Int)) (match Lib.decFrom v r with | none => (0, false) | some m => refTail x.data.toList d.data.toList m)
  | [], p, v, hd, hv, hl => by
    have hz := ba_len2 d
    exact num_tail x d v _ (by rw [hz, hd]; simp)
  | c :: r, p, v, hd, hv, hl => by
    have hz := ba_len2 d
    have hlen : d.size = p.length + (r.length + 1) := by rw [hz, hd]; simp
    have hbt := bt_app d p r c hd
    have hmul : (v + 1) * 10 ^ (c :: r).length = (v + 1) * 10 * 10 ^ r.length := by rw [List.length_cons, Nat.pow_succ, Nat.mul_comm (10 ^ r.length) 10, Nat.mul_assoc]
    have hc := c.toNat_lt
    rw [hmul] at hv
    have hpos : 1 ≤ 10 ^ r.length := Nat.pow_pos (by decide)
    have hvb : (v + 1) * 10 ≤ 10 ^ 19 := Nat.le_trans (Nat.le_mul_of_pos_right _ hpos) hv
    have hvb2 : (v + 1) * 10 ≤ 10000000000000000000 := hvb
    clear hvb hmul
    unfold Lib.decFrom Lib.digitVal
    by_cases hdg : 48 ≤ c.toNat ∧ c.toNat ≤ 57
    · rw [if_pos hdg]
      have ih := num_l0 x d r (p ++ [c]) (v * 10 + (c.toNat - 48)) (by rw [hd]; simp) (Nat.le_trans (Nat.mul_le_mul_right _ (by omega)) hv) (by simp at hl ⊢; omega)
      clear hv hpos
      refine Ev.step (fun k => ?_) ih
      simp only [portmanteauref16_Number.l0]
      have e1 : IntKind.u64.wrap (10 * (v : Int)) = 10 * (v : Int) := by rw [IntKind.wrap_u64]; omega
      have e2 : ((c.toNat : Int) - 48) % 256 = ((c.toNat - 48 : Nat) : Int) := by omega
      have e3 : IntKind.u64.wrap (10 * (v : Int) + ((c.toNat - 48 : Nat) : Int)) = ((v * 10 + (c.toNat - 48) : Nat) : Int) := by rw [IntKind.wrap_u64]; omega
      have hl2 : p.length + (r.length + 1) ≤ 19 := by simpa using hl
      rw [if_pos (by omega), if_pos (by omega), hbt, if_neg (by omega), if_neg (by omega), e1, e2, e3, w64 (by omega) (by omega)]
      congr 1
      simp
    · rw [if_neg hdg]
      clear hv hpos
      refine Ev.step1 fun k => ?_
      simp only [portmanteauref16_Number.l0]
      rw [if_pos (by omega), if_pos (by omega), hbt]
      by_cases h48 : c.toNat < 48
      · rw [if_pos (by omega)]
      · rw [if_neg (by omega), if_pos (by omega)]
/-- What the document's Number answers, of the text and what stands behind the sign. -/
def refNum (x d : List UInt8) : Int × Bool := if d = [] then (0, false) else if d.length > 19 then (0, false) else match Lib.decFrom 0 d with | none => (0, false) | some m => refTail x d m
theorem num_j1 (x d : ByteArray) : Ev (fun k => portmanteauref16_Number.j1 k x d) (refNum x.data.toList d.data.toList) := by
  have hz := ba_len2 d
  refine Ev.succ ?_
  simp only [portmanteauref16_Number.j1, ba_toList]
  unfold refNum
  by_cases h : d.data.toList = []
  · simp only [h, if_true]
    refine Ev.step1 fun k => ?_
    simp only [portmanteauref16_Number.j2, if_true]
  · simp only [h, if_false]
    by_cases h2 : d.data.toList.length > 19
    · rw [if_pos h2, decide_eq_true (by rw [hz]; omega)]
      refine Ev.step1 fun k => ?_
      simp only [portmanteauref16_Number.j2, if_true]
    · rw [if_neg h2, decide_eq_false (by rw [hz]; omega)]
      refine Ev.succ ?_
      simp only [portmanteauref16_Number.j2, Bool.false_eq_true, if_false]
      refine num_l0 x d d.data.toList [] 0 rfl ?_ (by simp; omega)
      rw [Nat.zero_add, Nat.one_mul]
      exact Nat.pow_le_pow_right (by decide) (by omega)
/-- The text without its sign. -/
def unsign (l : List UInt8) : List UInt8 := match l with | [] => [] | c :: r => if c.toNat = 45 then r else c :: r
theorem ref_number_ev (x : ByteArray) : Ev (fun k => portmanteauref16_Number.f k x) (refNum x.data.toList (unsign x.data.toList)) := by
  have hz := ba_len2 x
  unfold portmanteauref16_Number.f
  simp only [ba_toList]
  by_cases h : x.data.toList = []
  · simp only [h, if_true]
    refine Ev.succ ?_
    simp only [portmanteauref16_Number.j0, Bool.false_eq_true, if_false]
    exact ev_eq (num_j1 x x) (by rw [h]; rfl)
  · simp only [h, if_false]
    obtain ⟨c, r, hx⟩ : ∃ c r, x.data.toList = c :: r := by
      cases hq : x.data.toList with
      | nil => exact absurd hq h
      | cons c r => exact ⟨c, r, rfl⟩
    have hs : (0 : Int) < (x.size : Int) := by rw [hz, hx]; simp
    have hs1 : (1 : Int) ≤ (x.size : Int) := by omega
    simp only [hs, if_true]
    have hb : bt x 0 = (c.toNat : Int) := bt_app x [] r c hx
    rw [hb]
    refine Ev.succ ?_
    by_cases hc : c.toNat = 45
    · have e : ((c.toNat : Int) == 45) = true := by rw [hc]; rfl
      simp only [portmanteauref16_Number.j0, e, if_true, hs1]
      refine ev_eq (num_j1 x (x.extract 1 x.size)) ?_
      have e2 : (x.extract 1 x.size).data.toList = r := by
        rw [ByteArray.data_extract, Array.toList_extract, hx, hz, hx]
        simp
      rw [e2, hx]
      simp [unsign, hc]
    · have e : ((c.toNat : Int) == 45) = false := by rw [beq_eq_false_iff_ne]; omega
      simp only [portmanteauref16_Number.j0, e, Bool.false_eq_true, if_false]
      refine ev_eq (num_j1 x x) ?_
      rw [hx]
      simp [unsign, hc]
theorem dec_from (t : List UInt8) : ∀ u : Nat, Lib.decFrom 0 (Lib.decDigits u ++ t) = Lib.decFrom u t := by
  intro u
  induction u using Nat.strongRecOn generalizing t with
  | _ u ih =>
    rw [Lib.decDigits]
    by_cases h : u < 10
    · rw [dif_pos h]
      simp only [List.cons_append, List.nil_append, Lib.decFrom, Lib.digitVal]
      rw [u8_dig u h, if_pos (by omega)]
      simp only
      congr 1
      omega
    · rw [dif_neg h, List.append_assoc, ih (u / 10) (by omega) _]
      simp only [List.cons_append, List.nil_append, Lib.decFrom, Lib.digitVal]
      rw [u8_dig (u % 10) (by omega), if_pos (by omega)]
      simp only
      congr 1
      omega
theorem dec_len19 (u : Nat) (h : u ≤ 9223372036854775808) : (Lib.decDigits u).length ≤ 19 := by
  rw [Lib.decDigits_length]
  refine Nat.le_of_not_lt fun h2 => ?_
  have : ∀ (k u : Nat), u < 10 ^ k → 1 ≤ k → Lib.nDigits u ≤ k := by
    intro k
    induction k with
    | zero => intro u _ h; omega
    | succ k ih =>
      intro u hu _
      by_cases h10 : u < 10
      · rw [Lib.nDigits_small h10]; omega
      · rw [Lib.nDigits_big h10]
        cases k with
        | zero => simp at hu; omega
        | succ k =>
          have := ih (u / 10) (by rw [Nat.pow_succ] at hu; omega) (by omega)
          omega
  have := this 19 u (Nat.lt_of_le_of_lt h (by decide)) (by decide)
  omega
theorem refTail_is (x d : List UInt8) (m : Nat) : (refTail x d m).2 = true → IsNum x (refTail x d m) := by
  unfold refTail
  split
  · intro h; cases h
  · split
    · split
      · intro h; cases h
      · split
        · rename_i a b c e
          intro _
          exact .inl ⟨_, by omega, by omega, e, rfl⟩
        · intro h; cases h
    · split
      · rename_i a b e
        intro _
        exact .inl ⟨_, by omega, by omega, e, rfl⟩
      · intro h; cases h
theorem refTail_no (x d : List UInt8) (m : Nat) : (refTail x d m).2 = false → refTail x d m = (0, false) := by
  unfold refTail
  split
  · intro _; rfl
  · split
    · split
      · intro _; rfl
      · split
        · intro h; cases h
        · intro _; rfl
    · split
      · intro h; cases h
      · intro _; rfl
theorem refNum_of (v : Int) (h0 : -9223372036854775808 ≤ v) (h1 : v ≤ 9223372036854775807) : refNum (Lib.itoa v) (unsign (Lib.itoa v)) = (v, true) := by
  have hu : unsign (Lib.itoa v) = Lib.decDigits v.natAbs ∧ (Lib.itoa v = Lib.decDigits v.natAbs ↔ 0 ≤ v) := by
    unfold Lib.itoa
    by_cases hv : v < 0
    · rw [if_pos hv]
      refine ⟨by simp [unsign], ⟨fun h => ?_, fun h => by omega⟩⟩
      have := congrArg List.length h
      simp at this
    · rw [if_neg hv]
      have e : v.toNat = v.natAbs := by omega
      rw [e]
      refine ⟨?_, ⟨fun _ => by omega, fun _ => rfl⟩⟩
      have hd := dec_digit v.natAbs
      generalize Lib.decDigits v.natAbs = l at hd
      cases l with
      | nil => rfl
      | cons c r =>
        have := hd c (by simp)
        simp only [unsign]
        rw [if_neg (by omega)]
  obtain ⟨hu1, hu2⟩ := hu
  have hf := dec_from [] v.natAbs
  rw [List.append_nil] at hf
  have hl := dec_len19 v.natAbs (by omega)
  unfold refNum
  rw [hu1, if_neg (dec_ne _), if_neg (by omega), hf]
  simp only [Lib.decFrom]
  unfold refTail
  rw [if_neg (by omega)]
  by_cases hv : 0 ≤ v
  · have e : ((v.natAbs : Nat) : Int) = v := by omega
    rw [if_pos (hu2.2 hv).symm, if_neg (by omega), e, if_pos rfl]
  · have e : -((v.natAbs : Nat) : Int) = v := by omega
    rw [if_neg (fun h => hv (hu2.1 h.symm)), e, if_pos rfl]
theorem refNum_is (x : List UInt8) : IsNum x (refNum x (unsign x)) := by
  by_cases hx : ∃ v : Int, -9223372036854775808 ≤ v ∧ v ≤ 9223372036854775807 ∧ Lib.itoa v = x
  · obtain ⟨v, h0, h1, rfl⟩ := hx
    exact .inl ⟨v, h0, h1, rfl, refNum_of v h0 h1⟩
  · have hno : ∀ v : Int, -9223372036854775808 ≤ v → v ≤ 9223372036854775807 → Lib.itoa v ≠ x := fun v h0 h1 h2 => hx ⟨v, h0, h1, h2⟩
    refine .inr ⟨hno, ?_⟩
    unfold refNum
    split
    · rfl
    · split
      · rfl
      · split
        · rfl
        · rename_i m hm
          cases hb : (refTail x (unsign x) m).2
          · exact refTail_no _ _ _ hb
          · rcases refTail_is _ _ _ hb with ⟨v, a0, a1, a2, _⟩ | ⟨_, a⟩
            · exact absurd a2 (hno v a0 a1)
            · exact a
/-- The two answer alike. -/
theorem number_same (x : ByteArray) : Ev (fun k => portmanteauref16_Number.f k x) (numberOf x.data.toList) := by
  refine ev_eq (ref_number_ev x) ?_
  exact (refNum_is _).one (number_is _)
end Go.Proofs.YtbaonnlpphpakaaDoor.X
