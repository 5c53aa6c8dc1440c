/- A time's text and its number, in plain words. -/
import Derived.Lib.ItoaLen
import Derived.Lib.TrimByte
import Derived.Lib.IndexMore
namespace Go.Proofs.YtmmmmalicndkeaaDoor.X
set_option linter.unusedVariables false
set_option linter.unusedSimpArgs false

/-- Is a byte a digit? -/
def isD (c : UInt8) : Bool := decide (48 ≤ c.toNat) && decide (c.toNat ≤ 57)
/-- The number of digits behind a number. -/
def valF (v : Nat) (l : List UInt8) : Nat := l.foldl (fun a c => 10 * a + (c.toNat - 48)) v
theorem valF_cons (v : Nat) (c : UInt8) (r : List UInt8) : valF v (c :: r) = valF (10 * v + (c.toNat - 48)) r := by unfold valF; rw [List.foldl_cons]
theorem valF_nil (v : Nat) : valF v [] = v := by unfold valF; rw [List.foldl_nil]
theorem valF_append (a b : List UInt8) : ∀ v : Nat, valF v (a ++ b) = valF (valF v a) b := by
  induction a with
  | nil => intro v; rw [List.nil_append, valF_nil]
  | cons c a ih => intro v; rw [List.cons_append, valF_cons, valF_cons, ih]
theorem valF_shift (l : List UInt8) : ∀ v : Nat, valF v l = v * 10 ^ l.length + valF 0 l := by
  induction l with
  | nil => intro v; rw [valF_nil, valF_nil, List.length_nil, Nat.pow_zero]; omega
  | cons c l ih =>
    intro v
    rw [valF_cons, valF_cons, ih (10 * v + (c.toNat - 48)), ih (10 * 0 + (c.toNat - 48)), List.length_cons, Nat.pow_succ]
    generalize c.toNat - 48 = d
    generalize 10 ^ l.length = P
    generalize valF 0 l = V
    rw [Nat.add_mul, Nat.mul_zero, Nat.zero_add]
    have : 10 * v * P = v * (P * 10) := by rw [Nat.mul_comm 10 v, Nat.mul_assoc, Nat.mul_comm 10]
    omega
theorem isD_le {c : UInt8} (h : isD c = true) : 48 ≤ c.toNat ∧ c.toNat ≤ 57 := by
  unfold isD at h
  simpa using h
theorem valF_lt (l : List UInt8) : l.all isD = true → valF 0 l < 10 ^ l.length := by
  induction l with
  | nil => intro _; rw [valF_nil, List.length_nil]; decide
  | cons c l ih =>
    intro h
    rw [List.all_cons, Bool.and_eq_true] at h
    have h1 := isD_le h.1
    have ih := ih h.2
    rw [valF_cons, valF_shift, List.length_cons, Nat.pow_succ, Nat.mul_zero, Nat.zero_add]
    have h2 : c.toNat - 48 ≤ 9 := by omega
    generalize c.toNat - 48 = d at h2 ⊢
    generalize 10 ^ l.length = P at ih ⊢
    have h3 : d * P ≤ 9 * P := Nat.mul_le_mul_right _ h2
    omega
theorem valF_ge (l : List UInt8) : ∀ v : Nat, v ≤ valF v l := by
  induction l with
  | nil => intro v; rw [valF_nil]; exact Nat.le_refl _
  | cons c l ih =>
    intro v
    rw [valF_cons]
    have := ih (10 * v + (c.toNat - 48))
    omega
def pad9 (f : List UInt8) : List UInt8 := (f ++ List.replicate 9 48).take 9
theorem pad9_len (f : List UInt8) : (pad9 f).length = 9 := by simp [pad9]
theorem pad9_short (f : List UInt8) (h : f.length ≤ 9) : pad9 f = f ++ List.replicate (9 - f.length) 48 := by
  unfold pad9
  rw [List.take_append, List.take_of_length_le h, List.take_replicate]
  congr 2
  omega
theorem pad9_long (f : List UInt8) (h : 9 ≤ f.length) : pad9 f = f.take 9 := by
  unfold pad9
  rw [List.take_append, show 9 - f.length = 0 by omega]
  simp
theorem all_rep (n : Nat) : (List.replicate n (48 : UInt8)).all isD = true := by
  rw [List.all_eq_true]
  intro x hx
  rw [List.eq_of_mem_replicate hx]
  decide
theorem pad9_all (f : List UInt8) (h : f.all isD = true) : (pad9 f).all isD = true := by
  rw [List.all_eq_true] at h ⊢
  intro x hx
  have hx2 := List.mem_of_mem_take hx
  rcases List.mem_append.1 hx2 with hx2 | hx2
  · exact h x hx2
  · rw [List.eq_of_mem_replicate hx2]; decide
/-- What a number of nanoseconds is as an int, if it may be. -/
def timeFin (neg : Bool) (t : Nat) : Int × Bool := if neg = true then (if t ≤ 9223372036854775808 then (-(t : Int), true) else (0, false)) else (if t ≤ 9223372036854775807 then ((t : Int), true) else (0, false))
theorem timeFin_big (neg : Bool) (t : Nat) (h : 9223372036854775808 < t) : timeFin neg t = (0, false) := by
  unfold timeFin
  rw [if_neg (show ¬ t ≤ 9223372036854775808 by omega), if_neg (show ¬ t ≤ 9223372036854775807 by omega)]
  cases neg <;> rfl
def wOk (w : List UInt8) : Bool := decide (1 ≤ w.length) && decide (w.length ≤ 19) && w.all isD
def fOk (f : List UInt8) : Bool := decide (1 ≤ f.length) && decide (f.length ≤ 30) && f.all isD
def timeW (neg : Bool) (w f : List UInt8) (pt : Bool) : Int × Bool := if (wOk w && (!pt || fOk f)) = true then timeFin neg (valF 0 (w ++ pad9 f)) else (0, false)
def timeBody (neg : Bool) (s : List UInt8) : Int × Bool := timeW neg (Lib.cut s [46]).1 (Lib.cut s [46]).2.1 (Lib.cut s [46]).2.2
/-- A text's time, in nanoseconds. -/
def timeOf (l : List UInt8) : Int × Bool := match l with
  | [] => timeBody false []
  | c :: r => if c = 45 then timeBody true r else timeBody false (c :: r)
theorem time_split (w f : List UInt8) : valF 0 (w ++ pad9 f) = valF 0 w * 1000000000 + valF 0 (pad9 f) := by
  rw [valF_append, valF_shift, pad9_len]
theorem time_bound (w f : List UInt8) (hf : f.all isD = true) : valF 0 (pad9 f) < 1000000000 := by
  have := valF_lt (pad9 f) (pad9_all f hf)
  rw [pad9_len] at this
  exact this

/-! ### digits' numbers -/
theorem u8_digit (d : Nat) (h : d < 10) : (UInt8.ofNat (48 + d)).toNat = 48 + d := by
  rw [UInt8.toNat_ofNat']; omega
theorem valF_dec : ∀ u : Nat, valF 0 (Lib.decDigits u) = u := by
  intro u
  induction u using Nat.strongRecOn with
  | _ u ih =>
    rw [Lib.decDigits]
    by_cases h : u < 10
    · rw [dif_pos h, valF_cons, valF_nil, u8_digit u h]
      omega
    · rw [dif_neg h, valF_append, ih (u / 10) (by omega), valF_cons, valF_nil, u8_digit (u % 10) (by omega)]
      omega
theorem dec_isD : ∀ u : Nat, (Lib.decDigits u).all isD = true := by
  intro u
  induction u using Nat.strongRecOn with
  | _ u ih =>
    rw [Lib.decDigits]
    by_cases h : u < 10
    · rw [dif_pos h]
      simp only [List.all_cons, List.all_nil, Bool.and_true]
      unfold isD
      rw [u8_digit u h]
      simp; omega
    · rw [dif_neg h, List.all_append, ih (u / 10) (by omega)]
      simp only [List.all_cons, List.all_nil, Bool.and_true, Bool.true_and]
      unfold isD
      rw [u8_digit (u % 10) (by omega)]
      simp; omega
/-- Nine digits of a number below 10^9. -/
def nine (m : Nat) : List UInt8 := (Lib.decDigits (1000000000 + m)).drop 1
theorem nine_facts (m : Nat) (h : m < 1000000000) : (nine m).length = 9 ∧ (nine m).all isD = true ∧ valF 0 (nine m) = m := by
  have hl : (Lib.decDigits (1000000000 + m)).length = 10 := by
    rw [Lib.decDigits_length]
    exact Lib.nDigits_unique 9 _ (by omega) (by omega)
  have hv := valF_dec (1000000000 + m)
  have hd := dec_isD (1000000000 + m)
  unfold nine
  cases hc : Lib.decDigits (1000000000 + m) with
  | nil => rw [hc] at hl; simp at hl
  | cons c r =>
    rw [hc] at hl hv hd
    rw [List.all_cons, Bool.and_eq_true] at hd
    have hr : r.length = 9 := by simpa using hl
    have h1 := isD_le hd.1
    have h2 := valF_lt r hd.2
    rw [valF_cons, valF_shift, hr] at hv
    rw [hr] at h2
    refine ⟨by simp [hr], by simpa using hd.2, ?_⟩
    simp only [List.drop_succ_cons, List.drop_zero]
    have h3 : c.toNat - 48 = 1 := by omega
    rw [h3] at hv
    omega
/-! ### noughts at the end -/
theorem trim_pad : ∀ l : List UInt8, ∃ k, l = Lib.trimRightB l 48 ++ List.replicate k 48 := by
  intro l
  unfold Lib.trimRightB
  have key : ∀ r : List UInt8, ∃ k, r.reverse = (r.dropWhile (· == 48)).reverse ++ List.replicate k 48 := by
    intro r
    induction r with
    | nil => exact ⟨0, rfl⟩
    | cons c r ih =>
      by_cases h : c = 48
      · obtain ⟨k, hk⟩ := ih
        refine ⟨k + 1, ?_⟩
        rw [List.reverse_cons, hk, h, List.dropWhile_cons_of_pos (by decide), List.replicate_succ', List.append_assoc]
      · refine ⟨0, ?_⟩
        rw [List.dropWhile_cons_of_neg (by simpa using h)]
        simp
  obtain ⟨k, hk⟩ := key l.reverse
  refine ⟨k, ?_⟩
  rw [List.reverse_reverse] at hk
  exact hk
theorem valF_zeros (k : Nat) : valF 0 (List.replicate k 48) = 0 := by
  induction k with
  | zero => rw [List.replicate_zero, valF_nil]
  | succ k ih => rw [List.replicate_succ, valF_cons, show 10 * 0 + ((48 : UInt8).toNat - 48) = 0 by decide, ih]
theorem trim_nine (m : Nat) (h : m < 1000000000) (h0 : m ≠ 0) : 1 ≤ (Lib.trimRightB (nine m) 48).length ∧ (Lib.trimRightB (nine m) 48).length ≤ 9 ∧ (Lib.trimRightB (nine m) 48).all isD = true ∧ pad9 (Lib.trimRightB (nine m) 48) = nine m := by
  obtain ⟨h1, h2, h3⟩ := nine_facts m h
  obtain ⟨k, hk⟩ := trim_pad (nine m)
  have hlen : (nine m).length = (Lib.trimRightB (nine m) 48).length + k := by
    conv => lhs; rw [hk]
    simp
  have hpos : 1 ≤ (Lib.trimRightB (nine m) 48).length := by
    cases ht : Lib.trimRightB (nine m) 48 with
    | nil =>
      rw [ht] at hk
      rw [hk, List.nil_append, valF_zeros] at h3
      exact absurd h3.symm h0
    | cons c r => simp
  refine ⟨hpos, by omega, ?_, ?_⟩
  · rw [hk, List.all_append, Bool.and_eq_true] at h2
    exact h2.1
  · rw [pad9_short _ (by omega)]
    conv => rhs; rw [hk]
    congr 2
    omega
/-- A time's text. -/
def textU (u : Nat) : List UInt8 := Lib.decDigits (u / 1000000000) ++ (if u % 1000000000 = 0 then [] else 46 :: Lib.trimRightB (nine (u % 1000000000)) 48)
def textOf (n : Int) : List UInt8 := if n < 0 then 45 :: textU n.natAbs else textU n.natAbs
theorem no46 (l : List UInt8) (h : l.all isD = true) : l.contains 46 = false := by
  rw [Bool.eq_false_iff]
  intro hc
  rw [List.all_eq_true] at h
  have := isD_le (h 46 (List.contains_iff_mem.1 hc))
  revert this
  decide
theorem index_no (c : UInt8) : ∀ l : List UInt8, l.contains c = false → Lib.index l [c] = -1
  | [], _ => by simp [Lib.index]
  | b :: l, h => by
    rw [List.contains_cons, Bool.or_eq_false_iff] at h
    have h1 : ¬ c = b := fun e => by rw [e] at h; simp at h
    unfold Lib.index
    rw [index_no c l h.2]
    simp [List.isPrefixOf, h1]
theorem cut_no (c : UInt8) (l : List UInt8) (h : l.contains c = false) : Lib.cut l [c] = (l, [], false) := by
  unfold Lib.cut
  rw [index_no c l h, if_neg (by decide)]
theorem ix_at (c : UInt8) : ∀ (p r : List UInt8), p.contains c = false → Lib.index (p ++ c :: r) [c] = (p.length : Int)
  | [], r, h => by simp [Lib.index, List.isPrefixOf]
  | b :: p, r, h => by
    rw [List.contains_cons, Bool.or_eq_false_iff] at h
    have h1 : ¬ c = b := fun e => by rw [e] at h; simp at h
    have ih := ix_at c p r h.2
    rw [List.cons_append]
    unfold Lib.index
    rw [ih]
    have h3 : (((p.length : Int)) == -1) = false := beq_eq_false_iff_ne.mpr (by omega)
    rw [h3]
    simp [List.isPrefixOf, h1]
theorem cut_at (c : UInt8) (p r : List UInt8) (h : p.contains c = false) : Lib.cut (p ++ c :: r) [c] = (p, r, true) := by
  unfold Lib.cut
  rw [ix_at c p r h, if_pos (by omega)]
  have e : ((p.length : Int)).toNat = p.length := by omega
  rw [e, List.take_left, List.length_singleton]
  congr 2
  rw [show p.length + 1 = (p ++ [c]).length by simp, show p ++ c :: r = (p ++ [c]) ++ r by simp, List.drop_left]
theorem body_text (neg : Bool) (u : Nat) (h : u ≤ 9223372036854775808) : timeBody neg (textU u) = timeFin neg u := by
  have hw := dec_isD (u / 1000000000)
  have hwl : (Lib.decDigits (u / 1000000000)).length ≤ 19 := by
    rw [Lib.decDigits_length]
    by_cases h9 : u / 1000000000 < 10
    · rw [Lib.nDigits_small h9]; omega
    · have hlt : Lib.nDigits (u / 1000000000) ≤ 20 := Lib.nDigits_le20 _ (by omega)
      have h10 : ¬ Lib.nDigits (u / 1000000000) = 20 := by
        intro h20
        have h21 : ∀ k v : Nat, Lib.nDigits v = k + 1 → v ≠ 0 → 10 ^ k ≤ v := by
          intro k
          induction k with
          | zero => intro v _ hv; simp; omega
          | succ k ih =>
            intro v h1 h2
            by_cases hv : v < 10
            · rw [Lib.nDigits_small hv] at h1; omega
            · rw [Lib.nDigits_big hv] at h1
              have := ih (v / 10) (by omega) (by omega)
              rw [Nat.pow_succ]
              omega
        have := h21 19 (u / 1000000000) h20 (by omega)
        omega
      omega
  have hwp : 1 ≤ (Lib.decDigits (u / 1000000000)).length := by rw [Lib.decDigits_length]; exact Lib.nDigits_pos _
  have hwok : wOk (Lib.decDigits (u / 1000000000)) = true := by
    unfold wOk
    rw [decide_eq_true hwp, decide_eq_true hwl, hw]
    rfl
  have hm := Nat.div_add_mod u 1000000000
  unfold timeBody textU
  by_cases h0 : u % 1000000000 = 0
  · rw [if_pos h0, List.append_nil, cut_no 46 _ (no46 _ hw)]
    unfold timeW
    rw [hwok]
    simp only [Bool.not_false, Bool.true_or, Bool.and_self, if_true]
    rw [time_split, valF_dec, show valF 0 (pad9 []) = 0 by decide]
    congr 1
    omega
  · rw [if_neg h0]
    have hlt := Nat.mod_lt u (show 0 < 1000000000 by decide)
    obtain ⟨t1, t2, t3, t4⟩ := trim_nine (u % 1000000000) hlt h0
    rw [cut_at 46 _ _ (no46 _ hw)]
    have hfok : fOk (Lib.trimRightB (nine (u % 1000000000)) 48) = true := by
      unfold fOk
      rw [decide_eq_true t1, decide_eq_true (show (Lib.trimRightB (nine (u % 1000000000)) 48).length ≤ 30 by omega), t3]
      rfl
    unfold timeW
    rw [hwok, hfok]
    simp only [Bool.or_true, Bool.and_self, if_true]
    rw [time_split, valF_dec, t4, (nine_facts _ hlt).2.2]
    congr 1
    omega
theorem dec_head (u : Nat) : ∃ c r, Lib.decDigits u = c :: r ∧ isD c = true := by
  have h1 := dec_isD u
  have h2 := Lib.decDigits_length u
  have h3 := Lib.nDigits_pos u
  cases h : Lib.decDigits u with
  | nil => rw [h] at h2; simp at h2; omega
  | cons c r =>
    rw [h, List.all_cons, Bool.and_eq_true] at h1
    exact ⟨c, r, rfl, h1.1⟩
/-- A time's text is that time. -/
theorem time_text (n : Int) (h0 : -9223372036854775808 ≤ n) (h1 : n ≤ 9223372036854775807) : timeOf (textOf n) = (n, true) := by
  unfold textOf
  by_cases hn : n < 0
  · rw [if_pos hn]
    unfold timeOf
    simp only [if_true]
    rw [body_text true _ (by omega)]
    unfold timeFin
    rw [if_pos rfl, if_pos (by omega)]
    congr 1
    omega
  · rw [if_neg hn]
    obtain ⟨c, r, hc, hd⟩ := dec_head (n.natAbs / 1000000000)
    have ht : textU n.natAbs = c :: (r ++ (if n.natAbs % 1000000000 = 0 then [] else 46 :: Lib.trimRightB (nine (n.natAbs % 1000000000)) 48)) := by
      unfold textU
      rw [hc, List.cons_append]
    have hne : ¬ c = 45 := by
      intro e
      rw [e] at hd
      revert hd
      decide
    have h2 : timeOf (textU n.natAbs) = timeBody false (textU n.natAbs) := by
      rw [ht]
      unfold timeOf
      simp only [if_neg hne]
    rw [h2, body_text false _ (by omega)]
    unfold timeFin
    rw [if_neg (by decide), if_pos (by omega)]
    congr 1
    omega
end Go.Proofs.YtmmmmalicndkeaaDoor.X
