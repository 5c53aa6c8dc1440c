/- Blanks ahead, and blanks and noughts behind, change no number: the plain law of NumBlanks. -/
import Derived.Test.YtbaonnlpphpakaaDoorX5
import Derived.Test.YtbaonnlpphpakaaDoorRef16
import Derived.Test.YtbaonnlpphpakaaDoorBack
namespace Go.Proofs.YtbaonnlpphpakaaDoor.X
open Go.RowKit Go.Proofs.YtbaonnlpphpakaaDoorW.PrintWords Go.Proofs.YtbaonnlpphpakaaDoorW.PrintLast Go.Proofs.YtbaonnlpphpakaaDoorW.PrintMore
set_option linter.unusedVariables false
set_option linter.unusedSimpArgs false

theorem bytes_nums (l : List Int) (h : IsBytes l) : bytesOf (strOfNums l) = l := by
  unfold bytesOf
  rw [strOfNums_data, List.map_map]
  conv => rhs; rw [← List.map_id l]
  apply List.map_congr_left
  intro x hx
  have := h x hx
  simp only [Function.comp, id]
  rw [UInt8.toNat_ofNat']
  omega
theorem conv_S_nums (l : List Int) (h : IsBytes l) (hl : l.length ≤ 140737488355328) : conv_S.f (strOfNums l) = some l := by
  unfold conv_S.f
  rw [strOfNums_size, if_pos hl, bytes_nums l h]
theorem drop_blanks (l : List Int) : ∀ a : Nat, (List.replicate a (32 : Int) ++ l).dropWhile (fun c => decide (c = 32)) = l.dropWhile (fun c => decide (c = 32))
  | 0 => rfl
  | a + 1 => by rw [List.replicate_succ, List.cons_append, List.dropWhile_cons, if_pos (by simp), drop_blanks l a]
theorem readOf_blanks (a m n : Nat) (hm : 1 ≤ m) (t : List Int) (hl : a + m + t.length ≤ 12) (hn : n < 8 ^ m) (hb : n ≤ 9223372036854775807) (ht : ∀ c r, t = c :: r → c < 48) :
    readOf (List.replicate a 32 ++ (octL m n ++ t)) = if blank t = true then ((n : Int), true) else (0, false) := by
  have ho := octOf_octL m n 0 t (by decide) hn (by simp; omega)
  have hstop : octOf (0 * ((8 ^ m : Nat) : Int) + (n : Int)) t = some ((n : Int), t) := by
    rw [Int.zero_mul, Int.zero_add]
    cases t with
    | nil => rfl
    | cons c r =>
      unfold octOf
      have := ht c r rfl
      rw [if_neg (by omega)]
  rw [hstop] at ho
  have hlen := octL_len m n
  have hd := octL_digit m n
  have hoct : octRead ((List.replicate a 32 ++ (octL m n ++ t)).dropWhile fun c => decide (c = 32)) = if blank t = true then ((n : Int), true) else (0, false) := by
    rw [drop_blanks]
    have : (octL m n ++ t).dropWhile (fun c => decide (c = 32)) = octL m n ++ t := by
      generalize octL m n = l at hlen hd
      cases l with
      | nil => simp at hlen; omega
      | cons c r => rw [List.cons_append, List.dropWhile_cons, if_neg (by have := hd c (by simp); simp; omega)]
    rw [this]
    unfold octRead
    rw [ho]
  have hall : (List.replicate a 32 ++ (octL m n ++ t)).length ≤ 12 := by simp [hlen]; omega
  generalize hL : List.replicate a 32 ++ (octL m n ++ t) = L at hoct hall ⊢
  have hhead : ∀ c r, L = c :: r → c ≠ 128 ∧ c ≠ 255 := by
    intro c r h
    rw [← hL] at h
    cases a with
    | succ a =>
      rw [List.replicate_succ, List.cons_append] at h
      injection h with h1 _
      omega
    | zero =>
      simp only [List.replicate_zero, List.nil_append] at h
      have hm : c ∈ octL m n := by
        generalize octL m n = l at hlen h
        cases l with
        | nil => simp at hlen; omega
        | cons c' r' => rw [List.cons_append] at h; injection h with h1 _; simp [h1]
      have := hd c hm
      omega
  cases L with
  | nil =>
    have := congrArg List.length hL
    simp [hlen] at this
    omega
  | cons c r =>
    obtain ⟨h1, h2⟩ := hhead c r rfl
    simp only [readOf]
    rw [if_neg (by simp at hall; omega), if_neg h1, if_neg h2]
    exact hoct
theorem blanks_round (n : Nat) (c : Int) (s : ByteArray) (i : Nat) (hi : i ≤ 4) (hs : s.size ≤ 1000) (k : Nat) :
    portmanteaulaw16_NumBlanks.l0 (k + 1) (n : Int) c s (i : Int) = portmanteaulaw16_NumBlanks.l0 k (n : Int) c (s ++ strOfNums [48 + ((n / 8 ^ i % 8 : Nat) : Int)]) ((i : Int) - 1) := by
  have hd : n / 8 ^ i % 8 < 8 := Nat.mod_lt _ (by decide)
  have e3 : wrap64 (3 * (i : Int)) = ((3 * i : Nat) : Int) := by rw [w64 (by omega) (by omega)]; omega
  have e4 : shr .i64 (n : Int) ((3 * i : Nat) : Int) = ((n / 8 ^ i : Nat) : Int) := by
    unfold shr
    rw [Int.toNat_natCast, Nat.min_eq_left (show 3 * i ≤ IntKind.i64.bits from Nat.le_trans (show 3 * i ≤ 12 by omega) (by decide)), Int.natCast_ediv, show (8 : Nat) ^ i = 2 ^ (3 * i) by rw [Nat.pow_mul]]
    simp
  have e5 : bits .and .i64 ((n / 8 ^ i : Nat) : Int) 7 = ((n / 8 ^ i % 8 : Nat) : Int) := by rw [and7]; rfl
  rw [portmanteaulaw16_NumBlanks.l0, e3, e4, e5, w64 (by omega) (by omega), w64 (by omega) (by omega)]
  have e1 : (((n / 8 ^ i % 8 : Nat) : Int)).toNat = n / 8 ^ i % 8 := by omega
  have e2 : (((n / 8 ^ i % 8 : Nat) : Int) + 1).toNat = n / 8 ^ i % 8 + 1 := by omega
  rw [e1, e2, oct_digit _ hd, if_pos (by omega), if_pos (by omega), if_pos (by omega), if_pos (by omega), if_pos (by omega), if_pos (by rw [strOfNums_size]; simp; omega)]
theorem octL5 (n : Nat) : octL 5 n = [48 + ((n / 8 ^ 4 % 8 : Nat) : Int), 48 + ((n / 8 ^ 3 % 8 : Nat) : Int), 48 + ((n / 8 ^ 2 % 8 : Nat) : Int), 48 + ((n / 8 ^ 1 % 8 : Nat) : Int), 48 + ((n / 8 ^ 0 % 8 : Nat) : Int)] := by
  simp [octL, Nat.div_div_eq_div_mul]
theorem blanks_str (a : Nat) (h : a ≤ 3) : (⟨#[32, 32, 32]⟩ : ByteArray).extract 0 a = strOfNums (List.replicate a 32) := by
  have : ∀ a : Fin 4, (⟨#[32, 32, 32]⟩ : ByteArray).extract 0 a.val = strOfNums (List.replicate a.val 32) := by decide +kernel
  exact this ⟨a, by omega⟩
theorem blanks_all (n : Nat) (c : Int) (s : ByteArray) (hs : s.size ≤ 900) (h : Ev (fun k => portmanteaulaw16_NumBlanks.l0 k (n : Int) c (s ++ strOfNums (octL 5 n)) (-1)) true) :
    Ev (fun k => portmanteaulaw16_NumBlanks.l0 k (n : Int) c s 4) true := by
  have z1 : ∀ x : Int, (strOfNums [x]).size = 1 := fun x => by rw [strOfNums_size]; rfl
  refine Ev.step (f := fun k => portmanteaulaw16_NumBlanks.l0 k (n : Int) c _ 3) (fun k => blanks_round n c s 4 (by decide) (by omega) k) ?_
  refine Ev.step (f := fun k => portmanteaulaw16_NumBlanks.l0 k (n : Int) c _ 2) (fun k => blanks_round n c _ 3 (by decide) (by simp only [ByteArray.size_append, z1]; omega) k) ?_
  refine Ev.step (f := fun k => portmanteaulaw16_NumBlanks.l0 k (n : Int) c _ 1) (fun k => blanks_round n c _ 2 (by decide) (by simp only [ByteArray.size_append, z1]; omega) k) ?_
  refine Ev.step (f := fun k => portmanteaulaw16_NumBlanks.l0 k (n : Int) c _ 0) (fun k => blanks_round n c _ 1 (by decide) (by simp only [ByteArray.size_append, z1]; omega) k) ?_
  refine Ev.step (f := fun k => portmanteaulaw16_NumBlanks.l0 k (n : Int) c _ (-1)) (fun k => blanks_round n c _ 0 (by decide) (by simp only [ByteArray.size_append, z1]; omega) k) ?_
  rw [octL5] at h
  simp only [ba_assoc, str_append, List.cons_append, List.nil_append]
  exact h
theorem NumBlanks : portmanteaulaw16_NumBlanks.Pure := by
  intro a0 a1 c wf1 wf2 wf3
  have hc := u8_wf wf3
  refine Ev.rounds ?_
  unfold portmanteaulaw16_NumBlanks.f
  rw [and15b, and3]
  have h1 := Int.emod_nonneg a0 (show (32768 : Int) ≠ 0 by decide)
  have h2 := Int.emod_lt_of_pos a0 (show (0 : Int) < 32768 by decide)
  have h3 := Int.emod_nonneg a1 (show (4 : Int) ≠ 0 by decide)
  have h4 := Int.emod_lt_of_pos a1 (show (0 : Int) < 4 by decide)
  obtain ⟨n, hn⟩ : ∃ n : Nat, a0 % 32768 = n := ⟨(a0 % 32768).toNat, by omega⟩
  obtain ⟨a, ha⟩ : ∃ a : Nat, a1 % 4 = a := ⟨(a1 % 4).toNat, by omega⟩
  rw [hn, ha, Int.toNat_natCast, blanks_str a (by omega)]
  have g1 : (0 : Int) ≤ (a : Int) := by omega
  have g2 : (a : Int) ≤ 3 := by omega
  simp only [g1, g2, if_true]
  have hB : IsBytes (List.replicate a (32 : Int)) := by
    intro x hx
    have := List.eq_of_mem_replicate hx
    omega
  have hO : IsBytes (octL 5 n) := fun x hx => by have := octL_digit 5 n x hx; omega
  have hlt : n < 8 ^ 5 := by have : (8 : Nat) ^ 5 = 32768 := rfl; omega
  refine blanks_all n c _ (by rw [strOfNums_size]; simp; omega) ?_
  rw [str_append]
  have hO5 := octL_len 5 n
  have hsz : (strOfNums (List.replicate a (32 : Int) ++ octL 5 n)).size ≤ 8 := by rw [strOfNums_size]; simp [hO5]; omega
  have hBO : ∀ t : List Int, IsBytes t → IsBytes (List.replicate a (32 : Int) ++ (octL 5 n ++ t)) := by
    intro t ht x hx
    simp only [List.mem_append] at hx
    rcases hx with hx | hx | hx
    · exact hB x hx
    · exact hO x hx
    · exact ht x hx
  have hlen : ∀ t : List Int, (List.replicate a (32 : Int) ++ (octL 5 n ++ t)).length = a + (5 + t.length) := by intro t; simp [hO5]
  have c1 : conv_S.f (strOfNums (List.replicate a (32 : Int) ++ octL 5 n) ++ (⟨#[32, 0, 32]⟩ : ByteArray)) = some (List.replicate a 32 ++ (octL 5 n ++ [32, 0, 32])) := by
    rw [show (⟨#[32, 0, 32]⟩ : ByteArray) = strOfNums [32, 0, 32] by rfl, str_append, List.append_assoc]
    exact conv_S_nums _ (hBO _ (by intro x hx; simp at hx; omega)) (by rw [hlen]; simp; omega)
  have c2 : conv_S.f ((strOfNums (List.replicate a (32 : Int) ++ octL 5 n) ++ (⟨#[32]⟩ : ByteArray)) ++ strOfNums [c]) = some (List.replicate a 32 ++ (octL 5 n ++ [32, c])) := by
    rw [show (⟨#[32]⟩ : ByteArray) = strOfNums [32] by rfl, str_append, str_append, List.append_assoc, List.append_assoc]
    exact conv_S_nums _ (hBO _ (by intro x hx; simp at hx; omega)) (by rw [hlen]; simp; omega)
  have r1 := read_ev (List.replicate a 32 ++ (octL 5 n ++ [32, 0, 32])) (hBO _ (by intro x hx; simp at hx; omega)) (by rw [hlen]; simp; omega)
  have r2 := read_ev (List.replicate a 32 ++ (octL 5 n ++ [32, c])) (hBO _ (by intro x hx; simp at hx; omega)) (by rw [hlen]; simp; omega)
  have r3 := read_ev [32, 0] (by intro x hx; simp at hx; omega) (by decide)
  rw [readOf_blanks a 5 n (by decide) _ (by simp; omega) hlt (by omega) (by intro c r h; injection h with h _; omega), show blank [32, 0, 32] = true by decide, if_pos rfl] at r1
  rw [readOf_blanks a 5 n (by decide) _ (by simp; omega) hlt (by omega) (by intro c r h; injection h with h _; omega)] at r2
  rw [show readOf [32, 0] = (0, true) by decide +kernel] at r3
  have e1 : (strOfNums [c]).size = 1 := by rw [strOfNums_size]; rfl
  have t1 : (strOfNums (List.replicate a (32 : Int) ++ octL 5 n)).size + 3 ≤ 9223372036854775807 := by omega
  have t2 : (strOfNums (List.replicate a (32 : Int) ++ octL 5 n)).size + 1 ≤ 9223372036854775807 := by omega
  have t3 : (strOfNums (List.replicate a (32 : Int) ++ octL 5 n) ++ (⟨#[32]⟩ : ByteArray)).size + (strOfNums [c]).size ≤ 9223372036854775807 := by
    rw [ByteArray.size_append, e1, show (⟨#[32]⟩ : ByteArray).size = 1 by rfl]; omega
  refine Ev.succ ?_
  simp only [portmanteaulaw16_NumBlanks.l0, show ¬ ((-1 : Int) ≥ 0) by decide, if_false, t1, t2, t3, if_true, c1, c2, Option.bind_some]
  refine Ev.bind r1 (Ev.bind r2 (Ev.bind r3 ?_))
  simp only [if_true]
  by_cases h32 : c = 32
  · subst h32
    rw [show blank [32, 32] = true by decide]
    simp only [if_true, beq_self_eq_true]
    exact Ev.bind awake16 (Ev.now _)
  · by_cases h0 : c = 0
    · subst h0
      rw [show blank [32, 0] = true by decide]
      simp only [if_true, beq_self_eq_true, show ¬ ((0 : Int) = 32) by decide, if_false]
      exact Ev.bind awake16 (Ev.now _)
    · have hb : blank [32, c] = false := by simp [blank, h32, h0]
      have hb0 : (c == 0) = false := by simpa using h0
      rw [hb]
      simp only [h32, if_false, Bool.false_eq_true, hb0, beq_self_eq_true, if_true]
      exact Ev.bind awake16 (Ev.now _)
end Go.Proofs.YtbaonnlpphpakaaDoor.X
