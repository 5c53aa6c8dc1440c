/- Read and the document's ReadNum answer alike, of any bytes: the plain law of NumReads. -/
import Derived.Test.YtbaonnlpphpakaaDoorX7
import Derived.Test.YtbaonnlpphpakaaDoorX6
import Derived.Test.YtbaonnlpphpakaaDoorTexts
import Derived.Test.YtbaonnlpphpakaaDoorRef16
import Derived.Test.YtbaonnlpphpakaaDoorBack
namespace Go.Proofs.YtbaonnlpphpakaaDoor.X
open Go.RowKit Go.Proofs.YtbaonnlpphpakaaDoorW.PrintWords Go.Proofs.YtbaonnlpphpakaaDoorW.PrintLast Go.Proofs.YtbaonnlpphpakaaDoorW.PrintMore
set_option linter.unusedVariables false
set_option linter.unusedSimpArgs false

theorem bt_nums (p r : List Int) (c : Int) (h0 : 0 ≤ c) (h1 : c < 256) : bt (strOfNums (p ++ c :: r)) (p.length : Int) = c := by
  have hd := strOfNums_data (p ++ c :: r)
  rw [List.map_append, List.map_cons] at hd
  have := bt_app _ _ _ _ hd
  rw [List.length_map] at this
  rw [this, UInt8.toNat_ofNat']
  omega
theorem rn_l0 : ∀ (r p : List Int) (v : Int), IsBytes r → -9223372036854775808 ≤ v → v ≤ 9223372036854775807 → (p ++ r).length ≤ 1000000 →
    Ev (fun k => portmanteauref16_ReadNum.l0 k (strOfNums (p ++ r)) v (p.length : Int)) (complOf v r)
  | [], p, v, hb, h0, h1, hl => by
    refine Ev.step1 fun k => ?_
    simp only [portmanteauref16_ReadNum.l0, strOfNums_size]
    rw [if_neg (by simp)]
    rfl
  | c :: r, p, v, hb, h0, h1, hl => by
    have hc := hb c (by simp)
    have hpl : (p ++ c :: r).length = p.length + (r.length + 1) := by simp
    have hbt := bt_nums p r c hc.1 hc.2
    unfold complOf
    by_cases hv : v > 36028797018963967
    · rw [if_pos hv]
      refine Ev.step1 fun k => ?_
      simp only [portmanteauref16_ReadNum.l0, strOfNums_size]
      rw [if_pos (by omega), if_pos hv]
    · rw [if_neg hv]
      by_cases hv2 : v < -36028797018963968
      · rw [if_pos hv2]
        refine Ev.step1 fun k => ?_
        simp only [portmanteauref16_ReadNum.l0, strOfNums_size]
        rw [if_pos (by omega), if_neg hv, if_pos hv2]
      · rw [if_neg hv2]
        have ih := rn_l0 r (p ++ [c]) (v * 256 + c) (fun x hx => hb x (by simp [hx])) (by omega) (by omega) (by simpa using hl)
        simp only [List.append_assoc, List.singleton_append, List.length_append, List.length_singleton] at ih
        refine Ev.step (fun k => ?_) ih
        simp only [portmanteauref16_ReadNum.l0, strOfNums_size, hbt]
        rw [if_pos (by omega), if_neg hv, if_neg hv2, if_pos (by omega), w64 (x := v * 256) (by omega) (by omega), w64 (x := c) (by omega) (by omega), w64 (by omega) (by omega), or_lo (v * 256) c 256 8 rfl (by decide) (by omega) (by omega) (by omega) hc.1 (by omega) (by omega)]
        congr 1
theorem rn_l3 (n : Int) : ∀ (r p : List Int), IsBytes r → (p ++ r).length ≤ 1000000 → Ev (fun k => portmanteauref16_ReadNum.l3 k (strOfNums (p ++ r)) (p.length : Int) n) (if blank r = true then (n, true) else (0, false))
  | [], p, hb, hl => by
    refine Ev.step1 fun k => ?_
    simp only [portmanteauref16_ReadNum.l3, strOfNums_size]
    rw [if_neg (by simp)]
    rfl
  | c :: r, p, hb, hl => by
    have hc := hb c (by simp)
    have hpl : (p ++ c :: r).length = p.length + (r.length + 1) := by simp
    have hbt := bt_nums p r c hc.1 hc.2
    have ih := rn_l3 n r (p ++ [c]) (fun x hx => hb x (by simp [hx])) (by simpa using hl)
    simp only [List.append_assoc, List.singleton_append, List.length_append, List.length_singleton] at ih
    by_cases h32 : c = 32
    · refine Ev.step (fun k => ?_) (ev_eq ih (by simp [blank, h32]))
      simp only [portmanteauref16_ReadNum.l3, strOfNums_size, hbt]
      rw [if_pos (by omega), if_pos (by omega), if_pos h32, w64 (by omega) (by omega)]
      congr 1
    · by_cases h0 : c = 0
      · refine Ev.step (fun k => ?_) (ev_eq ih (by simp [blank, h0]))
        simp only [portmanteauref16_ReadNum.l3, strOfNums_size, hbt]
        rw [if_pos (by omega), if_pos (by omega), if_neg h32, if_pos h0, w64 (by omega) (by omega)]
        congr 1
      · refine Ev.step1 fun k => ?_
        simp only [portmanteauref16_ReadNum.l3, strOfNums_size, hbt]
        rw [if_pos (by omega), if_pos (by omega), if_neg h32, if_neg h0]
        simp [blank, h0, h32]
def octTail (v : Int) (l : List Int) : Int × Bool := match octOf v l with
  | none => (0, false)
  | some (n, rest) => if blank rest = true then (n, true) else (0, false)
theorem rn_l2 : ∀ (r p : List Int) (v : Int), IsBytes r → 0 ≤ v → v ≤ 9223372036854775807 → (p ++ r).length ≤ 1000000 →
    Ev (fun k => portmanteauref16_ReadNum.l2 k (strOfNums (p ++ r)) (p.length : Int) v) (octTail v r)
  | [], p, v, hb, h0, h1, hl => by
    refine Ev.step (f := fun k => portmanteauref16_ReadNum.j7 k (strOfNums (p ++ [])) (p.length : Int) v false) (fun k => ?_) ?_
    · simp only [portmanteauref16_ReadNum.l2, strOfNums_size]
      rw [if_neg (by simp)]
    · refine Ev.succ ?_
      simp only [portmanteauref16_ReadNum.j7, Bool.false_eq_true, if_false]
      exact rn_l3 v [] p hb hl
  | c :: r, p, v, hb, h0, h1, hl => by
    have hc := hb c (by simp)
    have hpl : (p ++ c :: r).length = p.length + (r.length + 1) := by simp
    have hbt := bt_nums p r c hc.1 hc.2
    by_cases hd : 48 ≤ c ∧ c < 56
    · refine Ev.step (f := fun k => portmanteauref16_ReadNum.j7 k (strOfNums (p ++ c :: r)) (p.length : Int) v true) (fun k => ?_) ?_
      · simp only [portmanteauref16_ReadNum.l2, strOfNums_size, hbt]
        rw [if_pos (by omega), if_pos (by omega), if_pos (by omega), decide_eq_true (by omega)]
      · by_cases hv : v > 1152921504606846975
        · refine Ev.step1 fun k => ?_
          simp only [portmanteauref16_ReadNum.j7, if_true]
          rw [if_pos hv]
          unfold octTail octOf
          rw [if_pos hd, if_pos hv]
        · have ih := rn_l2 r (p ++ [c]) (v * 8 + (c - 48)) (fun x hx => hb x (by simp [hx])) (by omega) (by omega) (by simpa using hl)
          simp only [List.append_assoc, List.singleton_append, List.length_append, List.length_singleton] at ih
          refine Ev.step (fun k => ?_) (ev_eq ih ?_)
          · simp only [portmanteauref16_ReadNum.j7, if_true, strOfNums_size, hbt]
            rw [if_neg hv, if_pos (by omega), if_pos (by omega), w64 (x := (p.length : Int) + 1) (by omega) (by omega), w64 (by omega) (by omega), show (c - 48) % 256 = c - 48 by omega, or_lo (v * 8) (c - 48) 8 3 rfl (by decide) (by omega) (by omega) (by omega) (by omega) (by omega) (by omega)]
            congr 1
          · unfold octTail
            conv => rhs; unfold octOf
            rw [if_pos hd, if_neg hv]
    · refine Ev.step (f := fun k => portmanteauref16_ReadNum.j7 k (strOfNums (p ++ c :: r)) (p.length : Int) v false) (fun k => ?_) ?_
      · simp only [portmanteauref16_ReadNum.l2, strOfNums_size, hbt]
        rw [if_pos (by omega), if_pos (by omega)]
        by_cases h48 : c ≥ 48
        · rw [if_pos h48, decide_eq_false (by omega)]
        · rw [if_neg h48]
      · refine Ev.succ ?_
        simp only [portmanteauref16_ReadNum.j7, Bool.false_eq_true, if_false]
        refine ev_eq (rn_l3 v (c :: r) p hb hl) ?_
        unfold octTail octOf
        rw [if_neg hd]
theorem rn_l1 : ∀ (r p : List Int), IsBytes r → (p ++ r).length ≤ 1000000 →
    Ev (fun k => portmanteauref16_ReadNum.l1 k (strOfNums (p ++ r)) (p.length : Int) 0) (octRead (r.dropWhile fun c => decide (c = 32)))
  | [], p, hb, hl => by
    refine Ev.step (f := fun k => portmanteauref16_ReadNum.j5 k (strOfNums (p ++ [])) (p.length : Int) 0) (fun k => ?_) ?_
    · simp only [portmanteauref16_ReadNum.l1, strOfNums_size]
      rw [if_neg (by simp)]
    · refine Ev.succ ?_
      simp only [portmanteauref16_ReadNum.j5]
      exact rn_l2 [] p 0 hb (by decide) (by decide) hl
  | c :: r, p, hb, hl => by
    have hc := hb c (by simp)
    have hpl : (p ++ c :: r).length = p.length + (r.length + 1) := by simp
    have hbt := bt_nums p r c hc.1 hc.2
    by_cases h : c = 32
    · have ih := rn_l1 r (p ++ [c]) (fun x hx => hb x (by simp [hx])) (by simpa using hl)
      simp only [List.append_assoc, List.singleton_append, List.length_append, List.length_singleton] at ih
      refine Ev.step (fun k => ?_) (ev_eq ih (by simp [List.dropWhile_cons, h]))
      simp only [portmanteauref16_ReadNum.l1, strOfNums_size, hbt]
      rw [if_pos (by omega), if_pos (by omega), if_pos h, w64 (by omega) (by omega)]
      congr 1
    · refine Ev.step (f := fun k => portmanteauref16_ReadNum.j5 k (strOfNums (p ++ c :: r)) (p.length : Int) 0) (fun k => ?_) ?_
      · simp only [portmanteauref16_ReadNum.l1, strOfNums_size, hbt]
        rw [if_pos (by omega), if_pos (by omega), if_neg h]
      · refine Ev.succ ?_
        simp only [portmanteauref16_ReadNum.j5]
        refine ev_eq (rn_l2 (c :: r) p 0 hb (by decide) (by decide) hl) ?_
        rw [List.dropWhile_cons, if_neg (by simpa using h)]
        rfl
theorem readnum_ev (l : List Int) (hb : IsBytes l) : Ev (fun k => portmanteauref16_ReadNum.f k (strOfNums l)) (readOf l) := by
  cases l with
  | nil =>
    unfold portmanteauref16_ReadNum.f
    have e : (strOfNums []).toList = ([] : List UInt8) := by rw [ba_toList, strOfNums_data]; rfl
    simp only [e, if_true]
    refine Ev.step1 fun k => ?_
    simp only [portmanteauref16_ReadNum.j0, if_true]
    rfl
  | cons c r =>
    have hc := hb c (by simp)
    have hbt : bt (strOfNums (c :: r)) 0 = c := bt_nums [] r c hc.1 hc.2
    have hne : ¬ ((strOfNums (c :: r)).toList = ([] : List UInt8)) := by rw [ba_toList, strOfNums_data]; simp
    have hz : (strOfNums (c :: r)).size = r.length + 1 := by rw [strOfNums_size]; rfl
    have hs : (0 : Int) < ((strOfNums (c :: r)).size : Int) := by omega
    unfold portmanteauref16_ReadNum.f
    simp only [hne, if_false, readOf]
    by_cases h12 : 12 ≤ r.length
    · rw [if_pos h12, decide_eq_true (by omega)]
      refine Ev.step1 fun k => ?_
      simp only [portmanteauref16_ReadNum.j0, if_true]
    rw [if_neg h12, decide_eq_false (by omega)]
    refine Ev.succ ?_
    simp only [portmanteauref16_ReadNum.j0, Bool.false_eq_true, if_false, hs, if_true, hbt]
    have hbr : IsBytes r := fun x hx => hb x (by simp [hx])
    have hlr : ([c] ++ r).length ≤ 1000000 := by simp; omega
    by_cases h128 : c = 128
    · have h255 : ¬ c = 255 := by omega
      simp only [h128, if_true]
      rw [← h128]
      refine Ev.succ ?_
      simp only [portmanteauref16_ReadNum.j1, if_true, hs, hbt, h255, if_false]
      refine Ev.succ ?_
      simp only [portmanteauref16_ReadNum.j2]
      exact rn_l0 r [c] 0 hbr (by decide) (by decide) hlr
    simp only [h128, if_false]
    by_cases h255 : c = 255
    · subst h255
      have e : ((255 : Int) == 255) = true := rfl
      simp only [e, if_true]
      refine Ev.succ ?_
      simp only [portmanteauref16_ReadNum.j1, if_true, hs, hbt]
      refine Ev.succ ?_
      simp only [portmanteauref16_ReadNum.j2]
      exact rn_l0 r [255] (-1) hbr (by decide) (by decide) hlr
    have e : (c == 255) = false := by rw [beq_eq_false_iff_ne]; exact h255
    rw [e]
    simp only [h255, if_false]
    refine Ev.succ ?_
    simp only [portmanteauref16_ReadNum.j1, Bool.false_eq_true, if_false]
    exact rn_l1 (c :: r) [] hb (by simp; omega)
theorem compl_zero : ∀ (r : List Int) (v : Int), (complOf v r).2 = false → (complOf v r).1 = 0
  | [], v, h => by cases h
  | c :: r, v, h => by
    unfold complOf at h ⊢
    split
    · rfl
    · rename_i h1
      rw [if_neg h1] at h
      split
      · rfl
      · rename_i h2
        rw [if_neg h2] at h
        exact compl_zero r _ h
theorem octRead_zero (l : List Int) (h : (octRead l).2 = false) : (octRead l).1 = 0 := by
  unfold octRead at h ⊢
  split
  · rfl
  · rename_i n rest hq
    rw [hq] at h
    simp only at h
    split
    · rename_i hb
      rw [if_pos hb] at h
      cases h
    · rfl
theorem readOf_zero (l : List Int) (h : (readOf l).2 = false) : (readOf l).1 = 0 := by
  unfold readOf at h ⊢
  cases l with
  | nil => rfl
  | cons c r =>
    simp only at h ⊢
    by_cases h12 : 12 ≤ r.length
    · rw [if_pos h12]
    rw [if_neg h12] at h ⊢
    by_cases h128 : c = 128
    · rw [if_pos h128] at h ⊢
      exact compl_zero r 0 h
    rw [if_neg h128] at h ⊢
    by_cases h255 : c = 255
    · rw [if_pos h255] at h ⊢
      exact compl_zero r (-1) h
    rw [if_neg h255] at h ⊢
    exact octRead_zero _ h
theorem reads_round (b c d : List Int) (i : Nat) (x : List Int) (hi : i < 3) (hx : rd_L4 [b, c, d] (i : Int) = x) (hb : IsBytes x) (hz : x.length ≤ 140737488355328) (h : Ev (fun k => portmanteaulaw16_NumReads.l1 k b c d ((i + 1 : Nat) : Int)) true) :
    Ev (fun k => portmanteaulaw16_NumReads.l1 k b c d (i : Int)) true := by
  refine Ev.succ ?_
  have h1 : (i : Int) < 3 := by omega
  have h2 : (0 : Int) ≤ (i : Int) := by omega
  have h3 : (i : Int) < (([b, c, d] : List (List Int)).length : Int) := by simp; omega
  have h4 : wrap64 ((i : Int) + 1) = ((i + 1 : Nat) : Int) := by rw [w64 (by omega) (by omega)]; rfl
  simp only [portmanteaulaw16_NumReads.l1, h1, h2, h3, h4, if_true, Option.bind_some, hx]
  refine Ev.bind (read_ev x hb hz) (Ev.bind (readnum_ev x hb) ?_)
  have h5 : ((readOf x).2 != (readOf x).2) = false := by simp
  simp only [h5, Bool.false_eq_true, if_false]
  cases hq : (readOf x).2
  · have h6 := readOf_zero x hq
    simp only [h6, Bool.false_eq_true, if_false, if_true]
    exact h
  · simp only [if_true]
    exact h
theorem reads_j2 (b c d : List Int) (hb : IsBytes b) (hc : IsBytes c) (hd : IsBytes d) (zb : b.length ≤ 140737488355328) (zc : c.length ≤ 140737488355328) (zd : d.length ≤ 140737488355328) :
    Ev (fun k => portmanteaulaw16_NumReads.j2 k b c d) true := by
  refine Ev.succ ?_
  simp only [portmanteaulaw16_NumReads.j2]
  refine reads_round b c d 0 b (by decide) rfl hb zb ?_
  refine reads_round b c d 1 c (by decide) rfl hc zc ?_
  refine reads_round b c d 2 d (by decide) rfl hd zd ?_
  refine Ev.succ ?_
  have e0 : ¬ (((2 + 1 : Nat) : Int) < 3) := by decide
  simp only [portmanteaulaw16_NumReads.l1, e0, if_false]
  exact Ev.bind awake16 (Ev.now _)
theorem isBytes_of (s : ByteArray) : IsBytes (bytesOf s) := by
  intro x hx
  unfold bytesOf at hx
  obtain ⟨c, _, rfl⟩ := List.mem_map.1 hx
  have := c.toNat_lt
  omega
theorem len_of (s : ByteArray) : (bytesOf s).length = s.size := by
  unfold bytesOf
  rw [List.length_map, Array.length_toList]
  rfl
theorem xor_byte (x y : Int) : 0 ≤ bits .xor .u8 x y ∧ bits .xor .u8 x y < 256 := by
  unfold bits
  simp only
  rw [IntKind.wrap_u8]
  omega
theorem isBytes_set (l : List Int) (i : Nat) (x : Int) (h : IsBytes l) (hx : 0 ≤ x ∧ x < 256) : IsBytes (l.set i x) := by
  intro y hy
  rcases List.mem_or_eq_of_mem_set hy with h1 | h1
  · exact h y h1
  · rw [h1]; exact hx
theorem reads_j1 (b c : List Int) (n a y : Int) (h0 : -9223372036854775808 ≤ n) (h1 : n ≤ 9223372036854775807) (hb : IsBytes b) (hc : IsBytes c) (zb : b.length ≤ 140737488355328) (zc : c.length ≤ 140737488355328) :
    Ev (fun k => portmanteaulaw16_NumReads.j1 k b n a y c) true := by
  refine Ev.succ ?_
  simp only [portmanteaulaw16_NumReads.j1]
  refine Ev.bind (rwide_ev (n / 256) 12 (by omega) (by omega)) ?_
  have hz : (rwideOf (n / 256) 12).1.size ≤ 140737488355328 := by
    unfold rwideOf
    split
    · decide
    · split
      · simp only [strOfNums_size, List.length_cons, wideL_len]; decide
      · simp only [strOfNums_size, List.length_cons, wideL_len]; decide
  have hs : conv_S.f (rwideOf (n / 256) 12).1 = some (bytesOf (rwideOf (n / 256) 12).1) := by unfold conv_S.f; rw [if_pos hz]
  rw [hs]
  simp only [Option.bind_some]
  have hd := isBytes_of (rwideOf (n / 256) 12).1
  have zd : (bytesOf (rwideOf (n / 256) 12).1).length ≤ 140737488355328 := by rw [len_of]; exact hz
  generalize bytesOf (rwideOf (n / 256) 12).1 = d at hd zd
  by_cases hp : (d.length : Int) > 0
  · rw [and255]
    have hm0 : 0 ≤ a % 256 := Int.emod_nonneg _ (by decide)
    have ht0 : 0 ≤ Int.tmod (a % 256) (d.length : Int) := Int.tmod_nonneg _ hm0
    have ht1 : Int.tmod (a % 256) (d.length : Int) < (d.length : Int) := Int.tmod_lt_of_pos _ hp
    have hb0 : ¬ (d.length : Int) = 0 := by omega
    simp only [hp, hb0, ht0, ht1, if_true, if_false]
    exact reads_j2 b c _ hb hc (isBytes_set d _ _ hd (xor_byte _ _)) zb zc (by rw [List.length_set]; exact zd)
  · simp only [hp, if_false]
    exact reads_j2 b c d hb hc hd zb zc zd
theorem reads_l0 (b q : List Int) (n a y : Int) (h0 : -9223372036854775808 ≤ n) (h1 : n ≤ 9223372036854775807) (hb : IsBytes b) (zb : b.length ≤ 140737488355328) : ∀ (m i : Nat) (c : List Int), i + m = 12 → IsBytes c → c.length = i →
    Ev (fun k => portmanteaulaw16_NumReads.l0 k b q n a y c (i : Int)) true
  | 0, i, c, hi, hc, hz => by
    refine Ev.succ ?_
    have e1 : ¬ (i : Int) < 12 := by omega
    simp only [portmanteaulaw16_NumReads.l0, e1, if_false]
    by_cases hq : (i : Int) < (q.length : Int)
    · simp only [hq, if_true]
      exact reads_j1 b c n a y h0 h1 hb hc zb (by omega)
    · simp only [hq, if_false]
      exact reads_j1 b c n a y h0 h1 hb hc zb (by omega)
  | m + 1, i, c, hi, hc, hz => by
    refine Ev.succ ?_
    have e1 : (i : Int) < 12 := by omega
    have e2 : (0 : Int) ≤ (i : Int) := by omega
    have e3 : c.length < 140737488355328 := by omega
    have e4 : wrap64 ((i : Int) + 1) = ((i + 1 : Nat) : Int) := by rw [w64 (by omega) (by omega)]; rfl
    simp only [portmanteaulaw16_NumReads.l0, e1, e2, e3, e4, if_true]
    by_cases hq : (i : Int) < (q.length : Int)
    · rw [and255]
      have hm0 : 0 ≤ rd q (i : Int) % 256 := Int.emod_nonneg _ (by decide)
      have ht0 : 0 ≤ Int.tmod (rd q (i : Int) % 256) 12 := Int.tmod_nonneg _ hm0
      have ht1 : Int.tmod (rd q (i : Int) % 256) 12 < 12 := Int.tmod_lt_of_pos _ (by decide)
      simp only [hq, ht0, ht1, if_true]
      refine reads_l0 b q n a y h0 h1 hb zb m (i + 1) _ (by omega) ?_ (by simp [hz])
      intro x hx
      rcases List.mem_append.1 hx with h | h
      · exact hc x h
      · rw [List.mem_singleton.1 h]
        have := bt_range (⟨#[32, 48, 49, 50, 51, 52, 53, 54, 55, 0, 32, 57]⟩ : ByteArray) (Int.tmod (rd q (i : Int) % 256) 12)
        omega
    · simp only [hq, if_false]
      exact reads_j1 b c n a y h0 h1 hb hc zb (by omega)
theorem NumReads : portmanteaulaw16_NumReads.Pure := by
  intro b q n a y z1 z2 wb _ _ _ wn wa wy
  obtain ⟨n0, n1⟩ := i64_wf wn
  refine Ev.rounds ?_
  unfold portmanteaulaw16_NumReads.f
  by_cases h40 : (b.length : Int) > 40
  · simp only [h40, if_true]
    exact Ev.bind awake16 (Ev.now _)
  simp only [h40, if_false]
  have hb : IsBytes b := fun x hx => by
    have := u8_wf (wb x hx)
    omega
  exact reads_l0 b q n a y n0 n1 hb (by omega) 12 0 [] rfl (fun x hx => by cases hx) rfl
end Go.Proofs.YtbaonnlpphpakaaDoor.X
