/- The plain law of pax.Time and pax.TimeText: they answer as the plain words say. -/
import Derived.Test.YtmmmmalicndkeaaDoorX23
import Derived.Test.YtmmmmalicndkeaaDoorX24
import Derived.Test.YtmmmmalicndkeaaDoorPax
import Derived.Test.YtmmmmalicndkeaaDoorTimeMath
namespace Go.Proofs.YtmmmmalicndkeaaDoor.X
open Go.RowKit Go.Proofs.YtmmmmalicndkeaaDoorW.PrintWords Go.Proofs.YtmmmmalicndkeaaDoorW.PrintLast Go.Proofs.YtmmmmalicndkeaaDoorW.PrintMore
set_option linter.unusedVariables false
set_option linter.unusedSimpArgs false

/-- The number of digits, as it is reckoned in 64 bits. -/
def uv (v : Int) (l : List UInt8) : Int := l.foldl (fun a c => IntKind.u64.wrap ((IntKind.u64.wrap (a * 10)) + (((c.toNat : Int) - 48) % 256))) v
theorem uv_cons (v : Int) (c : UInt8) (r : List UInt8) : uv v (c :: r) = uv (IntKind.u64.wrap ((IntKind.u64.wrap (v * 10)) + (((c.toNat : Int) - 48) % 256))) r := by unfold uv; rw [List.foldl_cons]
theorem uv_nil (v : Int) : uv v [] = v := by unfold uv; rw [List.foldl_nil]
theorem uv_step (v d : Nat) (c : UInt8) (hc : c.toNat = 48 + d) (hd : d ≤ 9) (hv : v * 10 + d < 18446744073709551616) : IntKind.u64.wrap ((IntKind.u64.wrap ((v : Int) * 10)) + (((c.toNat : Int) - 48) % 256)) = ((10 * v + d : Nat) : Int) := by
  rw [IntKind.wrap_u64, IntKind.wrap_u64]
  omega
theorem uv_val (l : List UInt8) : ∀ v : Nat, l.all isD = true → (v + 1) * 10 ^ l.length ≤ 10000000000000000000 → uv (v : Int) l = (valF v l : Int) := by
  induction l with
  | nil => intro v _ _; rw [uv_nil, valF_nil]
  | cons c l ih =>
    intro v h hb
    rw [List.all_cons, Bool.and_eq_true] at h
    have h1 := isD_le h.1
    obtain ⟨d, hd⟩ : ∃ d, c.toNat = 48 + d := ⟨c.toNat - 48, by omega⟩
    rw [List.length_cons, Nat.pow_succ] at hb
    have hP : 1 ≤ 10 ^ l.length := Nat.one_le_pow _ _ (by decide)
    have hb2 : (v + 1) * 10 ≤ 10000000000000000000 := by
      refine Nat.le_trans ?_ hb
      rw [Nat.mul_comm (10 ^ l.length) 10, ← Nat.mul_assoc]
      exact Nat.le_mul_of_pos_right _ hP
    have e : c.toNat - 48 = d := by omega
    rw [uv_cons, valF_cons, uv_step v d c hd (by omega) (by omega), e]
    refine ih (10 * v + d) h.2 (Nat.le_trans ?_ hb)
    rw [Nat.mul_comm (10 ^ l.length) 10, ← Nat.mul_assoc]
    exact Nat.mul_le_mul_right _ (by omega)
theorem rd_I (l pre r : List UInt8) (c : UInt8) (h : l = pre ++ c :: r) : rd (I l) (pre.length : Int) = (c.toNat : Int) := by
  unfold rd I
  rw [h]
  simp [List.getD_eq_getElem?_getD]
theorem digits_l0 (l : List UInt8) (hz : l.length ≤ 1000000000000) : ∀ (r pre : List UInt8) (v : Int), l = pre ++ r → Ev (fun k => pax_digits.l0 k v (I l) (l.length : Int) (pre.length : Int)) (if r.all isD = true then (uv v r, true) else (0, false))
  | [], pre, v, e => by
    have hlen : l.length = pre.length := by rw [e]; simp
    refine Ev.succ ?_
    simp only [pax_digits.l0]
    refine Ev.neg (by omega) (ev_eq (Ev.now _) ?_)
    rw [uv_nil]
    rfl
  | c :: r, pre, v, e => by
    have hlen : l.length = pre.length + (r.length + 1) := by rw [e]; simp
    refine Ev.succ ?_
    simp only [pax_digits.l0]
    refine Ev.pos (by omega) (Ev.pos (by omega) ?_)
    rw [I_len]
    refine Ev.pos (by omega) ?_
    rw [rd_I l pre r c e, List.all_cons]
    by_cases h1 : (c.toNat : Int) < 48
    · have hd : isD c = false := by unfold isD; rw [decide_eq_false (show ¬ 48 ≤ c.toNat by omega)]; rfl
      rw [hd]
      exact Ev.pos h1 (Ev.now _)
    · refine Ev.neg h1 ?_
      by_cases h2 : (c.toNat : Int) > 57
      · have hd : isD c = false := by unfold isD; rw [decide_eq_false (show ¬ c.toNat ≤ 57 by omega), Bool.and_false]
        rw [hd]
        exact Ev.pos h2 (Ev.now _)
      · refine Ev.neg h2 ?_
        have hd : isD c = true := by unfold isD; rw [decide_eq_true (show 48 ≤ c.toNat by omega), decide_eq_true (show c.toNat ≤ 57 by omega)]; rfl
        have e2 : wrap64 ((pre.length : Int) + 1) = ((pre ++ [c]).length : Int) := by rw [w64 (by omega) (by omega)]; simp
        rw [hd, Bool.true_and, e2, uv_cons]
        exact digits_l0 l hz r (pre ++ [c]) _ (by rw [e]; simp)
theorem pdigits_ev (a : ByteArray) (most : Int) (hz : a.size ≤ 1000000000000) : Ev (fun k => pax_digits.f k a most) (if (decide (1 ≤ a.data.toList.length) && decide ((a.data.toList.length : Int) ≤ most) && a.data.toList.all isD) = true then (uv 0 a.data.toList, true) else (0, false)) := by
  have hl := ba_len2 a
  have T : Ev (fun k => pax_digits.j0 k a 0 true) ((0 : Int), false) := by
    refine Ev.succ ?_
    simp only [pax_digits.j0]
    exact Ev.pos (by first | trivial | rfl) (Ev.now _)
  unfold pax_digits.f
  by_cases h1 : (a.size : Int) < 1
  · rw [decide_eq_false (show ¬ 1 ≤ a.data.toList.length by omega)]
    exact Ev.pos h1 T
  · refine Ev.neg h1 ?_
    rw [decide_eq_true (show 1 ≤ a.data.toList.length by omega)]
    by_cases h2 : (a.size : Int) > most
    · rw [decide_eq_true h2, decide_eq_false (show ¬ (a.data.toList.length : Int) ≤ most by omega)]
      exact T
    · rw [decide_eq_false h2, decide_eq_true (show (a.data.toList.length : Int) ≤ most by omega)]
      refine Ev.succ ?_
      simp only [pax_digits.j0]
      refine Ev.neg (by decide) ?_
      have hc : conv_S.f a = some (I a.data.toList) := by
        unfold conv_S.f
        rw [if_pos (by omega)]
        rfl
      refine Ev.bind (Ev.const hc) ?_
      rw [I_len]
      exact digits_l0 a.data.toList (by omega) a.data.toList [] 0 rfl
theorem repeat_rep : ∀ n : Nat, Lib.repeatL [48] n = List.replicate n 48
  | 0 => rfl
  | n + 1 => by
    rw [List.replicate_succ, ← repeat_rep n]
    simp [Lib.repeatL]
theorem repeat_some (n : Nat) (h : n ≤ 1000) : strings_Repeat.f (⟨#[48]⟩ : ByteArray) (n : Int) = some (⟨(List.replicate n (48 : UInt8)).toArray⟩ : ByteArray) := by
  unfold strings_Repeat.f
  have z : (⟨#[48]⟩ : ByteArray).size = 1 := rfl
  rw [if_pos (by omega), if_pos (by omega), z, if_pos (by omega)]
  have e : ((n : Int)).toNat = n := by omega
  rw [e, ← repeat_rep n]
theorem ex_drop (a : ByteArray) (n : Nat) : (a.extract n a.size).data.toList = a.data.toList.drop n := by
  rw [ByteArray.data_extract, Array.toList_extract, List.extract_eq_take_drop]
  have := ba_len2 a
  rw [List.take_of_length_le]
  rw [List.length_drop]
  omega
theorem ex_take (a : ByteArray) (n : Nat) : (a.extract 0 n).data.toList = a.data.toList.take n := by
  rw [ByteArray.data_extract, Array.toList_extract, List.extract_eq_take_drop]
  simp
theorem val9 (l : List UInt8) (h : l.all isD = true) (hl : l.length ≤ 19) : uv 0 l = (valF 0 l : Int) := by
  have := uv_val l 0 h (by
    rw [Nat.zero_add, Nat.one_mul]
    exact Nat.le_trans (Nat.pow_le_pow_right (by decide) hl) (by decide))
  exact this
theorem nanos_ev (a : ByteArray) (hz : a.size ≤ 1000000000) : Ev (fun k => pax_nanos.f k a) (if fOk a.data.toList = true then ((valF 0 (pad9 a.data.toList) : Int), true) else (0, false)) := by
  have hl := ba_len2 a
  have T : Ev (fun k => pax_nanos.j0 k a true) ((0 : Int), false) := by
    refine Ev.succ ?_
    simp only [pax_nanos.j0]
    exact Ev.pos (by first | trivial | rfl) (Ev.now _)
  unfold pax_nanos.f fOk
  by_cases h1 : (a.size : Int) < 1
  · rw [decide_eq_false (show ¬ 1 ≤ a.data.toList.length by omega)]
    exact Ev.pos h1 T
  · refine Ev.neg h1 ?_
    rw [decide_eq_true (show 1 ≤ a.data.toList.length by omega)]
    by_cases h2 : (a.size : Int) > 30
    · rw [decide_eq_true h2, decide_eq_false (show ¬ a.data.toList.length ≤ 30 by omega)]
      exact T
    · rw [decide_eq_false h2, decide_eq_true (show a.data.toList.length ≤ 30 by omega), Bool.true_and, Bool.true_and]
      refine Ev.succ ?_
      simp only [pax_nanos.j0]
      refine Ev.neg (by decide) ?_
      by_cases h3 : (a.size : Int) > 9
      · refine Ev.pos h3 (Ev.pos (by omega) ?_)
        have d1 := ex_drop a 9
        have d2 := ex_take a 9
        have hs1 : (a.extract 9 a.size).size = a.size - 9 := by rw [ba_len2, d1, List.length_drop]; omega
        have hs2 : (a.extract 0 9).size = 9 := by rw [ba_len2, d2, List.length_take]; omega
        have g1 := pdigits_ev (a.extract 9 a.size) 30 (by omega)
        rw [d1, List.length_drop, decide_eq_true (show 1 ≤ a.data.toList.length - 9 by omega), decide_eq_true (show ((a.data.toList.length - 9 : Nat) : Int) ≤ 30 by omega), Bool.true_and, Bool.true_and] at g1
        refine Ev.bind g1 ?_
        have hsplit : a.data.toList.all isD = ((a.data.toList.take 9).all isD && (a.data.toList.drop 9).all isD) := by
          rw [← List.all_append, List.take_append_drop]
        rw [hsplit]
        cases hq : (a.data.toList.drop 9).all isD
        · rw [Bool.and_false]
          exact Ev.neg (by simp) (Ev.now _)
        · rw [Bool.and_true]
          refine Ev.pos (by first | trivial | rfl) (Ev.pos (by decide) ?_)
          have e0 : wrap64 (9 - ((a.extract 0 9).size : Int)) = ((0 : Nat) : Int) := by rw [hs2]; unfold wrap64; omega
          rw [e0]
          refine Ev.bind (Ev.const (repeat_some 0 (by decide))) ?_
          have hnil : (⟨(List.replicate 0 (48 : UInt8)).toArray⟩ : ByteArray).size = 0 := rfl
          refine Ev.pos (by omega) ?_
          have hcat : ((a.extract 0 9) ++ (⟨(List.replicate 0 (48 : UInt8)).toArray⟩ : ByteArray)).data.toList = a.data.toList.take 9 := by
            rw [ba_append, d2]; simp
          have hcz : ((a.extract 0 9) ++ (⟨(List.replicate 0 (48 : UInt8)).toArray⟩ : ByteArray)).size = 9 := by rw [ba_size, hs2, hnil]
          have g2 := pdigits_ev ((a.extract 0 9) ++ (⟨(List.replicate 0 (48 : UInt8)).toArray⟩ : ByteArray)) 9 (by omega)
          have hlt : (a.data.toList.take 9).length = 9 := by rw [List.length_take]; omega
          rw [hcat, hlt, decide_eq_true (show 1 ≤ 9 by decide), decide_eq_true (show ((9 : Nat) : Int) ≤ 9 by decide), Bool.true_and, Bool.true_and] at g2
          refine Ev.bind g2 (ev_eq (Ev.now _) ?_)
          cases hr : (a.data.toList.take 9).all isD
          · rfl
          · rw [pad9_long _ (by omega), val9 _ hr (by omega)]
      · refine Ev.neg h3 ?_
        have e0 : wrap64 (9 - (a.size : Int)) = ((9 - a.size : Nat) : Int) := by rw [w64 (by omega) (by omega)]; omega
        rw [e0]
        refine Ev.bind (Ev.const (repeat_some (9 - a.size) (by omega))) ?_
        have hrz : (⟨(List.replicate (9 - a.size) (48 : UInt8)).toArray⟩ : ByteArray).size = 9 - a.size := by rw [ba_len]; simp
        refine Ev.pos (by omega) ?_
        have hcat : (a ++ (⟨(List.replicate (9 - a.size) (48 : UInt8)).toArray⟩ : ByteArray)).data.toList = pad9 a.data.toList := by
          rw [ba_append, pad9_short _ (by omega), hl]
        have hcz : (a ++ (⟨(List.replicate (9 - a.size) (48 : UInt8)).toArray⟩ : ByteArray)).size = 9 := by rw [ba_size, hrz]; omega
        have g2 := pdigits_ev (a ++ (⟨(List.replicate (9 - a.size) (48 : UInt8)).toArray⟩ : ByteArray)) 9 (by omega)
        rw [hcat, pad9_len, decide_eq_true (show 1 ≤ 9 by decide), decide_eq_true (show ((9 : Nat) : Int) ≤ 9 by decide), Bool.true_and, Bool.true_and] at g2
        refine Ev.bind g2 (ev_eq (Ev.now _) ?_)
        have hall : (pad9 a.data.toList).all isD = a.data.toList.all isD := by
          rw [pad9_short _ (by omega), List.all_append, all_rep, Bool.and_true]
        rw [hall]
        cases hr : a.data.toList.all isD
        · rfl
        · rw [val9 _ (by rw [hall]; exact hr) (by rw [pad9_len]; decide)]

/-! ### Time -/
theorem time_tail (neg : Bool) (secs ns : Nat) (hn : ns < 1000000000) (hs : secs < 10000000000000000000) : Ev (fun k => pax_Time.j1 k neg (secs : Int) true (ns : Int)) (timeFin neg (secs * 1000000000 + ns)) := by
  refine Ev.succ ?_
  simp only [pax_Time.j1]
  refine Ev.pos (by first | trivial | rfl) ?_
  refine Ev.succ ?_
  simp only [pax_Time.j2]
  by_cases hb : (secs : Int) > 9223372036
  · refine Ev.pos (decide_eq_true hb) ?_
    rw [timeFin_big neg _ (by omega)]
    exact Ev.now _
  · refine Ev.neg (by rw [decide_eq_false hb]; decide) ?_
    have e : IntKind.u64.wrap ((ns : Int) + IntKind.u64.wrap ((secs : Int) * 1000000000)) = ((secs * 1000000000 + ns : Nat) : Int) := by
      rw [IntKind.wrap_u64, IntKind.wrap_u64]; omega
    rw [e]
    obtain ⟨t, ht⟩ : ∃ t, secs * 1000000000 + ns = t := ⟨_, rfl⟩
    have htb : t ≤ 9223372036999999999 := by omega
    rw [ht]
    clear e
    cases neg
    · refine Ev.neg (by decide) ?_
      refine Ev.succ ?_
      simp only [pax_Time.j3]
      (try refine Ev.neg (by decide) ?_)
      (try refine Ev.neg (by decide) ?_)
      unfold timeFin
      rw [if_neg (show ¬ (false = true) by decide)]
      by_cases h : t ≤ 9223372036854775807
      · rw [if_pos h]
        refine Ev.pos (by omega) ?_
        rw [w64 (by omega) (by omega)]
        exact Ev.now _
      · rw [if_neg h]
        exact Ev.neg (by omega) (Ev.now _)
    · refine Ev.pos (by first | trivial | rfl) ?_
      refine Ev.succ ?_
      simp only [pax_Time.j3]
      unfold timeFin
      rw [if_pos rfl]
      by_cases h : t ≤ 9223372036854775808
      · rw [if_pos h]
        refine Ev.pos (decide_eq_true (by omega)) ?_
        have e2 : wrap64 (IntKind.u64.wrap (-(t : Int))) = -(t : Int) := by
          rw [IntKind.wrap_u64]
          unfold wrap64
          omega
        rw [e2]
        exact Ev.now _
      · rw [if_neg h]
        refine Ev.neg (by rw [decide_eq_false (by omega)]; decide) (Ev.pos (by first | trivial | rfl) (Ev.now _))
theorem time_no (neg : Bool) (x ns : Int) : Ev (fun k => pax_Time.j1 k neg x false ns) ((0 : Int), false) := by
  refine Ev.succ ?_
  simp only [pax_Time.j1]
  refine Ev.neg (by decide) ?_
  refine Ev.succ ?_
  simp only [pax_Time.j2]
  exact Ev.pos (by first | trivial | rfl) (Ev.now _)
/-- Behind the sign. -/
def paxBody (k : Nat) (neg : Bool) (s : ByteArray) : Option (Int × Bool) := (strings_Cut.f s (⟨#[46]⟩ : ByteArray)).bind fun bt300 => ((pax_digits.f k bt300.1 19).bind fun bt303 => (if bt300.2.2 = true then (pax_Time.j0 k neg bt300.2.1 bt303.1 bt303.2 0 bt303.2) else (pax_Time.j0 k neg bt300.2.1 bt303.1 bt303.2 0 false)))
theorem cut_len (l : List UInt8) : (Lib.cut l [46]).1.length ≤ l.length ∧ (Lib.cut l [46]).2.1.length ≤ l.length := by
  unfold Lib.cut
  split
  · simp only [List.length_take, List.length_drop]
    omega
  · simp
theorem paxBody_ev (neg : Bool) (s : ByteArray) (hz : s.size ≤ 1000000) : Ev (fun k => paxBody k neg s) (timeBody neg s.data.toList) := by
  have hl := ba_len2 s
  have hcut : strings_Cut.f s (⟨#[46]⟩ : ByteArray) = some ((⟨(Lib.cut s.data.toList [46]).1.toArray⟩ : ByteArray), (⟨(Lib.cut s.data.toList [46]).2.1.toArray⟩ : ByteArray), (Lib.cut s.data.toList [46]).2.2) := by
    unfold strings_Cut.f
    rw [if_pos (by omega)]
  obtain ⟨c1, c2⟩ := cut_len s.data.toList
  have hpf : (Lib.cut s.data.toList [46]).2.2 = false → (Lib.cut s.data.toList [46]).2.1 = [] := by
    unfold Lib.cut
    split <;> simp
  unfold paxBody timeBody
  refine Ev.bind (Ev.const hcut) ?_
  clear hcut
  generalize (Lib.cut s.data.toList [46]).1 = w at c1 ⊢
  generalize (Lib.cut s.data.toList [46]).2.1 = f at c2 hpf ⊢
  generalize (Lib.cut s.data.toList [46]).2.2 = pt at hpf ⊢
  have hwd : (⟨w.toArray⟩ : ByteArray).data.toList = w := by simp
  have hfd : (⟨f.toArray⟩ : ByteArray).data.toList = f := by simp
  have g := pdigits_ev (⟨w.toArray⟩ : ByteArray) 19 (by rw [ba_len]; omega)
  rw [hwd] at g
  have hw : (decide (1 ≤ w.length) && decide ((w.length : Int) ≤ 19) && w.all isD) = wOk w := by
    unfold wOk
    congr 2
    exact decide_eq_decide.2 (by omega)
  rw [hw] at g
  unfold timeW
  cases hk : wOk w
  · rw [hk] at g
    have g2 : Ev (fun k => pax_digits.f k (⟨w.toArray⟩ : ByteArray) 19) ((0 : Int), false) := by
      refine ev_eq g ?_
      simp only [Bool.false_eq_true, if_false]
    refine Ev.bind g2 ?_
    have T : Ev (fun k => pax_Time.j0 k neg (⟨f.toArray⟩ : ByteArray) 0 false 0 false) ((0 : Int), false) := by
      refine Ev.succ ?_
      simp only [pax_Time.j0]
      exact Ev.neg (by decide) (time_no _ _ _)
    simp only [Bool.false_and, Bool.false_eq_true, if_false]
    cases pt
    · exact Ev.neg (by decide) T
    · exact Ev.pos (by first | trivial | rfl) T
  · have hk2 := hk
    unfold wOk at hk2
    simp only [Bool.and_eq_true, decide_eq_true_eq] at hk2
    obtain ⟨⟨k1, k2⟩, k3⟩ := hk2
    have hv := val9 w k3 k2
    have hvl := valF_lt w k3
    have hv19 : valF 0 w < 10000000000000000000 := Nat.lt_of_lt_of_le hvl (Nat.le_trans (Nat.pow_le_pow_right (by decide) k2) (by decide))
    rw [hk, hv] at g
    have g2 : Ev (fun k => pax_digits.f k (⟨w.toArray⟩ : ByteArray) 19) (((valF 0 w : Nat) : Int), true) := by
      refine ev_eq g ?_
      simp only [if_true]
    clear g
    refine Ev.bind g2 ?_
    cases pt
    · refine Ev.neg (by decide) ?_
      refine Ev.succ ?_
      simp only [pax_Time.j0]
      refine Ev.neg (by decide) ?_
      have ht := time_tail neg (valF 0 w) 0 (by decide) hv19
      refine ev_eq ht ?_
      rw [hpf rfl, time_split, show valF 0 (pad9 []) = 0 by decide]
      simp only [Bool.not_false, Bool.true_or, Bool.and_self, if_true]
    · refine Ev.pos (by first | trivial | rfl) ?_
      refine Ev.succ ?_
      simp only [pax_Time.j0]
      refine Ev.pos (by first | trivial | rfl) ?_
      have gn := nanos_ev (⟨f.toArray⟩ : ByteArray) (by rw [ba_len]; omega)
      rw [hfd] at gn
      cases hf : fOk f
      · rw [hf] at gn
        have gn2 : Ev (fun k => pax_nanos.f k (⟨f.toArray⟩ : ByteArray)) ((0 : Int), false) := by
          refine ev_eq gn ?_
          simp only [Bool.false_eq_true, if_false]
        refine Ev.bind gn2 ?_
        simp only [Bool.not_true, Bool.false_or, Bool.and_false, Bool.false_eq_true, if_false]
        exact time_no _ _ _
      · rw [hf] at gn
        have gn2 : Ev (fun k => pax_nanos.f k (⟨f.toArray⟩ : ByteArray)) (((valF 0 (pad9 f) : Nat) : Int), true) := by
          refine ev_eq gn ?_
          simp only [if_true]
        refine Ev.bind gn2 ?_
        have hf2 := hf
        unfold fOk at hf2
        simp only [Bool.and_eq_true, decide_eq_true_eq] at hf2
        have hb := time_bound w f hf2.2
        have ht := time_tail neg (valF 0 w) (valF 0 (pad9 f)) hb hv19
        refine ev_eq ht ?_
        rw [time_split]
        simp only [Bool.not_true, Bool.false_or, Bool.and_self, if_true]
theorem Time_ev (a : ByteArray) (hz : a.size ≤ 1000000) : Ev (fun k => pax_Time.f k a) (timeOf a.data.toList) := by
  have hl := ba_len2 a
  have hf : ∀ k, pax_Time.f k a = (strings_CutPrefix.f a (⟨#[45]⟩ : ByteArray)).bind fun bt298 => paxBody k bt298.2 bt298.1 := fun k => rfl
  refine Ev.congr hf ?_
  cases hc : a.data.toList with
  | nil =>
    have h1 : strings_CutPrefix.f a (⟨#[45]⟩ : ByteArray) = some ((⟨([] : List UInt8).toArray⟩ : ByteArray), false) := by
      unfold strings_CutPrefix.f
      rw [hc]
      rfl
    refine Ev.bind (Ev.const h1) ?_
    exact paxBody_ev false (⟨([] : List UInt8).toArray⟩ : ByteArray) (by decide)
  | cons c r =>
    unfold timeOf
    by_cases h45 : c = 45
    · subst h45
      have h1 : strings_CutPrefix.f a (⟨#[45]⟩ : ByteArray) = some ((⟨r.toArray⟩ : ByteArray), true) := by
        unfold strings_CutPrefix.f
        rw [hc]
        simp [Lib.trimPrefix, Lib.hasPrefix, List.isPrefixOf]
      refine Ev.bind (Ev.const h1) ?_
      have hz2 : (⟨r.toArray⟩ : ByteArray).size ≤ 1000000 := by rw [ba_len]; rw [hc] at hl; simp at hl; omega
      have := paxBody_ev true (⟨r.toArray⟩ : ByteArray) hz2
      have hd : (⟨r.toArray⟩ : ByteArray).data.toList = r := by simp
      rw [hd] at this
      simp only [if_true]
      exact this
    · have h1 : strings_CutPrefix.f a (⟨#[45]⟩ : ByteArray) = some (a, false) := by
        unfold strings_CutPrefix.f
        have h46 : ¬ (45 : UInt8) = c := fun e => h45 e.symm
        have hp : Lib.hasPrefix a.data.toList (⟨#[45]⟩ : ByteArray).data.toList = false := by
          rw [hc]
          simp [Lib.hasPrefix, List.isPrefixOf, h46]
        have ht : Lib.trimPrefix a.data.toList (⟨#[45]⟩ : ByteArray).data.toList = a.data.toList := by
          unfold Lib.trimPrefix
          rw [hp]
          rfl
        rw [hp, ht, ← ba_eta a]
      refine Ev.bind (Ev.const h1) ?_
      have := paxBody_ev false a hz
      rw [hc] at this
      simp only [if_neg h45]
      exact this

/-! ### TimeText -/
theorem tdiv_nat (u : Nat) : Int.tdiv (u : Int) 1000000000 = ((u / 1000000000 : Nat) : Int) := by rw [Int.tdiv_eq_ediv_of_nonneg (by omega)]; rfl
theorem tmod_nat (u : Nat) : Int.tmod (u : Int) 1000000000 = ((u % 1000000000 : Nat) : Int) := by rw [Int.tmod_eq_emod_of_nonneg (by omega)]; rfl
theorem wrap_nat (u : Nat) (h : u ≤ 9223372036854775807) : wrap64 (IntKind.u64.wrap (u : Int)) = (u : Int) := by
  rw [IntKind.wrap_u64]
  unfold wrap64
  omega
theorem nat_abs_neg (n : Int) (h0 : -9223372036854775808 ≤ n) (h : n < 0) : IntKind.u64.wrap (-(IntKind.u64.wrap n)) = ((n.natAbs : Nat) : Int) := by
  rw [IntKind.wrap_u64, IntKind.wrap_u64]; omega
theorem nat_abs_pos (n : Int) (h1 : n ≤ 9223372036854775807) (h : ¬ n < 0) : IntKind.u64.wrap n = ((n.natAbs : Nat) : Int) := by
  rw [IntKind.wrap_u64]; omega
theorem trim_some (l : List UInt8) (h : l.length ≤ 1000) : strings_TrimRight.f (⟨l.toArray⟩ : ByteArray) (⟨#[48]⟩ : ByteArray) = some (⟨(Lib.trimRightB l 48).toArray⟩ : ByteArray) := by
  unfold strings_TrimRight.f
  have e : (⟨#[48]⟩ : ByteArray).data.getD 0 0 = 48 := rfl
  rw [if_pos (by rw [ba_len]; omega), if_pos (by rfl), e, if_pos (by decide)]
theorem textU_j0 (sign : ByteArray) (hs : sign.size ≤ 1) (u : Nat) (hu : u ≤ 9223372036854775808) : Ev (fun k => pax_TimeText.j0 k sign (u : Int)) (sign ++ (⟨(textU u).toArray⟩ : ByteArray)) := by
  have hm := Nat.mod_lt u (show 0 < 1000000000 by decide)
  have hq : u / 1000000000 ≤ 9223372036 := by omega
  have e1 : wrap64 (IntKind.u64.wrap (Int.tdiv (u : Int) 1000000000)) = ((u / 1000000000 : Nat) : Int) := by rw [tdiv_nat, wrap_nat _ (by omega)]
  have e2 : wrap64 (IntKind.u64.wrap (1000000000 + Int.tmod (u : Int) 1000000000)) = ((1000000000 + u % 1000000000 : Nat) : Int) := by
    rw [tmod_nat]
    have := wrap_nat (1000000000 + u % 1000000000) (by omega)
    rw [← this]
    simp
  have l1 : (Lib.decDigits (u / 1000000000)).length ≤ 20 := by rw [Lib.decDigits_length]; exact Lib.nDigits_le20 _ (by omega)
  refine Ev.succ ?_
  simp only [pax_TimeText.j0]
  rw [e1, e2, tmod_nat]
  clear e1 e2
  refine Ev.bind (Ev.const (digits_nat (u / 1000000000) (by omega))) ?_
  have z1 : (⟨(Lib.decDigits (u / 1000000000)).toArray⟩ : ByteArray).size ≤ 20 := by rw [ba_len]; exact l1
  refine Ev.pos (by omega) ?_
  by_cases h0 : u % 1000000000 = 0
  · refine Ev.pos (by omega) (ev_eq (Ev.now _) ?_)
    unfold textU
    rw [if_pos h0, List.append_nil]
  · refine Ev.neg (by omega) ?_
    refine Ev.bind (Ev.const (digits_nat (1000000000 + u % 1000000000) (by omega))) ?_
    have hl10 : (Lib.decDigits (1000000000 + u % 1000000000)).length = 10 := by
      rw [Lib.decDigits_length]
      exact Lib.nDigits_unique 9 _ (by omega) (by omega)
    have z2 : (⟨(Lib.decDigits (1000000000 + u % 1000000000)).toArray⟩ : ByteArray).size = 10 := by rw [ba_len]; exact hl10
    have hex : (⟨(Lib.decDigits (1000000000 + u % 1000000000)).toArray⟩ : ByteArray).extract 1 (⟨(Lib.decDigits (1000000000 + u % 1000000000)).toArray⟩ : ByteArray).size = (⟨(nine (u % 1000000000)).toArray⟩ : ByteArray) := by
      apply ba_ext
      rw [ex_drop]
      simp [nine]
    have hsz1 : (sign ++ (⟨(Lib.decDigits (u / 1000000000)).toArray⟩ : ByteArray)).size ≤ 21 := by rw [ba_size]; omega
    refine Ev.pos (by omega) (Ev.pos (by omega) ?_)
    rw [hex]
    obtain ⟨n1, n2, n3⟩ := nine_facts _ hm
    obtain ⟨t1, t2, t3, t4⟩ := trim_nine _ hm h0
    refine Ev.bind (Ev.const (trim_some (nine (u % 1000000000)) (by omega))) ?_
    have z3 : (⟨(Lib.trimRightB (nine (u % 1000000000)) 48).toArray⟩ : ByteArray).size ≤ 9 := by rw [ba_len]; exact t2
    have z4 : (⟨#[46]⟩ : ByteArray).size = 1 := rfl
    refine Ev.pos (by rw [ba_size]; omega) (ev_eq (Ev.now _) ?_)
    unfold textU
    rw [if_neg h0]
    apply ba_ext
    simp only [ba_append]
    simp
theorem TimeText_ev (n : Int) (h0 : -9223372036854775808 ≤ n) (h1 : n ≤ 9223372036854775807) : Ev (fun k => pax_TimeText.f k n) (⟨(textOf n).toArray⟩ : ByteArray) := by
  unfold pax_TimeText.f textOf
  by_cases hn : n < 0
  · rw [if_pos hn, nat_abs_neg n h0 hn]
    refine Ev.pos hn (ev_eq (textU_j0 _ (by decide) n.natAbs (by omega)) ?_)
    apply ba_ext
    simp only [ba_append]
    simp
  · rw [if_neg hn, nat_abs_pos n h1 hn]
    refine Ev.neg hn (ev_eq (textU_j0 _ (by decide) n.natAbs (by omega)) ?_)
    apply ba_ext
    simp only [ba_append]
    simp
theorem textOf_len (n : Int) (h0 : -9223372036854775808 ≤ n) (h1 : n ≤ 9223372036854775807) : 1 ≤ (textOf n).length ∧ (textOf n).length ≤ 40 := by
  have hU : 1 ≤ (textU n.natAbs).length ∧ (textU n.natAbs).length ≤ 30 := by
    have l1 : (Lib.decDigits (n.natAbs / 1000000000)).length ≤ 20 := by rw [Lib.decDigits_length]; exact Lib.nDigits_le20 _ (by omega)
    have l0 : 1 ≤ (Lib.decDigits (n.natAbs / 1000000000)).length := by rw [Lib.decDigits_length]; exact Lib.nDigits_pos _
    unfold textU
    by_cases h : n.natAbs % 1000000000 = 0
    · rw [if_pos h, List.append_nil]; omega
    · rw [if_neg h, List.length_append, List.length_cons]
      have hm := Nat.mod_lt n.natAbs (show 0 < 1000000000 by decide)
      obtain ⟨t1, t2, t3, t4⟩ := trim_nine _ hm h
      omega
  unfold textOf
  split
  · rw [List.length_cons]; omega
  · omega
end Go.Proofs.YtmmmmalicndkeaaDoor.X
