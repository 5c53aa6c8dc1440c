/- The plain law of the document's Time and TimeText: they answer as the plain words say. -/
import Derived.Test.YtmmmmalicndkeaaDoorX39
import Derived.Test.YtmmmmalicndkeaaDoorX38
import Derived.Test.YtmmmmalicndkeaaDoorDig13
import Derived.Test.YtmmmmalicndkeaaDoorTime
namespace Go.Proofs.YtmmmmalicndkeaaDoor.X
open Go.RowKit Go.Proofs.YtmmmmalicndkeaaDoorW.PrintWords Go.Proofs.YtmmmmalicndkeaaDoorW.PrintLast Go.Proofs.YtmmmmalicndkeaaDoorW.PrintMore
set_option linter.unusedVariables false
set_option linter.unusedSimpArgs false

theorem bt_mk (l pre r : List UInt8) (c : UInt8) (h : l = pre ++ c :: r) : bt (⟨l.toArray⟩ : ByteArray) (pre.length : Int) = (c.toNat : Int) := by
  have hz : (⟨l.toArray⟩ : ByteArray).size = l.length := ba_len l
  have hlt : (pre.length : Int).toNat < (⟨l.toArray⟩ : ByteArray).size := by rw [hz, h]; simp
  unfold bt
  rw [dif_pos hlt, Lib.getD_at (⟨l.toArray⟩ : ByteArray) _ hlt]
  simp [h, List.getD_eq_getElem?_getD]
theorem mk_take (l : List UInt8) (n : Nat) : (⟨l.toArray⟩ : ByteArray).extract 0 n = (⟨(l.take n).toArray⟩ : ByteArray) := by
  apply ba_ext
  rw [ex_take]
theorem mk_drop (l : List UInt8) (n : Nat) : (⟨l.toArray⟩ : ByteArray).extract n (⟨l.toArray⟩ : ByteArray).size = (⟨(l.drop n).toArray⟩ : ByteArray) := by
  apply ba_ext
  rw [ex_drop]
theorem c48 {c : UInt8} : ((c.toNat : Int) = 48) ↔ c = 48 := by
  constructor
  · intro h
    have h5 : c.toNat = 48 := by omega
    exact UInt8.toNat_inj.1 (by rw [h5]; rfl)
  · intro h; rw [h]; rfl
theorem c46 {c : UInt8} : ((c.toNat : Int) = 46) ↔ c = 46 := by
  constructor
  · intro h
    have h5 : c.toNat = 46 := by omega
    exact UInt8.toNat_inj.1 (by rw [h5]; rfl)
  · intro h; rw [h]; rfl
/-! ### the number -/
theorem ref_j8 (neg : Bool) (v : Nat) (hv : v ≤ 9223372036854775809) (b : Bool) (hb : b = decide (¬ (timeFin neg v).2 = true)) : Ev (fun k => portmanteauref16_Time.j8 k neg (v : Int) b) (timeFin neg v) := by
  refine Ev.succ ?_
  simp only [portmanteauref16_Time.j8]
  cases b
  · have h2 : (timeFin neg v).2 = true := by
      have := hb.symm
      rw [decide_eq_false_iff_not] at this
      exact Decidable.of_not_not this
    clear hb
    simp only [Bool.false_eq_true, if_false]
    unfold timeFin at h2 ⊢
    cases neg
    · simp only [Bool.false_eq_true, if_false] at h2 ⊢
      by_cases h : v ≤ 9223372036854775807
      · rw [if_pos h, w64 (by omega) (by omega)]
        exact Ev.now _
      · rw [if_neg h] at h2
        exact absurd h2 (by decide)
    · simp only [if_true] at h2 ⊢
      by_cases h : v ≤ 9223372036854775808
      · have e2 : wrap64 (IntKind.u64.wrap (-(v : Int))) = -(v : Int) := by
          rw [IntKind.wrap_u64]
          unfold wrap64
          omega
        rw [if_pos h, e2]
        exact Ev.now _
      · rw [if_neg h] at h2
        exact absurd h2 (by decide)
  · have h2 : ¬ (timeFin neg v).2 = true := of_decide_eq_true hb.symm
    clear hb
    simp only [if_true]
    refine ev_eq (Ev.now _) ?_
    unfold timeFin at h2 ⊢
    cases neg
    · simp only [Bool.false_eq_true, if_false] at h2 ⊢
      by_cases h : v ≤ 9223372036854775807
      · rw [if_pos h] at h2
        exact absurd rfl h2
      · rw [if_neg h]
    · simp only [if_true] at h2 ⊢
      by_cases h : v ≤ 9223372036854775808
      · rw [if_pos h] at h2
        exact absurd rfl h2
      · rw [if_neg h]
theorem ref_l2 (neg : Bool) (l : List UInt8) (hl : l.length ≤ 1000) : ∀ (r pre : List UInt8) (v : Nat), l = pre ++ r → r.all isD = true → v ≤ 9223372036854775809 →
    Ev (fun k => portmanteauref16_Time.l2 k neg (⟨l.toArray⟩ : ByteArray) (v : Int) (pre.length : Int)) (timeFin neg (valF v r))
  | [], pre, v, e, hd, hv => by
    have hlen : l.length = pre.length := by rw [e]; simp
    have hz := ba_len l
    refine Ev.succ ?_
    simp only [portmanteauref16_Time.l2]
    rw [valF_nil]
    refine Ev.neg (by omega) ?_
    by_cases h1 : (v : Int) > 9223372036854775808
    · refine Ev.pos h1 (ref_j8 neg v hv true ?_)
      rw [timeFin_big neg v (by omega)]
      rfl
    · refine Ev.neg h1 ?_
      cases neg
      · refine Ev.neg (by decide) (ref_j8 false v hv _ ?_)
        apply decide_eq_decide.2
        unfold timeFin
        rw [if_neg (show ¬ (false = true) by decide)]
        by_cases h : v ≤ 9223372036854775807
        · rw [if_pos h]; simp; omega
        · rw [if_neg h]; simp; omega
      · refine Ev.pos (by first | trivial | rfl) (ref_j8 true v hv false ?_)
        unfold timeFin
        rw [if_pos rfl, if_pos (by omega)]
        rfl
  | c :: r, pre, v, e, hd, hv => by
    have hlen : l.length = pre.length + (r.length + 1) := by rw [e]; simp
    have hz := ba_len l
    rw [List.all_cons, Bool.and_eq_true] at hd
    have h1 := isD_le hd.1
    obtain ⟨d, hdd⟩ : ∃ d, c.toNat = 48 + d := ⟨c.toNat - 48, by omega⟩
    have ed : c.toNat - 48 = d := by omega
    refine Ev.succ ?_
    simp only [portmanteauref16_Time.l2]
    refine Ev.pos (by omega) ?_
    rw [valF_cons, ed]
    by_cases hb : (v : Int) > 922337203685477580
    · have := valF_ge r (10 * v + d)
      rw [timeFin_big neg _ (by omega)]
      exact Ev.pos hb (Ev.now _)
    · refine Ev.neg hb (Ev.pos (by omega) ?_)
      rw [bt_mk l pre r c e]
      have e3 : IntKind.u64.wrap (IntKind.u64.wrap (10 * (v : Int)) + ((c.toNat : Int) - 48) % 256) = ((10 * v + d : Nat) : Int) := by
        rw [IntKind.wrap_u64, IntKind.wrap_u64]
        omega
      have e2 : wrap64 ((pre.length : Int) + 1) = ((pre ++ [c]).length : Int) := by rw [w64 (by omega) (by omega)]; simp
      rw [e3, e2]
      exact ref_l2 neg l hl r (pre ++ [c]) (10 * v + d) (by rw [e]; simp) hd.2 (by omega)
theorem ref_l1 (neg : Bool) (w f : List UInt8) (hw : w.length ≤ 19) (hf : f.length ≤ 30) : ∀ (r pre : List UInt8), w ++ f = pre ++ r →  (pre.all isD = true) →
    Ev (fun k => portmanteauref16_Time.l1 k neg (⟨w.toArray⟩ : ByteArray) (⟨f.toArray⟩ : ByteArray) (⟨(w ++ f).toArray⟩ : ByteArray) (pre.length : Int)) (if (w ++ f).all isD = true then timeFin neg (valF 0 (w ++ pad9 f)) else (0, false))
  | [], pre, e, hp => by
    have hlen : (w ++ f).length = pre.length := by rw [e]; simp
    have hz := ba_len (w ++ f)
    have z1 := ba_len w
    have z2 := ba_len f
    have hall : (w ++ f).all isD = true := by rw [e, List.append_nil]; exact hp
    have hall2 := hall
    rw [List.all_append, Bool.and_eq_true] at hall2
    rw [hall]
    refine Ev.succ ?_
    simp only [portmanteauref16_Time.l1]
    have hp9 : ((⟨f.toArray⟩ : ByteArray) ++ (⟨#[48, 48, 48, 48, 48, 48, 48, 48, 48]⟩ : ByteArray)).extract 0 9 = (⟨(pad9 f).toArray⟩ : ByteArray) := by
      apply ba_ext
      rw [ex_take, ba_append]
      rfl
    have z9 : (⟨#[48, 48, 48, 48, 48, 48, 48, 48, 48]⟩ : ByteArray).size = 9 := rfl
    have zp : (⟨(pad9 f).toArray⟩ : ByteArray).size = 9 := by rw [ba_len]; exact pad9_len f
    have hcat : (⟨w.toArray⟩ : ByteArray) ++ (⟨(pad9 f).toArray⟩ : ByteArray) = (⟨(w ++ pad9 f).toArray⟩ : ByteArray) := ba_mk_append _ _
    refine Ev.neg (by omega) (Ev.pos (by omega) (Ev.pos (by decide) (Ev.pos (by rw [ba_size]; omega) ?_)))
    rw [hp9]
    refine Ev.pos (by omega) ?_
    rw [hcat]
    have hpl := pad9_len f
    have := ref_l2 neg (w ++ pad9 f) (by rw [List.length_append]; omega) (w ++ pad9 f) [] 0 rfl (by rw [List.all_append, hall2.1, pad9_all f hall2.2]; rfl) (by decide)
    refine ev_eq this ?_
    simp only [if_true]
  | c :: r, pre, e, hp => by
    have hlen : (w ++ f).length = pre.length + (r.length + 1) := by rw [e]; simp
    have hz := ba_len (w ++ f)
    have hwl : (w ++ f).length ≤ 49 := by rw [List.length_append]; omega
    refine Ev.succ ?_
    simp only [portmanteauref16_Time.l1]
    refine Ev.pos (by omega) (Ev.pos (by omega) ?_)
    rw [bt_mk (w ++ f) pre r c e]
    have hno : isD c = false → (w ++ f).all isD = false := by
      intro h
      rw [e, List.all_append, List.all_cons, h]
      simp
    by_cases h1 : (c.toNat : Int) < 48
    · have hd : isD c = false := by unfold isD; rw [decide_eq_false (show ¬ 48 ≤ c.toNat by omega)]; rfl
      rw [hno hd]
      exact Ev.pos h1 (Ev.now _)
    · refine Ev.neg h1 ?_
      by_cases h2 : (c.toNat : Int) > 57
      · have hd : isD c = false := by unfold isD; rw [decide_eq_false (show ¬ c.toNat ≤ 57 by omega), Bool.and_false]
        rw [hno hd]
        exact Ev.pos h2 (Ev.now _)
      · refine Ev.neg h2 ?_
        have hd : isD c = true := by unfold isD; rw [decide_eq_true (show 48 ≤ c.toNat by omega), decide_eq_true (show c.toNat ≤ 57 by omega)]; rfl
        have e2 : wrap64 ((pre.length : Int) + 1) = ((pre ++ [c]).length : Int) := by rw [w64 (by omega) (by omega)]; simp
        rw [e2]
        exact ref_l1 neg w f hw hf r (pre ++ [c]) (by rw [e]; simp) (by rw [List.all_append, hp, List.all_cons, hd]; rfl)
/-- What is answered of digits ahead of the point and behind it. -/
theorem ref_j4 (neg : Bool) (w f : List UInt8) (hw : w.length ≤ 1000000) (hf : f.length ≤ 30) : Ev (fun k => portmanteauref16_Time.j4 k neg (⟨w.toArray⟩ : ByteArray) (⟨f.toArray⟩ : ByteArray)) (if (wOk w && f.all isD) = true then timeFin neg (valF 0 (w ++ pad9 f)) else (0, false)) := by
  have z1 := ba_len w
  have z2 := ba_len f
  have hd : (⟨w.toArray⟩ : ByteArray).data.toList = w := by simp
  have T : Ev (fun k => portmanteauref16_Time.j5 k neg (⟨w.toArray⟩ : ByteArray) (⟨f.toArray⟩ : ByteArray) true) ((0 : Int), false) := by
    refine Ev.succ ?_
    simp only [portmanteauref16_Time.j5]
    exact Ev.pos (by first | trivial | rfl) (Ev.now _)
  refine Ev.succ ?_
  simp only [portmanteauref16_Time.j4, ba_toList, hd]
  by_cases h0 : w = []
  · have hk : wOk w = false := by rw [h0]; rfl
    rw [hk]
    exact Ev.pos h0 T
  · refine Ev.neg h0 ?_
    have hp : 0 < w.length := List.length_pos_iff.2 h0
    by_cases h19 : ((⟨w.toArray⟩ : ByteArray).size : Int) > 19
    · have hk : wOk w = false := by unfold wOk; rw [decide_eq_false (show ¬ w.length ≤ 19 by omega)]; simp
      rw [hk, decide_eq_true h19]
      exact T
    · rw [decide_eq_false h19]
      refine Ev.succ ?_
      simp only [portmanteauref16_Time.j5]
      refine Ev.neg (by decide) (Ev.pos (by omega) ?_)
      rw [ba_mk_append]
      have := ref_l1 neg w f (by omega) hf (w ++ f) [] rfl rfl
      refine ev_eq this ?_
      have hk : wOk w = w.all isD := by
        unfold wOk
        rw [decide_eq_true (show 1 ≤ w.length by omega), decide_eq_true (show w.length ≤ 19 by omega)]
        simp
      rw [hk, List.all_append]
theorem ref_j3_at (neg : Bool) (w f : List UInt8) (hw : w.length + f.length ≤ 100000) : Ev (fun k => portmanteauref16_Time.j3 k (⟨(w ++ 46 :: f).toArray⟩ : ByteArray) neg (w.length : Int)) (timeW neg w f true) := by
  have hz := ba_len (w ++ 46 :: f)
  rw [List.length_append, List.length_cons] at hz
  have e2 : wrap64 ((w.length : Int) + 1) = ((w.length + 1 : Nat) : Int) := by rw [w64 (by omega) (by omega)]; simp
  have n1 : (((w.length + 1 : Nat) : Int)).toNat = w.length + 1 := by omega
  have n2 : ((w.length : Int)).toNat = w.length := by omega
  have hdr : (w ++ 46 :: f).drop (w.length + 1) = f := by
    rw [show w ++ 46 :: f = (w ++ [46]) ++ f by simp, show w.length + 1 = (w ++ [46]).length by simp, List.drop_left]
  have hfd : (⟨f.toArray⟩ : ByteArray).data.toList = f := by simp
  have zf := ba_len f
  refine Ev.succ ?_
  simp only [portmanteauref16_Time.j3]
  refine Ev.pos (by omega) (Ev.pos (by omega) (Ev.pos (by omega) ?_))
  rw [e2, n1, n2, mk_drop, hdr, mk_take, List.take_left]
  refine Ev.pos (by omega) (Ev.pos (by omega) ?_)
  simp only [ba_toList, hfd]
  unfold timeW
  by_cases h0 : f = []
  · refine Ev.pos h0 (ev_eq (Ev.now _) ?_)
    rw [h0, show fOk [] = false from rfl]
    simp only [Bool.not_true, Bool.false_or, Bool.and_false, Bool.false_eq_true, if_false]
  · refine Ev.neg h0 ?_
    have hp : 0 < f.length := List.length_pos_iff.2 h0
    by_cases h30 : ((⟨f.toArray⟩ : ByteArray).size : Int) > 30
    · refine Ev.pos h30 (ev_eq (Ev.now _) ?_)
      have hk : fOk f = false := by unfold fOk; rw [decide_eq_false (show ¬ f.length ≤ 30 by omega)]; simp
      rw [hk]
      simp only [Bool.not_true, Bool.false_or, Bool.and_false, Bool.false_eq_true, if_false]
    · refine Ev.neg h30 (ev_eq (ref_j4 neg w f (by omega) (by omega)) ?_)
      have hk : fOk f = f.all isD := by
        unfold fOk
        rw [decide_eq_true (show 1 ≤ f.length by omega), decide_eq_true (show f.length ≤ 30 by omega)]
        simp
      rw [hk]
      simp only [Bool.not_true, Bool.false_or]
theorem ref_j3_no (neg : Bool) (w : List UInt8) (hw : w.length ≤ 100000) : Ev (fun k => portmanteauref16_Time.j3 k (⟨w.toArray⟩ : ByteArray) neg (w.length : Int)) (timeW neg w [] false) := by
  have hz := ba_len w
  have n2 : ((w.length : Int)).toNat = w.length := by omega
  refine Ev.succ ?_
  simp only [portmanteauref16_Time.j3]
  refine Ev.pos (by omega) (Ev.pos (by omega) (Ev.neg (by omega) ?_))
  rw [n2, mk_take, List.take_length]
  refine ev_eq (ref_j4 neg w [] (by omega) (by decide)) ?_
  unfold timeW
  cases hk : wOk w <;> simp
theorem ref_l0 (neg : Bool) (s : List UInt8) (hs : s.length ≤ 100000) : ∀ (r pre : List UInt8), s = pre ++ r → pre.contains 46 = false → Ev (fun k => portmanteauref16_Time.l0 k (⟨s.toArray⟩ : ByteArray) neg (pre.length : Int)) (timeBody neg s)
  | [], pre, e, hp => by
    rw [List.append_nil] at e
    subst e
    have hz := ba_len s
    refine Ev.succ ?_
    simp only [portmanteauref16_Time.l0]
    refine Ev.neg (by omega) ?_
    unfold timeBody
    rw [cut_no 46 s hp]
    exact ref_j3_no neg s hs
  | c :: r, pre, e, hp => by
    have hz := ba_len s
    have hlen : s.length = pre.length + (r.length + 1) := by rw [e]; simp
    refine Ev.succ ?_
    simp only [portmanteauref16_Time.l0]
    refine Ev.pos (by omega) (Ev.pos (by omega) ?_)
    rw [bt_mk s pre r c e]
    by_cases h : c = 46
    · refine Ev.pos (c46.2 h) ?_
      subst h
      unfold timeBody
      rw [e, cut_at 46 pre r hp]
      exact ref_j3_at neg pre r (by omega)
    · refine Ev.neg (fun h2 => h (c46.1 h2)) ?_
      have e2 : wrap64 ((pre.length : Int) + 1) = ((pre ++ [c]).length : Int) := by rw [w64 (by omega) (by omega)]; simp
      rw [e2]
      refine ref_l0 neg s hs r (pre ++ [c]) (by rw [e]; simp) ?_
      rw [Bool.eq_false_iff]
      intro hc
      rcases List.mem_append.1 (List.contains_iff_mem.1 hc) with hc | hc
      · rw [List.contains_iff_mem.2 hc] at hp; cases hp
      · exact h (List.mem_singleton.1 hc).symm
theorem RefTime_ev (a : ByteArray) (hz : a.size ≤ 100000) : Ev (fun k => portmanteauref16_Time.f k a) (timeOf a.data.toList) := by
  obtain ⟨l, rfl⟩ : ∃ l : List UInt8, a = (⟨l.toArray⟩ : ByteArray) := ⟨a.data.toList, ba_eta a⟩
  have hl := ba_len l
  have hd : (⟨l.toArray⟩ : ByteArray).data.toList = l := by simp
  rw [hd]
  have J : ∀ (s : List UInt8) (neg : Bool), s.length ≤ 100000 → Ev (fun k => portmanteauref16_Time.j1 k (⟨s.toArray⟩ : ByteArray) neg) (timeBody neg s) := fun s neg h => by
    refine Ev.succ ?_
    simp only [portmanteauref16_Time.j1]
    exact ref_l0 neg s h s [] rfl rfl
  unfold portmanteauref16_Time.f
  simp only [ba_toList, hd]
  cases l with
  | nil =>
    refine Ev.pos rfl ?_
    refine Ev.succ ?_
    simp only [portmanteauref16_Time.j0]
    exact Ev.neg (by decide) (J [] false (by decide))
  | cons c r =>
    rw [List.length_cons] at hl
    have hb : bt (⟨(c :: r).toArray⟩ : ByteArray) 0 = (c.toNat : Int) := bt_mk (c :: r) [] r c rfl
    refine Ev.neg (by simp) (Ev.pos (by omega) ?_)
    rw [hb]
    unfold timeOf
    by_cases h45 : c = 45
    · subst h45
      rw [show (((45 : UInt8).toNat : Int) == 45) = true from rfl]
      refine Ev.succ ?_
      simp only [portmanteauref16_Time.j0]
      refine Ev.pos (by first | trivial | rfl) (Ev.pos (by omega) ?_)
      rw [mk_drop]
      simp only [List.drop_succ_cons, List.drop_zero, if_true]
      exact J r true (by omega)
    · have hne : ((c.toNat : Int) == 45) = false := by
        rw [beq_eq_false_iff_ne]
        intro h
        apply h45
        have h5 : c.toNat = 45 := by omega
        exact UInt8.toNat_inj.1 (by rw [h5]; rfl)
      rw [hne]
      refine Ev.succ ?_
      simp only [portmanteauref16_Time.j0, if_neg h45]
      exact Ev.neg (by decide) (J (c :: r) false (by rw [List.length_cons]; omega))

/-! ### TimeText -/
theorem trim_snoc48 (l : List UInt8) : Lib.trimRightB (l ++ [48]) 48 = Lib.trimRightB l 48 := by
  unfold Lib.trimRightB
  rw [List.reverse_append]
  simp
theorem trim_snoc (l : List UInt8) (c : UInt8) (h : ¬ c = 48) : Lib.trimRightB (l ++ [c]) 48 = l ++ [c] := by
  unfold Lib.trimRightB
  rw [List.reverse_append]
  simp [h]
theorem ref_trim (s : ByteArray) (hs : s.size ≤ 1000) : ∀ (n : Nat) (l : List UInt8), l.length = n → n ≤ 1000 → 1 ≤ (Lib.trimRightB l 48).length → Ev (fun k => portmanteauref16_TimeText.l0 k s (⟨l.toArray⟩ : ByteArray)) ((s ++ (⟨#[46]⟩ : ByteArray)) ++ (⟨(Lib.trimRightB l 48).toArray⟩ : ByteArray)) := by
  intro n
  induction n with
  | zero =>
    intro l hl _ h1
    have : l = [] := List.eq_nil_of_length_eq_zero hl
    rw [this] at h1
    exact absurd h1 (by decide)
  | succ n ih =>
    intro l hl hn h1
    obtain ⟨q, c, rfl⟩ : ∃ q c, l = q ++ [c] := by
      have hne : l ≠ [] := by intro h; rw [h] at hl; simp at hl
      exact ⟨l.dropLast, l.getLast hne, (List.dropLast_concat_getLast hne).symm⟩
    have hq : q.length = n := by simp at hl; exact hl
    have hz := ba_len (q ++ [c])
    rw [List.length_append, List.length_singleton] at hz
    have e1 : wrap64 (((⟨(q ++ [c]).toArray⟩ : ByteArray).size : Int) - 1) = (q.length : Int) := by rw [w64 (by omega) (by omega)]; omega
    have n1 : ((q.length : Int)).toNat = q.length := by omega
    refine Ev.succ ?_
    simp only [portmanteauref16_TimeText.l0]
    rw [e1, bt_mk (q ++ [c]) q [] c rfl, n1, mk_take, List.take_left]
    refine Ev.pos (by omega) (Ev.pos (by omega) ?_)
    by_cases h : c = 48
    · refine Ev.pos (c48.2 h) (Ev.pos (by omega) ?_)
      rw [h, trim_snoc48] at h1 ⊢
      exact ih q hq (by omega) h1
    · have z1 : (⟨#[46]⟩ : ByteArray).size = 1 := rfl
      refine Ev.neg (fun h2 => h (c48.1 h2)) (Ev.pos (by omega) (Ev.pos (by rw [ba_size]; omega) (ev_eq (Ev.now _) ?_)))
      rw [trim_snoc q c h]
theorem refTextU_j0 (sign : ByteArray) (hs : sign.size ≤ 1) (u : Nat) (hu : u ≤ 9223372036854775808) : Ev (fun k => portmanteauref16_TimeText.j0 k (u : Int) sign) (sign ++ (⟨(textU u).toArray⟩ : ByteArray)) := by
  have hm := Nat.mod_lt u (show 0 < 1000000000 by decide)
  have e1 : wrap64 (IntKind.u64.wrap (Int.tdiv (u : Int) 1000000000)) = ((u / 1000000000 : Nat) : Int) := by rw [tdiv_nat, wrap_nat _ (by omega)]
  have e2 : wrap64 (IntKind.u64.wrap (Int.tmod (u : Int) 1000000000 + 1000000000)) = ((1000000000 + u % 1000000000 : Nat) : Int) := by
    rw [tmod_nat]
    have := wrap_nat (1000000000 + u % 1000000000) (by omega)
    rw [← this]
    congr 2
    omega
  have l1 : (Lib.decDigits (u / 1000000000)).length ≤ 20 := by rw [Lib.decDigits_length]; exact Lib.nDigits_le20 _ (by omega)
  have d1 := digits13_ev ((u / 1000000000 : Nat) : Int) (by omega) (by omega)
  rw [itoa_nat] at d1
  have d2 := digits13_ev ((1000000000 + u % 1000000000 : Nat) : Int) (by omega) (by omega)
  rw [itoa_nat] at d2
  refine Ev.succ ?_
  simp only [portmanteauref16_TimeText.j0]
  rw [e1, e2, tmod_nat]
  clear e1 e2
  refine Ev.bind d1 ?_
  have z1 : (⟨(Lib.decDigits (u / 1000000000)).toArray⟩ : ByteArray).size ≤ 20 := by rw [ba_len]; exact l1
  refine Ev.pos (by omega) ?_
  by_cases h0 : u % 1000000000 = 0
  · refine Ev.pos (by omega) (ev_eq (Ev.now _) ?_)
    unfold textU
    rw [if_pos h0, List.append_nil]
  · refine Ev.neg (by omega) ?_
    refine Ev.bind d2 ?_
    have hl10 : (Lib.decDigits (1000000000 + u % 1000000000)).length = 10 := by
      rw [Lib.decDigits_length]
      exact Lib.nDigits_unique 9 _ (by omega) (by omega)
    have z2 : (⟨(Lib.decDigits (1000000000 + u % 1000000000)).toArray⟩ : ByteArray).size = 10 := by rw [ba_len]; exact hl10
    refine Ev.pos (by omega) ?_
    rw [mk_drop]
    obtain ⟨n1, n2, n3⟩ := nine_facts _ hm
    obtain ⟨t1, t2, t3, t4⟩ := trim_nine _ hm h0
    have hsz1 : (sign ++ (⟨(Lib.decDigits (u / 1000000000)).toArray⟩ : ByteArray)).size ≤ 21 := by rw [ba_size]; omega
    have := ref_trim (sign ++ (⟨(Lib.decDigits (u / 1000000000)).toArray⟩ : ByteArray)) (by omega) 9 (nine (u % 1000000000)) n1 (by decide) t1
    refine ev_eq this ?_
    unfold textU
    rw [if_neg h0]
    apply ba_ext
    simp only [ba_append]
    simp
theorem RefTimeText_ev (n : Int) (h0 : -9223372036854775808 ≤ n) (h1 : n ≤ 9223372036854775807) : Ev (fun k => portmanteauref16_TimeText.f k n) (⟨(textOf n).toArray⟩ : ByteArray) := by
  unfold portmanteauref16_TimeText.f textOf
  by_cases hn : n < 0
  · rw [if_pos hn, nat_abs_neg n h0 hn]
    refine Ev.pos hn (ev_eq (refTextU_j0 _ (by decide) n.natAbs (by omega)) ?_)
    apply ba_ext
    simp only [ba_append]
    simp
  · rw [if_neg hn, nat_abs_pos n h1 hn]
    refine Ev.neg hn (ev_eq (refTextU_j0 _ (by decide) n.natAbs (by omega)) ?_)
    apply ba_ext
    simp only [ba_append]
    simp
end Go.Proofs.YtmmmmalicndkeaaDoor.X
