/- PaxNanos in plain words: it answers true, for all numbers. -/
import Derived.Test.YtmmmmalicndkeaaDoorX28
import Derived.Test.YtmmmmalicndkeaaDoorPaxAwake
import Derived.Test.YtmmmmalicndkeaaDoorTime
import Derived.Test.YtmmmmalicndkeaaDoorBits
namespace Go.Proofs.YtmmmmalicndkeaaDoor.X
open Go.RowKit Go.Proofs.YtmmmmalicndkeaaDoorW.PrintWords Go.Proofs.YtmmmmalicndkeaaDoorW.PrintLast Go.Proofs.YtmmmmalicndkeaaDoorW.PrintMore
set_option linter.unusedVariables false
set_option linter.unusedSimpArgs false

theorem dig18_l0 : ∀ (u : Nat) (s : ByteArray), u ≤ 9223372036854775807 → s.size + Lib.nDigits u ≤ 1000 →
    Ev (fun k => portmanteaulaw18_digits.l0 k (u : Int) s) ((⟨(Lib.decDigits u).toArray⟩ : ByteArray) ++ s) := by
  intro u
  induction u using Nat.strongRecOn with
  | _ u ih =>
    intro s hu hsz
    refine Ev.succ ?_
    simp only [portmanteaulaw18_digits.l0]
    by_cases h : u < 10
    · have e1 : ((u : Int)).toNat = u := by omega
      have e2 : wrap64 ((u : Int) + 1) = ((u + 1 : Nat) : Int) := by rw [w64 (by omega) (by omega)]; simp
      have e3 : (((u + 1 : Nat) : Int)).toNat = u + 1 := by omega
      have hp := dec_piece u h
      have hpz : ((⟨#[UInt8.ofNat (48 + u)]⟩ : ByteArray)).size = 1 := rfl
      have hn := Lib.nDigits_small h
      refine Ev.neg (by omega) ?_
      rw [e2, e1, e3, hp]
      refine Ev.pos (by omega) (Ev.pos (by omega) (Ev.pos (by omega) (Ev.pos (by omega) (ev_eq (Ev.now _) ?_))))
      rw [Lib.decDigits_one h]
    · have hd : u % 10 < 10 := Nat.mod_lt _ (by decide)
      have hn := Lib.nDigits_big h
      have hlt : u / 10 < u := by omega
      have hle : u / 10 ≤ 9223372036854775807 := by omega
      have hs2 : 1 + s.size + Lib.nDigits (u / 10) ≤ 1000 := by omega
      have hs3 : 1 + s.size ≤ 9223372036854775807 := by omega
      have hi := ih (u / 10) hlt ((⟨#[UInt8.ofNat (48 + u % 10)]⟩ : ByteArray) ++ s) hle (by rw [ba_size]; exact hs2)
      have e1 : Int.tdiv (u : Int) 10 = ((u / 10 : Nat) : Int) := by rw [Int.tdiv_eq_ediv_of_nonneg (Int.natCast_nonneg u)]; rfl
      have e2 : Int.tmod (u : Int) 10 = ((u % 10 : Nat) : Int) := by rw [Int.tmod_eq_emod_of_nonneg (Int.natCast_nonneg u)]; rfl
      have hp := dec_piece (u % 10) hd
      have hdec : Lib.decDigits u = Lib.decDigits (u / 10) ++ [UInt8.ofNat (48 + u % 10)] := by rw [Lib.decDigits.eq_1 u, dif_neg h]
      generalize hq : u % 10 = q at hd e2 hp hi hdec ⊢
      generalize u / 10 = v at hle e1 hi hdec ⊢
      have hgt : (u : Int) > 9 := by omega
      clear ih hn hlt hs2 hsz
      have e3 : ((q : Int)).toNat = q := by omega
      have e4 : wrap64 ((q : Int) + 1) = ((q + 1 : Nat) : Int) := by rw [w64 (by omega) (by omega)]; simp
      have e5 : (((q + 1 : Nat) : Int)).toNat = q + 1 := by omega
      have e6 : wrap64 (v : Int) = (v : Int) := w64 (by omega) (by omega)
      refine Ev.pos hgt ?_
      rw [e1, e2, e4, e3, e5, hp, e6]
      clear e1 e2 e4 e3 e5 hp e6
      refine Ev.pos (by omega) (Ev.pos (by omega) (Ev.pos (by omega) (Ev.pos hs3 (ev_eq hi ?_))))
      apply ba_ext
      simp only [ba_append]
      rw [hdec]
      simp
theorem dig18_ev (u : Nat) (hu : u ≤ 9223372036854775807) : Ev (fun k => portmanteaulaw18_digits.f k (u : Int)) (⟨(Lib.decDigits u).toArray⟩ : ByteArray) := by
  unfold portmanteaulaw18_digits.f
  have hl := Lib.nDigits_le20 u (by omega)
  refine ev_eq (dig18_l0 u _ hu (by rw [show (⟨#[]⟩ : ByteArray).size = 0 from rfl]; omega)) ?_
  apply ba_ext
  rw [ba_append]
  simp
theorem wOk_nine (S : Nat) (h : S < 1000000000) : wOk (nine S) = true := by
  obtain ⟨n1, n2, n3⟩ := nine_facts S h
  unfold wOk
  rw [n1, n2]
  rfl
theorem body_nine (neg : Bool) (S : Nat) (h : S < 1000000000) (f : List UInt8) (hf : fOk f = true) : timeBody neg (nine S ++ 46 :: f) = timeFin neg (S * 1000000000 + valF 0 (pad9 f)) := by
  obtain ⟨n1, n2, n3⟩ := nine_facts S h
  unfold timeBody
  rw [cut_at 46 _ _ (no46 _ n2)]
  unfold timeW
  rw [wOk_nine S h, hf, time_split, n3]
  simp only [Bool.not_true, Bool.false_or, Bool.and_self, if_true]
theorem body_bad (neg : Bool) (S : Nat) (h : S < 1000000000) : timeBody neg (nine S ++ [46]) = (0, false) := by
  obtain ⟨n1, n2, n3⟩ := nine_facts S h
  unfold timeBody
  rw [cut_at 46 _ _ (no46 _ n2)]
  unfold timeW
  rw [show fOk [] = false from rfl]
  simp only [Bool.not_true, Bool.false_or, Bool.and_false, Bool.false_eq_true, if_false]
theorem body_none (neg : Bool) (l : List UInt8) : timeBody neg (46 :: l) = (0, false) := by
  unfold timeBody
  have := cut_at 46 [] l rfl
  rw [List.nil_append] at this
  rw [this]
  unfold timeW
  rw [show wOk [] = false from rfl]
  simp only [Bool.false_and, Bool.false_eq_true, if_false]
theorem timeOf_plain (c : UInt8) (r : List UInt8) (h : ¬ c = 45) : timeOf (c :: r) = timeBody false (c :: r) := by
  unfold timeOf
  simp only [if_neg h]
theorem timeOf_nine (S : Nat) (h : S < 1000000000) (t : List UInt8) : timeOf (nine S ++ t) = timeBody false (nine S ++ t) := by
  obtain ⟨n1, n2, n3⟩ := nine_facts S h
  cases hc : nine S with
  | nil => rw [hc] at n1; simp at n1
  | cons c r =>
    rw [hc, List.all_cons, Bool.and_eq_true] at n2
    rw [List.cons_append]
    refine timeOf_plain c _ ?_
    intro e
    rw [e] at n2
    have := n2.1
    revert this
    decide
theorem timeOf_minus (r : List UInt8) : timeOf (45 :: r) = timeBody true r := by
  unfold timeOf
  simp only [if_true]
theorem fOk_app (N : Nat) (h : N < 1000000000) (t : List UInt8) (ht : t.all isD = true) (hl : t.length ≤ 21) : fOk (nine N ++ t) = true ∧ valF 0 (pad9 (nine N ++ t)) = N := by
  obtain ⟨n1, n2, n3⟩ := nine_facts N h
  refine ⟨?_, ?_⟩
  · unfold fOk
    rw [List.all_append, n2, ht, decide_eq_true (show 1 ≤ (nine N ++ t).length by simp; omega), decide_eq_true (show (nine N ++ t).length ≤ 30 by simp; omega)]
    rfl
  · rw [pad9_long _ (by simp; omega)]
    have : (nine N ++ t).take 9 = nine N := by rw [← n1, List.take_left]
    rw [this, n3]
theorem nanos_main (S N M : Nat) (hS : S < 1000000000) (hN : N < 1000000000) (hM : M < 65536) (k0 : Int) :
    timeOf (nine S ++ 46 :: nine N) = (((S * 1000000000 + N : Nat) : Int), true) ∧ timeOf (nine S ++ 46 :: (nine N ++ Lib.decDigits M)) = (((S * 1000000000 + N : Nat) : Int), true) ∧
    timeOf (45 :: (nine S ++ 46 :: (nine N ++ [48]))) = (-((S * 1000000000 + N : Nat) : Int), true) ∧ timeOf (nine S ++ [46]) = (0, false) ∧ timeOf (46 :: nine N) = (0, false) := by
  have hd := dec_isD M
  have hdl : (Lib.decDigits M).length ≤ 20 := by rw [Lib.decDigits_length]; exact Lib.nDigits_le20 _ (by omega)
  obtain ⟨a1, a2⟩ := fOk_app N hN [] rfl (by decide)
  obtain ⟨b1, b2⟩ := fOk_app N hN (Lib.decDigits M) hd (by omega)
  obtain ⟨c1, c2⟩ := fOk_app N hN [48] rfl (by decide)
  rw [List.append_nil] at a1 a2
  refine ⟨?_, ?_, ?_, ?_, ?_⟩
  · rw [timeOf_nine S hS, body_nine false S hS _ a1, a2]
    unfold timeFin
    rw [if_neg (show ¬ (false = true) by decide), if_pos (by omega)]
  · rw [timeOf_nine S hS, body_nine false S hS _ b1, b2]
    unfold timeFin
    rw [if_neg (show ¬ (false = true) by decide), if_pos (by omega)]
  · rw [timeOf_minus, body_nine true S hS _ c1, c2]
    unfold timeFin
    rw [if_pos rfl, if_pos (by omega)]
  · rw [timeOf_nine S hS, body_bad false S hS]
  · rw [timeOf_plain 46 _ (by decide), body_none]
theorem ex_nine (S : Nat) : (⟨(Lib.decDigits (1000000000 + S)).toArray⟩ : ByteArray).extract 1 (⟨(Lib.decDigits (1000000000 + S)).toArray⟩ : ByteArray).size = (⟨(nine S).toArray⟩ : ByteArray) := by
  apply ba_ext
  rw [ex_drop]
  simp [nine]
theorem PaxNanos : portmanteaulaw18_PaxNanos.Pure := by
  intro a0 a1 a2 w0 w1 w2
  obtain ⟨S, hS, hSl⟩ : ∃ S : Nat, Int.tmod (bits .and .i64 a0 1073741823) 1000000000 = (S : Int) ∧ S < 1000000000 := by
    rw [and30, Int.tmod_eq_emod_of_nonneg (by omega)]
    exact ⟨(a0 % 1073741824 % 1000000000).toNat, by omega, by omega⟩
  obtain ⟨N, hN, hNl⟩ : ∃ N : Nat, Int.tmod (bits .and .i64 a1 1073741823) 1000000000 = (N : Int) ∧ N < 1000000000 := by
    rw [and30, Int.tmod_eq_emod_of_nonneg (by omega)]
    exact ⟨(a1 % 1073741824 % 1000000000).toNat, by omega, by omega⟩
  obtain ⟨M, hM, hMl⟩ : ∃ M : Nat, bits .and .i64 a2 65535 = (M : Int) ∧ M < 65536 := by
    rw [and65535]
    exact ⟨(a2 % 65536).toNat, by omega, by omega⟩
  obtain ⟨t1, t2, t3, t4, t5⟩ := nanos_main S N M hSl hNl hMl 0
  have d1 := dig18_ev (1000000000 + S) (by omega)
  have d2 := dig18_ev (1000000000 + N) (by omega)
  have d3 := dig18_ev M (by omega)
  have e1 : wrap64 ((S : Int) + 1000000000) = ((1000000000 + S : Nat) : Int) := by rw [w64 (by omega) (by omega)]; omega
  have e2 : wrap64 ((N : Int) + 1000000000) = ((1000000000 + N : Nat) : Int) := by rw [w64 (by omega) (by omega)]; omega
  have e3 : wrap64 (wrap64 ((S : Int) * 1000000000) + (N : Int)) = ((S * 1000000000 + N : Nat) : Int) := by
    rw [w64 (x := (S : Int) * 1000000000) (by omega) (by omega), w64 (by omega) (by omega)]
    omega
  have e4 : wrap64 (-((S * 1000000000 + N : Nat) : Int)) = -((S * 1000000000 + N : Nat) : Int) := w64 (by omega) (by omega)
  have x1 := ex_nine S
  have x2 := ex_nine N
  have l1 : (⟨(Lib.decDigits (1000000000 + S)).toArray⟩ : ByteArray).size = 10 := by
    rw [ba_len, Lib.decDigits_length]
    exact Lib.nDigits_unique 9 _ (by omega) (by omega)
  have l2 : (⟨(Lib.decDigits (1000000000 + N)).toArray⟩ : ByteArray).size = 10 := by
    rw [ba_len, Lib.decDigits_length]
    exact Lib.nDigits_unique 9 _ (by omega) (by omega)
  have l3 : (⟨(Lib.decDigits M).toArray⟩ : ByteArray).size ≤ 20 := by
    rw [ba_len, Lib.decDigits_length]
    exact Lib.nDigits_le20 _ (by omega)
  have n1 : (⟨(nine S).toArray⟩ : ByteArray).size = 9 := by rw [ba_len]; exact (nine_facts S hSl).1
  have n2 : (⟨(nine N).toArray⟩ : ByteArray).size = 9 := by rw [ba_len]; exact (nine_facts N hNl).1
  have z1 : (⟨#[46]⟩ : ByteArray).size = 1 := rfl
  have z2 : (⟨#[45]⟩ : ByteArray).size = 1 := rfl
  have z3 : (⟨#[48]⟩ : ByteArray).size = 1 := rfl
  have G : ∀ (b : ByteArray) (l : List UInt8) (r : Int × Bool), b.data.toList = l → b.size ≤ 1000000 → timeOf l = r → Ev (fun k => pax_Time.f k b) r := by
    intro b l r h1 h2 h3
    have := Time_ev b h2
    rw [h1, h3] at this
    exact this
  have q1 := G (((⟨(nine S).toArray⟩ : ByteArray) ++ (⟨#[46]⟩ : ByteArray)) ++ (⟨(nine N).toArray⟩ : ByteArray)) _ _ (by first | (simp only [ba_append]; done) | (simp only [ba_append]; simp)) (by rw [ba_size, ba_size]; omega) t1
  have q2 := G ((((⟨(nine S).toArray⟩ : ByteArray) ++ (⟨#[46]⟩ : ByteArray)) ++ (⟨(nine N).toArray⟩ : ByteArray)) ++ (⟨(Lib.decDigits M).toArray⟩ : ByteArray)) _ _ (by first | (simp only [ba_append]; done) | (simp only [ba_append]; simp)) (by rw [ba_size, ba_size, ba_size]; omega) t2
  have q3 := G (((((⟨#[45]⟩ : ByteArray) ++ (⟨(nine S).toArray⟩ : ByteArray)) ++ (⟨#[46]⟩ : ByteArray)) ++ (⟨(nine N).toArray⟩ : ByteArray)) ++ (⟨#[48]⟩ : ByteArray)) _ _ (by first | (simp only [ba_append]; done) | (simp only [ba_append]; simp)) (by rw [ba_size, ba_size, ba_size, ba_size]; omega) t3
  have q4 := G ((⟨(nine S).toArray⟩ : ByteArray) ++ (⟨#[46]⟩ : ByteArray)) _ _ (by first | (simp only [ba_append]; done) | (simp only [ba_append]; simp)) (by rw [ba_size]; omega) t4
  have q5 := G ((⟨#[46]⟩ : ByteArray) ++ (⟨(nine N).toArray⟩ : ByteArray)) _ _ (by first | (simp only [ba_append]; done) | (simp only [ba_append]; simp)) (by rw [ba_size]; omega) t5
  refine Ev.rounds (g := fun k => portmanteaulaw18_PaxNanos.f k a0 a1 a2) ?_
  unfold portmanteaulaw18_PaxNanos.f
  rw [hS, hN, hM, e1, e2]
  clear hS hN hM e1 e2 w0 w1 w2
  refine Ev.bind d1 (Ev.pos (by omega) ?_)
  rw [x1]
  refine Ev.bind d2 (Ev.pos (by omega) ?_)
  rw [x2]
  refine Ev.bind d3 ?_
  refine Ev.pos (by omega) (Ev.pos (by rw [ba_size]; omega) ?_)
  refine Ev.bind q1 (Ev.pos (by rw [ba_size, ba_size]; omega) ?_)
  refine Ev.bind q2 (Ev.pos (by omega) (Ev.pos (by rw [ba_size]; omega) (Ev.pos (by rw [ba_size, ba_size]; omega) (Ev.pos (by rw [ba_size, ba_size, ba_size]; omega) ?_))))
  refine Ev.bind q3 (Ev.bind q4 (Ev.pos (by omega) (Ev.bind q5 ?_)))
  rw [e3, e4]
  dsimp only
  refine Ev.pos (by first | trivial | rfl) (Ev.pos (by first | trivial | rfl) (Ev.pos (by first | trivial | rfl) (Ev.pos (by first | trivial | rfl) (Ev.pos (by first | trivial | rfl) (Ev.pos (by first | trivial | rfl) (Ev.neg (by decide) (Ev.neg (by decide) ?_)))))))
  exact Ev.bind awake18 (Ev.now _)
end Go.Proofs.YtmmmmalicndkeaaDoor.X
