/- The plain law of the document's Digits. -/
import Derived.Test.YtmmmmalicndkeaaDoorX30
import Derived.Test.YtmmmmalicndkeaaDoorDec
import Derived.Lib.ItoaLen
namespace Go.Proofs.YtmmmmalicndkeaaDoor.X
open Go.RowKit Go.Proofs.YtmmmmalicndkeaaDoorW.PrintWords Go.Proofs.YtmmmmalicndkeaaDoorW.PrintLast Go.Proofs.YtmmmmalicndkeaaDoorW.PrintMore
set_option linter.unusedVariables false
set_option linter.unusedSimpArgs false

theorem dig_l0 (sign : ByteArray) (hs : sign.size ≤ 1) : ∀ (u : Nat) (s : ByteArray), u < 18446744073709551616 → s.size + Lib.nDigits u ≤ 1000 →
    Ev (fun k => portmanteauref13_Digits.l0 k (u : Int) s sign) (sign ++ (⟨(Lib.decDigits u).toArray⟩ : ByteArray) ++ s) := by
  intro u
  induction u using Nat.strongRecOn with
  | _ u ih =>
    intro s hu hsz
    by_cases h : u < 10
    · refine Ev.step1 fun k => ?_
      simp only [portmanteauref13_Digits.l0]
      have e1 : (u : Int).toNat = u := by omega
      have e2 : ((u : Int) + 1).toNat = u + 1 := by omega
      have hp := dec_piece u h
      have hpz : ((⟨#[UInt8.ofNat (48 + u)]⟩ : ByteArray)).size = 1 := rfl
      rw [if_neg (by omega), w64 (by omega) (by omega), w64 (by omega) (by omega), if_pos (by omega), if_pos (by omega), if_pos (by omega), e1, e2, hp, if_pos (by rw [hpz]; omega), if_pos (by rw [ba_size, hpz]; omega), Lib.decDigits_one h]
    · have hd : u % 10 < 10 := Nat.mod_lt _ (by decide)
      have hn := Lib.nDigits_big h
      have hpz : ((⟨#[UInt8.ofNat (48 + u % 10)]⟩ : ByteArray)).size = 1 := rfl
      have hi := ih (u / 10) (by omega) ((⟨#[UInt8.ofNat (48 + u % 10)]⟩ : ByteArray) ++ s) (by omega) (by rw [ba_size, hpz]; omega)
      refine Ev.step (fun k => ?_) (ev_eq hi ?_)
      · simp only [portmanteauref13_Digits.l0]
        have e1 : Int.tdiv (u : Int) 10 = ((u / 10 : Nat) : Int) := by rw [Int.tdiv_eq_ediv_of_nonneg (by omega)]; rfl
        have e2 : Int.tmod (u : Int) 10 = ((u % 10 : Nat) : Int) := by rw [Int.tmod_eq_emod_of_nonneg (by omega)]; rfl
        have e3 : (((u % 10 : Nat) : Int)).toNat = u % 10 := by omega
        have e4 : (((u % 10 : Nat) : Int) + 1).toNat = u % 10 + 1 := by omega
        have e5 : IntKind.u64.wrap ((u / 10 : Nat) : Int) = ((u / 10 : Nat) : Int) := by rw [IntKind.wrap_u64]; omega
        have hp := dec_piece (u % 10) hd
        rw [if_pos (by omega), e1, e2, e5, w64 (by omega) (by omega), w64 (by omega) (by omega), if_pos (by omega), if_pos (by omega), if_pos (by omega), e3, e4, hp, if_pos (by rw [hpz]; omega)]
      · apply ba_ext
        simp only [ba_append]
        rw [Lib.decDigits.eq_1 u, dif_neg h]
        simp
theorem digits13_ev (n : Int) (h0 : -9223372036854775808 ≤ n) (h1 : n ≤ 9223372036854775807) : Ev (fun k => portmanteauref13_Digits.f k n) (⟨(Lib.itoa n).toArray⟩ : ByteArray) := by
  unfold portmanteauref13_Digits.f Lib.itoa
  by_cases hn : n < 0
  · have e : IntKind.u64.wrap (-(IntKind.u64.wrap n)) = ((n.natAbs : Nat) : Int) := by
      rw [IntKind.wrap_u64, IntKind.wrap_u64]; omega
    simp only [hn, if_true, e]
    have hl := Lib.nDigits_le20 n.natAbs (by omega)
    refine Ev.succ ?_
    simp only [portmanteauref13_Digits.j0]
    refine ev_eq (dig_l0 _ (by decide) n.natAbs _ (by omega) (by rw [show (⟨#[]⟩ : ByteArray).size = 0 by rfl]; omega)) ?_
    apply ba_ext
    simp only [ba_append]
    simp
  · have e : IntKind.u64.wrap n = ((n.toNat : Nat) : Int) := by
      rw [IntKind.wrap_u64]; omega
    simp only [hn, if_false, e]
    have hl := Lib.nDigits_le20 n.toNat (by omega)
    refine Ev.succ ?_
    simp only [portmanteauref13_Digits.j0]
    refine ev_eq (dig_l0 _ (by decide) n.toNat _ (by omega) (by rw [show (⟨#[]⟩ : ByteArray).size = 0 by rfl]; omega)) ?_
    apply ba_ext
    simp only [ba_append]
    simp

end Go.Proofs.YtmmmmalicndkeaaDoor.X
