/- What the statements of layer 18 hold fixed ('awake'). -/
import Derived.Test.YtmmmmalicndkeaaDoorX25
import Derived.Test.YtmmmmalicndkeaaDoorPax
namespace Go.Proofs.YtmmmmalicndkeaaDoor.X
open Go.RowKit Go.Proofs.YtmmmmalicndkeaaDoorW.PrintWords Go.Proofs.YtmmmmalicndkeaaDoorW.PrintLast Go.Proofs.YtmmmmalicndkeaaDoorW.PrintMore
set_option linter.unusedVariables false
set_option linter.unusedSimpArgs false

theorem recN5 : recN 5 = 6 := by
  unfold recN recGo
  rw [if_pos (by rw [Lib.nDigits_small (by decide)])]
theorem recL_ab : recL [97] [98] = [54, 32, 97, 61, 98, 10] := by
  unfold recL
  rw [show ([97] : List UInt8).length + ([98] : List UInt8).length + 3 = 5 from rfl, recN5, Lib.decDigits_one (by decide)]
  rfl
def abKV : KV := ⟨(⟨#[97]⟩ : ByteArray), (⟨#[98]⟩ : ByteArray)⟩
theorem enc_ab : encOf [abKV] = (I [54, 32, 97, 61, 98, 10], true) := by
  unfold encOf
  rw [encL_cat [abKV] (by intro x hx; rw [List.mem_singleton.1 hx]; decide)]
  have e : catL [abKV] = [54, 32, 97, 61, 98, 10] := by
    unfold catL catL
    rw [show recL abKV.f0.data.toList abKV.f1.data.toList = recL [97] [98] from rfl, recL_ab]
    rfl
  rw [e]
  rfl
theorem conv_L_some (l : List Int) (h : l.length ≤ 140737488355328) : conv_L.f l = some l := by unfold conv_L.f; rw [if_pos h]
theorem time_m15 : pax_Time.f 60 (⟨#[45, 49, 46, 53]⟩ : ByteArray) = some (-1500000000, true) := by decide +kernel
theorem dec_1500000000 : Lib.decDigits 1500000000 = [49, 53, 48, 48, 48, 48, 48, 48, 48, 48] := by
  simp [Lib.decDigits]
theorem text_m15 : pax_TimeText.f 5 (-1500000000) = some (⟨#[45, 49, 46, 53]⟩ : ByteArray) := by
  have h1 : num_Digits.f (wrap64 (IntKind.u64.wrap (Int.tdiv (IntKind.u64.wrap (-(IntKind.u64.wrap (-1500000000)))) 1000000000))) = some (⟨#[49]⟩ : ByteArray) := by
    rw [show wrap64 (IntKind.u64.wrap (Int.tdiv (IntKind.u64.wrap (-(IntKind.u64.wrap (-1500000000)))) 1000000000)) = ((1 : Nat) : Int) by decide +kernel, digits_nat 1 (by decide), Lib.decDigits_one (by decide)]
    rfl
  have h2 : num_Digits.f (wrap64 (IntKind.u64.wrap (1000000000 + (Int.tmod (IntKind.u64.wrap (-(IntKind.u64.wrap (-1500000000)))) 1000000000)))) = some (⟨#[49, 53, 48, 48, 48, 48, 48, 48, 48, 48]⟩ : ByteArray) := by
    rw [show wrap64 (IntKind.u64.wrap (1000000000 + (Int.tmod (IntKind.u64.wrap (-(IntKind.u64.wrap (-1500000000)))) 1000000000))) = ((1500000000 : Nat) : Int) by decide +kernel, digits_nat 1500000000 (by decide), dec_1500000000]
  unfold pax_TimeText.f
  rw [if_pos (by decide)]
  rw [show (5 : Nat) = 4 + 1 from rfl]
  simp only [pax_TimeText.j0]
  rw [h1]
  simp only [Option.bind_some]
  rw [h2]
  decide +kernel
theorem awake18 : Ev (fun k => portmanteaulaw18_awake.f k) true := by
  unfold portmanteaulaw18_awake.f
  have h1 := encode_ev [abKV] (by decide) (by decide)
  rw [enc_ab] at h1
  refine Ev.bind h1 ?_
  refine Ev.bind (Ev.const (conv_L_some _ (by decide))) ?_
  have e : catL [abKV] = [54, 32, 97, 61, 98, 10] := by
    unfold catL catL
    rw [show recL abKV.f0.data.toList abKV.f1.data.toList = recL [97] [98] from rfl, recL_ab]
    rfl
  have h2 := decode_ev [abKV] (by intro x hx; rw [List.mem_singleton.1 hx]; decide) (by intro x hx; rw [List.mem_singleton.1 hx]; decide) (by rw [e]; decide) (by decide)
  rw [e] at h2
  refine Ev.bind h2 ?_
  refine Ev.bind (Ev.of (pax_Time.mono _) time_m15) ?_
  dsimp only
  rw [str_I]
  simp only [ba_toList]
  refine Ev.pos (by first | trivial | rfl | decide) (Ev.pos (by first | trivial | rfl | decide) (Ev.pos (by first | trivial | rfl | decide) (Ev.pos (by first | trivial | rfl | decide) (Ev.pos (by first | trivial | rfl | decide) (Ev.pos (by first | trivial | rfl | decide) (Ev.pos (by first | trivial | rfl | decide) (Ev.pos (by first | trivial | rfl | decide) ?_)))))))
  refine Ev.bind (Ev.of (pax_TimeText.mono _) text_m15) ?_
  exact Ev.now _
end Go.Proofs.YtmmmmalicndkeaaDoor.X
