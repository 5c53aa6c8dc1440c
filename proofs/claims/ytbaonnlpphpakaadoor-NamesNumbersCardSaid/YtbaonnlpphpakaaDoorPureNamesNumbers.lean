/- The names have the document's numbers: the plain law of NamesNumbers. -/
import Derived.Test.YtbaonnlpphpakaaDoorX1
import Derived.Test.YtbaonnlpphpakaaDoorExt
namespace Go.Proofs.YtbaonnlpphpakaaDoor.X
open Go.RowKit Go.Proofs.YtbaonnlpphpakaaDoorW.PrintWords Go.Proofs.YtbaonnlpphpakaaDoorW.PrintLast Go.Proofs.YtbaonnlpphpakaaDoorW.PrintMore
set_option linter.unusedVariables false
set_option linter.unusedSimpArgs false

theorem errno21 : api_Errno_Error.f 21 = some (⟨#[101, 114, 114, 111, 114, 32, 50, 49]⟩ : ByteArray) := by
  unfold api_Errno_Error.f Lib.itoa
  rw [if_pos (by decide), if_pos (by decide), if_neg (by decide), show (21 : Int).toNat = 21 by rfl, Lib.decDigits_two (by decide) (by decide)]
  rfl
theorem errno0 : api_Errno_Error.f 0 = some (⟨#[101, 114, 114, 111, 114, 32, 48]⟩ : ByteArray) := by
  unfold api_Errno_Error.f Lib.itoa
  rw [if_pos (by decide), if_pos (by decide), if_neg (by decide), show (0 : Int).toNat = 0 by rfl, Lib.decDigits_one (by decide)]
  rfl
theorem names_go (L : List S25) (hL : L.length = 50) (hall : ∀ i : Nat, i < 50 → (rd_T25 L i).f0 = (rd_T25 L i).f1) :
    ∀ n : Nat, n ≤ 50 → portmanteaulaw0_NamesNumbers.l0 (n + 1) L ((50 - n : Nat) : Int) = some true
  | 0, _ => by
    simp only [portmanteaulaw0_NamesNumbers.l0]
    rw [if_neg (by rw [hL]; decide), errno21, errno0]
    simp [ba_toList]
  | n + 1, h => by
    have ih := names_go L hL hall n (by omega)
    rw [portmanteaulaw0_NamesNumbers.l0, if_pos (by rw [hL]; omega), if_pos (by omega), if_pos (hall _ (by omega))]
    rw [show wrap64 (((50 - (n + 1) : Nat) : Int) + 1) = ((50 - n : Nat) : Int) by unfold wrap64; omega]
    exact ih
theorem NamesNumbers : portmanteaulaw0_NamesNumbers.Pure := by
  refine ⟨51, ?_⟩
  unfold portmanteaulaw0_NamesNumbers.f portmanteaulaw0_all.f
  simp only [Option.bind_some]
  exact names_go _ rfl (by decide +kernel) 50 (by decide)
end Go.Proofs.YtbaonnlpphpakaaDoor.X
