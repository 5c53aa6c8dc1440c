/-
  DERIVED. GIVEN WITH THE SEED: THE CARDS: each row of YtmmmmalicndkeaaDoorRows.lean that lists a variable, with what it lists TIED to the program's text (the seventh form; the later family's looks); each row that meets fmt, with fmt's text TOLD by the authors' own Lean function (tested against real Go, not proved from fmt's source: count such statements apart). THE CARD IS WHAT COUNTS. Prove the row's statement (the work); the ties are given (YtmmmmalicndkeaaDoorTie.lean); close each card by the builder's one call (the guide's Derived/Test/ToyasCard.lean, 'card_holds'). Laid BY PROGRAM, IN A SANDBOX (cutbox-door.mjs). By AI agents, Wed Nov 11 2026. No macro, syntax, notation, axiom, sorry.
-/
import Derived.Test.YtmmmmalicndkeaaDoorRows
import GoSem.ClaimSeven
namespace Go.Proofs.YtmmmmalicndkeaaDoor
namespace Rows

/-- THE TIED CARD OF 'portmanteaulaw12.NameBounds'. -/
def nameBoundsCard : Claim7 := { stood := { row := nameBoundsRow, standIns := [], harness := (true, "08a40060147d161f72e6f8112af53b3de44aaa0293ae7abb90bc67c7d738ab10"), looks := true }, kinds := [], alts := [], laidByText := true, laidKinds := [.data, .pinned], laidTests := true, laidLooks := .later }
def NameBoundsCardSaid : Prop := Claim7.holds Tryd.pinned (.plain (OpenSpec.ofChange nameBoundsSpec)) nameBoundsCard

/-- THE TIED CARD OF 'portmanteaulaw12.NameParts'. -/
def namePartsCard : Claim7 := { stood := { row := namePartsRow, standIns := [], harness := (true, "08a40060147d161f72e6f8112af53b3de44aaa0293ae7abb90bc67c7d738ab10"), looks := true }, kinds := [], alts := [], laidByText := true, laidKinds := [.data, .pinned], laidTests := true, laidLooks := .later }
def NamePartsCardSaid : Prop := Claim7.holds Tryd.pinned (.plain (OpenSpec.ofChange namePartsSpec)) namePartsCard

/-- THE TIED CARD OF 'portmanteaulaw12.NameBack'. -/
def nameBackCard : Claim7 := { stood := { row := nameBackRow, standIns := [], harness := (true, "08a40060147d161f72e6f8112af53b3de44aaa0293ae7abb90bc67c7d738ab10"), looks := true }, kinds := [], alts := [], laidByText := true, laidKinds := [.data, .pinned], laidTests := true, laidLooks := .later }
def NameBackCardSaid : Prop := Claim7.holds Tryd.pinned (.plain (OpenSpec.ofChange nameBackSpec)) nameBackCard

/-- THE TIED CARD OF 'portmanteaulaw18.PaxOne'. -/
def paxOneCard : Claim7 := { stood := { row := paxOneRow, standIns := [], harness := (true, "08a40060147d161f72e6f8112af53b3de44aaa0293ae7abb90bc67c7d738ab10"), looks := true }, kinds := [], alts := [], laidByText := true, laidKinds := [.data, .data, .data, .data, .sentinel, .sentinel, .pinned], laidTests := true, laidLooks := .later }
def PaxOneCardSaid : Prop := Claim7.holds Tryd.pinned (.plain (OpenSpec.ofChange paxOneSpec)) paxOneCard

/-- THE TIED CARD OF 'portmanteaulaw18.PaxNanos'. -/
def paxNanosCard : Claim7 := { stood := { row := paxNanosRow, standIns := [], harness := (true, "08a40060147d161f72e6f8112af53b3de44aaa0293ae7abb90bc67c7d738ab10"), looks := true }, kinds := [], alts := [], laidByText := true, laidKinds := [.data, .data, .data, .data, .sentinel, .sentinel, .pinned], laidTests := true, laidLooks := .later }
def PaxNanosCardSaid : Prop := Claim7.holds Tryd.pinned (.plain (OpenSpec.ofChange paxNanosSpec)) paxNanosCard

/-- THE TIED CARD OF 'portmanteaulaw18.PaxCodes'. -/
def paxCodesCard : Claim7 := { stood := { row := paxCodesRow, standIns := [], harness := (true, "08a40060147d161f72e6f8112af53b3de44aaa0293ae7abb90bc67c7d738ab10"), looks := true }, kinds := [], alts := [], laidByText := true, laidKinds := [.data, .data, .data, .data, .sentinel, .sentinel, .pinned], laidTests := true, laidLooks := .later }
def PaxCodesCardSaid : Prop := Claim7.holds Tryd.pinned (.plain (OpenSpec.ofChange paxCodesSpec)) paxCodesCard

/-- THE TIED CARD OF 'portmanteaulaw18.PaxBounds'. -/
def paxBoundsCard : Claim7 := { stood := { row := paxBoundsRow, standIns := [], harness := (true, "08a40060147d161f72e6f8112af53b3de44aaa0293ae7abb90bc67c7d738ab10"), looks := true }, kinds := [], alts := [], laidByText := true, laidKinds := [.data, .data, .data, .data, .sentinel, .sentinel, .pinned], laidTests := true, laidLooks := .later }
def PaxBoundsCardSaid : Prop := Claim7.holds Tryd.pinned (.plain (OpenSpec.ofChange paxBoundsSpec)) paxBoundsCard

/-- THE TIED CARD OF 'portmanteaulaw18.PaxTimes'. -/
def paxTimesCard : Claim7 := { stood := { row := paxTimesRow, standIns := [], harness := (true, "08a40060147d161f72e6f8112af53b3de44aaa0293ae7abb90bc67c7d738ab10"), looks := true }, kinds := [], alts := [], laidByText := true, laidKinds := [.data, .data, .data, .data, .sentinel, .sentinel, .pinned], laidTests := true, laidLooks := .later }
def PaxTimesCardSaid : Prop := Claim7.holds Tryd.pinned (.plain (OpenSpec.ofChange paxTimesSpec)) paxTimesCard

/-- THE TIED CARD OF 'portmanteaulaw18.PaxBack'. -/
def paxBackCard : Claim7 := { stood := { row := paxBackRow, standIns := [], harness := (true, "08a40060147d161f72e6f8112af53b3de44aaa0293ae7abb90bc67c7d738ab10"), looks := true }, kinds := [], alts := [], laidByText := true, laidKinds := [.data, .data, .data, .data, .sentinel, .sentinel, .pinned], laidTests := true, laidLooks := .later }
def PaxBackCardSaid : Prop := Claim7.holds Tryd.pinned (.plain (OpenSpec.ofChange paxBackSpec)) paxBackCard

/-- THE SECOND FORM's CARD OF 'portmanteaulaw12.NameBounds'. -/
def nameBoundsUptoCard : Claim7 := { stood := { row := nameBoundsUptoRow, standIns := [], harness := (true, "08a40060147d161f72e6f8112af53b3de44aaa0293ae7abb90bc67c7d738ab10"), looks := true }, kinds := [], alts := [], laidByText := true, laidKinds := [.data, .pinned], laidTests := true, laidLooks := .later }
def NameBoundsUptoCardSaid : Prop := Claim7.holds Tryd.pinned (.plain (OpenSpec.upto nameBoundsSpec)) nameBoundsUptoCard

/-- THE SECOND FORM's CARD OF 'portmanteaulaw12.NameParts'. -/
def namePartsUptoCard : Claim7 := { stood := { row := namePartsUptoRow, standIns := [], harness := (true, "08a40060147d161f72e6f8112af53b3de44aaa0293ae7abb90bc67c7d738ab10"), looks := true }, kinds := [], alts := [], laidByText := true, laidKinds := [.data, .pinned], laidTests := true, laidLooks := .later }
def NamePartsUptoCardSaid : Prop := Claim7.holds Tryd.pinned (.plain (OpenSpec.upto namePartsSpec)) namePartsUptoCard

/-- THE SECOND FORM's CARD OF 'portmanteaulaw12.NameBack'. -/
def nameBackUptoCard : Claim7 := { stood := { row := nameBackUptoRow, standIns := [], harness := (true, "08a40060147d161f72e6f8112af53b3de44aaa0293ae7abb90bc67c7d738ab10"), looks := true }, kinds := [], alts := [], laidByText := true, laidKinds := [.data, .pinned], laidTests := true, laidLooks := .later }
def NameBackUptoCardSaid : Prop := Claim7.holds Tryd.pinned (.plain (OpenSpec.upto nameBackSpec)) nameBackUptoCard

/-- THE SECOND FORM's CARD OF 'portmanteaulaw18.PaxOne'. -/
def paxOneUptoCard : Claim7 := { stood := { row := paxOneUptoRow, standIns := [], harness := (true, "08a40060147d161f72e6f8112af53b3de44aaa0293ae7abb90bc67c7d738ab10"), looks := true }, kinds := [], alts := [], laidByText := true, laidKinds := [.data, .data, .data, .data, .sentinel, .sentinel, .pinned], laidTests := true, laidLooks := .later }
def PaxOneUptoCardSaid : Prop := Claim7.holds Tryd.pinned (.plain (OpenSpec.upto paxOneSpec)) paxOneUptoCard

/-- THE SECOND FORM's CARD OF 'portmanteaulaw18.PaxNanos'. -/
def paxNanosUptoCard : Claim7 := { stood := { row := paxNanosUptoRow, standIns := [], harness := (true, "08a40060147d161f72e6f8112af53b3de44aaa0293ae7abb90bc67c7d738ab10"), looks := true }, kinds := [], alts := [], laidByText := true, laidKinds := [.data, .data, .data, .data, .sentinel, .sentinel, .pinned], laidTests := true, laidLooks := .later }
def PaxNanosUptoCardSaid : Prop := Claim7.holds Tryd.pinned (.plain (OpenSpec.upto paxNanosSpec)) paxNanosUptoCard

/-- THE SECOND FORM's CARD OF 'portmanteaulaw18.PaxCodes'. -/
def paxCodesUptoCard : Claim7 := { stood := { row := paxCodesUptoRow, standIns := [], harness := (true, "08a40060147d161f72e6f8112af53b3de44aaa0293ae7abb90bc67c7d738ab10"), looks := true }, kinds := [], alts := [], laidByText := true, laidKinds := [.data, .data, .data, .data, .sentinel, .sentinel, .pinned], laidTests := true, laidLooks := .later }
def PaxCodesUptoCardSaid : Prop := Claim7.holds Tryd.pinned (.plain (OpenSpec.upto paxCodesSpec)) paxCodesUptoCard

/-- THE SECOND FORM's CARD OF 'portmanteaulaw18.PaxBounds'. -/
def paxBoundsUptoCard : Claim7 := { stood := { row := paxBoundsUptoRow, standIns := [], harness := (true, "08a40060147d161f72e6f8112af53b3de44aaa0293ae7abb90bc67c7d738ab10"), looks := true }, kinds := [], alts := [], laidByText := true, laidKinds := [.data, .data, .data, .data, .sentinel, .sentinel, .pinned], laidTests := true, laidLooks := .later }
def PaxBoundsUptoCardSaid : Prop := Claim7.holds Tryd.pinned (.plain (OpenSpec.upto paxBoundsSpec)) paxBoundsUptoCard

/-- THE SECOND FORM's CARD OF 'portmanteaulaw18.PaxTimes'. -/
def paxTimesUptoCard : Claim7 := { stood := { row := paxTimesUptoRow, standIns := [], harness := (true, "08a40060147d161f72e6f8112af53b3de44aaa0293ae7abb90bc67c7d738ab10"), looks := true }, kinds := [], alts := [], laidByText := true, laidKinds := [.data, .data, .data, .data, .sentinel, .sentinel, .pinned], laidTests := true, laidLooks := .later }
def PaxTimesUptoCardSaid : Prop := Claim7.holds Tryd.pinned (.plain (OpenSpec.upto paxTimesSpec)) paxTimesUptoCard

/-- THE SECOND FORM's CARD OF 'portmanteaulaw18.PaxBack'. -/
def paxBackUptoCard : Claim7 := { stood := { row := paxBackUptoRow, standIns := [], harness := (true, "08a40060147d161f72e6f8112af53b3de44aaa0293ae7abb90bc67c7d738ab10"), looks := true }, kinds := [], alts := [], laidByText := true, laidKinds := [.data, .data, .data, .data, .sentinel, .sentinel, .pinned], laidTests := true, laidLooks := .later }
def PaxBackUptoCardSaid : Prop := Claim7.holds Tryd.pinned (.plain (OpenSpec.upto paxBackSpec)) paxBackUptoCard
end Rows
end Go.Proofs.YtmmmmalicndkeaaDoor
