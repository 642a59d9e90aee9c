/-
  DERIVED. GIVEN WITH THE SEED: THE CARDS: each row of YtilibdhcahdndaaDoorRows.lean that lists a variable, with what it lists TIED to the program's text (the seventh form; the later family's looks); each row that meets fmt, with fmt's text TOLD by the authors' own Lean function (tested against real Go, not proved from fmt's source: count such statements apart). THE CARD IS WHAT COUNTS. Prove the row's statement (the work); the ties are given (YtilibdhcahdndaaDoorTie.lean); close each card by the builder's one call (the guide's Derived/Test/ToyasCard.lean, 'card_holds'). Laid BY PROGRAM, IN A SANDBOX (cutbox-door.mjs). By AI agents, Wed Nov 11 2026. No macro, syntax, notation, axiom, sorry.
-/
import Derived.Test.YtilibdhcahdndaaDoorRows
import GoSem.ClaimSeven
namespace Go.Proofs.YtilibdhcahdndaaDoor
namespace Rows

/-- THE TIED CARD OF 'tidehalllaw03.SetBack'. -/
def setBackCard : Claim7 := { stood := { row := setBackRow, standIns := [], harness := (true, "65f61309e1d7049c8e38b711f20c66de449fcda792f56cb9f1c42f4f9871ede8"), looks := false }, kinds := [], alts := [], laidByText := true, laidKinds := [.data], laidTests := true, laidLooks := .later }
def SetBackCardSaid : Prop := Claim7.holds Tryd.pinned (.plain (OpenSpec.ofChange setBackSpec)) setBackCard

/-- THE TIED CARD OF 'tidehalllaw03.SetNames'. -/
def setNamesCard : Claim7 := { stood := { row := setNamesRow, standIns := [], harness := (true, "65f61309e1d7049c8e38b711f20c66de449fcda792f56cb9f1c42f4f9871ede8"), looks := false }, kinds := [], alts := [], laidByText := true, laidKinds := [.data], laidTests := true, laidLooks := .later }
def SetNamesCardSaid : Prop := Claim7.holds Tryd.pinned (.plain (OpenSpec.ofChange setNamesSpec)) setNamesCard

/-- THE TIED CARD OF 'tidehalllaw03.SetHas'. -/
def setHasCard : Claim7 := { stood := { row := setHasRow, standIns := [], harness := (true, "65f61309e1d7049c8e38b711f20c66de449fcda792f56cb9f1c42f4f9871ede8"), looks := false }, kinds := [], alts := [], laidByText := true, laidKinds := [.data], laidTests := true, laidLooks := .later }
def SetHasCardSaid : Prop := Claim7.holds Tryd.pinned (.plain (OpenSpec.ofChange setHasSpec)) setHasCard

/-- THE TIED CARD OF 'tidehalllaw03.SetTells'. -/
def setTellsCard : Claim7 := { stood := { row := setTellsRow, standIns := [], harness := (true, "65f61309e1d7049c8e38b711f20c66de449fcda792f56cb9f1c42f4f9871ede8"), looks := false }, kinds := [], alts := [], laidByText := true, laidKinds := [.data], laidTests := true, laidLooks := .later }
def SetTellsCardSaid : Prop := Claim7.holds Tryd.pinned (.plain (OpenSpec.ofChange setTellsSpec)) setTellsCard

/-- THE TIED CARD OF 'tidehalllaw03.SetCounts'. -/
def setCountsCard : Claim7 := { stood := { row := setCountsRow, standIns := [], harness := (true, "65f61309e1d7049c8e38b711f20c66de449fcda792f56cb9f1c42f4f9871ede8"), looks := false }, kinds := [], alts := [], laidByText := true, laidKinds := [.data], laidTests := true, laidLooks := .later }
def SetCountsCardSaid : Prop := Claim7.holds Tryd.pinned (.plain (OpenSpec.ofChange setCountsSpec)) setCountsCard

/-- THE SECOND FORM's CARD OF 'tidehalllaw03.SetBack'. -/
def setBackUptoCard : Claim7 := { stood := { row := setBackUptoRow, standIns := [], harness := (true, "65f61309e1d7049c8e38b711f20c66de449fcda792f56cb9f1c42f4f9871ede8"), looks := false }, kinds := [], alts := [], laidByText := true, laidKinds := [.data], laidTests := true, laidLooks := .later }
def SetBackUptoCardSaid : Prop := Claim7.holds Tryd.pinned (.plain (OpenSpec.upto setBackSpec)) setBackUptoCard

/-- THE SECOND FORM's CARD OF 'tidehalllaw03.SetNames'. -/
def setNamesUptoCard : Claim7 := { stood := { row := setNamesUptoRow, standIns := [], harness := (true, "65f61309e1d7049c8e38b711f20c66de449fcda792f56cb9f1c42f4f9871ede8"), looks := false }, kinds := [], alts := [], laidByText := true, laidKinds := [.data], laidTests := true, laidLooks := .later }
def SetNamesUptoCardSaid : Prop := Claim7.holds Tryd.pinned (.plain (OpenSpec.upto setNamesSpec)) setNamesUptoCard

/-- THE SECOND FORM's CARD OF 'tidehalllaw03.SetHas'. -/
def setHasUptoCard : Claim7 := { stood := { row := setHasUptoRow, standIns := [], harness := (true, "65f61309e1d7049c8e38b711f20c66de449fcda792f56cb9f1c42f4f9871ede8"), looks := false }, kinds := [], alts := [], laidByText := true, laidKinds := [.data], laidTests := true, laidLooks := .later }
def SetHasUptoCardSaid : Prop := Claim7.holds Tryd.pinned (.plain (OpenSpec.upto setHasSpec)) setHasUptoCard

/-- THE SECOND FORM's CARD OF 'tidehalllaw03.SetTells'. -/
def setTellsUptoCard : Claim7 := { stood := { row := setTellsUptoRow, standIns := [], harness := (true, "65f61309e1d7049c8e38b711f20c66de449fcda792f56cb9f1c42f4f9871ede8"), looks := false }, kinds := [], alts := [], laidByText := true, laidKinds := [.data], laidTests := true, laidLooks := .later }
def SetTellsUptoCardSaid : Prop := Claim7.holds Tryd.pinned (.plain (OpenSpec.upto setTellsSpec)) setTellsUptoCard

/-- THE SECOND FORM's CARD OF 'tidehalllaw03.SetCounts'. -/
def setCountsUptoCard : Claim7 := { stood := { row := setCountsUptoRow, standIns := [], harness := (true, "65f61309e1d7049c8e38b711f20c66de449fcda792f56cb9f1c42f4f9871ede8"), looks := false }, kinds := [], alts := [], laidByText := true, laidKinds := [.data], laidTests := true, laidLooks := .later }
def SetCountsUptoCardSaid : Prop := Claim7.holds Tryd.pinned (.plain (OpenSpec.upto setCountsSpec)) setCountsUptoCard
end Rows
end Go.Proofs.YtilibdhcahdndaaDoor
