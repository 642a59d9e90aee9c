/-
  DERIVED. GIVEN WITH THE SEED: THE CARDS: each row of YthabpiphfaedaaaDoorRows.lean that lists a variable, with what it lists TIED to the program's text (the seventh form; the later family's looks); each row that meets fmt, with fmt's text TOLD by the authors' own Lean function (tested against real Go, not proved from fmt's source: count such statements apart). THE CARD IS WHAT COUNTS. Prove the row's statement (the work); the ties are given (YthabpiphfaedaaaDoorTie.lean); close each card by the builder's one call (the guide's Derived/Test/ToyasCard.lean, 'card_holds'). Laid BY PROGRAM, IN A SANDBOX (cutbox-door.mjs). By AI agents, Wed Nov 11 2026. No macro, syntax, notation, axiom, sorry.
-/
import Derived.Test.YthabpiphfaedaaaDoorRows
import GoSem.ClaimSeven
namespace Go.Proofs.YthabpiphfaedaaaDoor
namespace Rows

/-- THE TIED CARD OF 'tidehalllaw06.PlaceCounts'. -/
def placeCountsCard : Claim7 := { stood := { row := placeCountsRow, standIns := [], harness := (true, "0c993b372180858dadfc90c835b97bf0d9a325998992db797edd7fd03e8ec4f4"), looks := false }, kinds := [], alts := [], laidByText := true, laidKinds := [.data], laidTests := true, laidLooks := .later }
def PlaceCountsCardSaid : Prop := Claim7.holds Tryd.pinned (.plain (OpenSpec.ofChange placeCountsSpec)) placeCountsCard

/-- THE TIED CARD OF 'tidehalllaw06.PlaceMesh'. -/
def placeMeshCard : Claim7 := { stood := { row := placeMeshRow, standIns := [], harness := (true, "0c993b372180858dadfc90c835b97bf0d9a325998992db797edd7fd03e8ec4f4"), looks := false }, kinds := [], alts := [], laidByText := true, laidKinds := [.data], laidTests := true, laidLooks := .later }
def PlaceMeshCardSaid : Prop := Claim7.holds Tryd.pinned (.plain (OpenSpec.ofChange placeMeshSpec)) placeMeshCard

/-- THE TIED CARD OF 'tidehalllaw14.ScoreBothWays'. -/
def scoreBothWaysCard : Claim7 := { stood := { row := scoreBothWaysRow, standIns := [], harness := (true, "0c993b372180858dadfc90c835b97bf0d9a325998992db797edd7fd03e8ec4f4"), looks := false }, kinds := [], alts := [], laidByText := true, laidKinds := [.data], laidTests := true, laidLooks := .later }
def ScoreBothWaysCardSaid : Prop := Claim7.holds Tryd.pinned (.plain (OpenSpec.ofChange scoreBothWaysSpec)) scoreBothWaysCard

/-- THE TIED CARD OF 'tidehalllaw14.ScoreSpread'. -/
def scoreSpreadCard : Claim7 := { stood := { row := scoreSpreadRow, standIns := [], harness := (true, "0c993b372180858dadfc90c835b97bf0d9a325998992db797edd7fd03e8ec4f4"), looks := false }, kinds := [], alts := [], laidByText := true, laidKinds := [.data], laidTests := true, laidLooks := .later }
def ScoreSpreadCardSaid : Prop := Claim7.holds Tryd.pinned (.plain (OpenSpec.ofChange scoreSpreadSpec)) scoreSpreadCard

/-- THE TIED CARD OF 'tidehalllaw14.ScoreMore'. -/
def scoreMoreCard : Claim7 := { stood := { row := scoreMoreRow, standIns := [], harness := (true, "0c993b372180858dadfc90c835b97bf0d9a325998992db797edd7fd03e8ec4f4"), looks := false }, kinds := [], alts := [], laidByText := true, laidKinds := [.data], laidTests := true, laidLooks := .later }
def ScoreMoreCardSaid : Prop := Claim7.holds Tryd.pinned (.plain (OpenSpec.ofChange scoreMoreSpec)) scoreMoreCard

/-- THE TIED CARD OF 'tidehalllaw14.ScoreNames'. -/
def scoreNamesCard : Claim7 := { stood := { row := scoreNamesRow, standIns := [], harness := (true, "0c993b372180858dadfc90c835b97bf0d9a325998992db797edd7fd03e8ec4f4"), looks := false }, kinds := [], alts := [], laidByText := true, laidKinds := [.data], laidTests := true, laidLooks := .later }
def ScoreNamesCardSaid : Prop := Claim7.holds Tryd.pinned (.plain (OpenSpec.ofChange scoreNamesSpec)) scoreNamesCard

/-- THE TIED CARD OF 'tidehalllaw14.ScoreTells'. -/
def scoreTellsCard : Claim7 := { stood := { row := scoreTellsRow, standIns := [], harness := (true, "0c993b372180858dadfc90c835b97bf0d9a325998992db797edd7fd03e8ec4f4"), looks := false }, kinds := [], alts := [], laidByText := true, laidKinds := [.data], laidTests := true, laidLooks := .later }
def ScoreTellsCardSaid : Prop := Claim7.holds Tryd.pinned (.plain (OpenSpec.ofChange scoreTellsSpec)) scoreTellsCard

/-- THE TIED CARD OF 'tidehalllaw17.FaultHits'. -/
def faultHitsCard : Claim7 := { stood := { row := faultHitsRow, standIns := [], harness := (true, "0c993b372180858dadfc90c835b97bf0d9a325998992db797edd7fd03e8ec4f4"), looks := false }, kinds := [], alts := [], laidByText := true, laidKinds := [.data], laidTests := true, laidLooks := .later }
def FaultHitsCardSaid : Prop := Claim7.holds Tryd.pinned (.plain (OpenSpec.ofChange faultHitsSpec)) faultHitsCard

/-- THE SECOND FORM's CARD OF 'tidehalllaw06.PlaceCounts'. -/
def placeCountsUptoCard : Claim7 := { stood := { row := placeCountsUptoRow, standIns := [], harness := (true, "0c993b372180858dadfc90c835b97bf0d9a325998992db797edd7fd03e8ec4f4"), looks := false }, kinds := [], alts := [], laidByText := true, laidKinds := [.data], laidTests := true, laidLooks := .later }
def PlaceCountsUptoCardSaid : Prop := Claim7.holds Tryd.pinned (.plain (OpenSpec.upto placeCountsSpec)) placeCountsUptoCard

/-- THE SECOND FORM's CARD OF 'tidehalllaw06.PlaceMesh'. -/
def placeMeshUptoCard : Claim7 := { stood := { row := placeMeshUptoRow, standIns := [], harness := (true, "0c993b372180858dadfc90c835b97bf0d9a325998992db797edd7fd03e8ec4f4"), looks := false }, kinds := [], alts := [], laidByText := true, laidKinds := [.data], laidTests := true, laidLooks := .later }
def PlaceMeshUptoCardSaid : Prop := Claim7.holds Tryd.pinned (.plain (OpenSpec.upto placeMeshSpec)) placeMeshUptoCard

/-- THE SECOND FORM's CARD OF 'tidehalllaw14.ScoreBothWays'. -/
def scoreBothWaysUptoCard : Claim7 := { stood := { row := scoreBothWaysUptoRow, standIns := [], harness := (true, "0c993b372180858dadfc90c835b97bf0d9a325998992db797edd7fd03e8ec4f4"), looks := false }, kinds := [], alts := [], laidByText := true, laidKinds := [.data], laidTests := true, laidLooks := .later }
def ScoreBothWaysUptoCardSaid : Prop := Claim7.holds Tryd.pinned (.plain (OpenSpec.upto scoreBothWaysSpec)) scoreBothWaysUptoCard

/-- THE SECOND FORM's CARD OF 'tidehalllaw14.ScoreSpread'. -/
def scoreSpreadUptoCard : Claim7 := { stood := { row := scoreSpreadUptoRow, standIns := [], harness := (true, "0c993b372180858dadfc90c835b97bf0d9a325998992db797edd7fd03e8ec4f4"), looks := false }, kinds := [], alts := [], laidByText := true, laidKinds := [.data], laidTests := true, laidLooks := .later }
def ScoreSpreadUptoCardSaid : Prop := Claim7.holds Tryd.pinned (.plain (OpenSpec.upto scoreSpreadSpec)) scoreSpreadUptoCard

/-- THE SECOND FORM's CARD OF 'tidehalllaw14.ScoreMore'. -/
def scoreMoreUptoCard : Claim7 := { stood := { row := scoreMoreUptoRow, standIns := [], harness := (true, "0c993b372180858dadfc90c835b97bf0d9a325998992db797edd7fd03e8ec4f4"), looks := false }, kinds := [], alts := [], laidByText := true, laidKinds := [.data], laidTests := true, laidLooks := .later }
def ScoreMoreUptoCardSaid : Prop := Claim7.holds Tryd.pinned (.plain (OpenSpec.upto scoreMoreSpec)) scoreMoreUptoCard

/-- THE SECOND FORM's CARD OF 'tidehalllaw14.ScoreNames'. -/
def scoreNamesUptoCard : Claim7 := { stood := { row := scoreNamesUptoRow, standIns := [], harness := (true, "0c993b372180858dadfc90c835b97bf0d9a325998992db797edd7fd03e8ec4f4"), looks := false }, kinds := [], alts := [], laidByText := true, laidKinds := [.data], laidTests := true, laidLooks := .later }
def ScoreNamesUptoCardSaid : Prop := Claim7.holds Tryd.pinned (.plain (OpenSpec.upto scoreNamesSpec)) scoreNamesUptoCard

/-- THE SECOND FORM's CARD OF 'tidehalllaw14.ScoreTells'. -/
def scoreTellsUptoCard : Claim7 := { stood := { row := scoreTellsUptoRow, standIns := [], harness := (true, "0c993b372180858dadfc90c835b97bf0d9a325998992db797edd7fd03e8ec4f4"), looks := false }, kinds := [], alts := [], laidByText := true, laidKinds := [.data], laidTests := true, laidLooks := .later }
def ScoreTellsUptoCardSaid : Prop := Claim7.holds Tryd.pinned (.plain (OpenSpec.upto scoreTellsSpec)) scoreTellsUptoCard

/-- THE SECOND FORM's CARD OF 'tidehalllaw17.FaultHits'. -/
def faultHitsUptoCard : Claim7 := { stood := { row := faultHitsUptoRow, standIns := [], harness := (true, "0c993b372180858dadfc90c835b97bf0d9a325998992db797edd7fd03e8ec4f4"), looks := false }, kinds := [], alts := [], laidByText := true, laidKinds := [.data], laidTests := true, laidLooks := .later }
def FaultHitsUptoCardSaid : Prop := Claim7.holds Tryd.pinned (.plain (OpenSpec.upto faultHitsSpec)) faultHitsUptoCard
end Rows
end Go.Proofs.YthabpiphfaedaaaDoor
