/-
  No cell of these rows narrows 'for every input' (looked for: loops, veiled, ifaces, maps, wideKeys, modest, calm, conditions, laid).
  DERIVED. THE GIVEN ROWS OF THIS SEAT. 16 by the template 'for every input the law returns true; each argument reads behind the call as it read before'; 0 by the template 'total and deterministic' (their statements: YtfikgjcmnooglaaTotals.lean).
  GIVEN WITH THE SEED: the statements are not yours to turn. If you find one false, say at which input.
  Laid BY PROGRAM, IN A SANDBOX (cutbox-rows.mjs): the forced cells as the released guide's own fill.sh prints them over the translation f7dab7d9c9b08840… (all of the seat's roots in one cut). By AI agents, Wed Nov 11 2026. No macro, syntax, notation, axiom, sorry.
-/
import Derived.Test.YtfikgjcmnooglaaChecked
import GoSem.Claim
import GoSem.ClaimJoined
import GoSem.ClaimMapViews
import Derived.JoinedTies
import Derived.KernelRfl
namespace Go.Proofs.Ytfikgjcmnooglaa
/- THE CELL 'sum', in the pinned program and in every row, IS THE sha256 OF THE DUMP (.gsa) THAT YtfikgjcmnooglaaProg.lean LOADS. Nothing in Lean hashes anything: it is a label: what it is worth is what the hold of that sum in a sandbox is worth. -/
noncomputable def Try.pinned : Pinned := { name := "ytfikgjcmnooglaa", sum := "f7dab7d9c9b08840793e1a37d09b52def2a404c0aa17b7cff899cd23b14e7d47", checked := Try.checked }
namespace Rows
def none {H : Type} : Left H := { results := [], args := [] }

/-- 'tidehalllaw08.CalAsks': WHATEVER THE INPUT: true; the input reads as it did. -/
def calAsksSpec : ChangeSpec := { name := "calAsks", fn := fun _ => fun
  | [d1, d2, d3, d4] => { results := [.lit (.bool true)], args := [d1, d2, d3, d4] }
  | _ => none }
def calAsksRow : OpenClaim := { program := "ytfikgjcmnooglaa", sum := "f7dab7d9c9b08840793e1a37d09b52def2a404c0aa17b7cff899cd23b14e7d47", func := "tidehall/tidehalllaw08.CalAsks", spec := "calAsks", unfollowed := true, recurses := true, apart := false }
def CalAsksSaid : Prop := calAsksRow.holds Try.pinned (OpenSpec.ofChange calAsksSpec)

/-- ITS FALSE NEIGHBOUR: 'it returns false'. Refute it at one input. -/
def calAsksWrong : ChangeSpec := { name := "calAsks", fn := fun _ => fun
  | [d1, d2, d3, d4] => { results := [.lit (.bool false)], args := [d1, d2, d3, d4] }
  | _ => none }
def CalAsksWrongFalsely : Prop := calAsksRow.holds Try.pinned (OpenSpec.ofChange calAsksWrong)

/-- 'tidehalllaw09.CalsAsks': WHATEVER THE INPUT: true; the input reads as it did. -/
def calsAsksSpec : ChangeSpec := { name := "calsAsks", fn := fun _ => fun
  | [d1, d2, d3, d4] => { results := [.lit (.bool true)], args := [d1, d2, d3, d4] }
  | _ => none }
def calsAsksRow : OpenClaim := { program := "ytfikgjcmnooglaa", sum := "f7dab7d9c9b08840793e1a37d09b52def2a404c0aa17b7cff899cd23b14e7d47", func := "tidehall/tidehalllaw09.CalsAsks", spec := "calsAsks", unfollowed := true, recurses := true, apart := false }
def CalsAsksSaid : Prop := calsAsksRow.holds Try.pinned (OpenSpec.ofChange calsAsksSpec)

/-- ITS FALSE NEIGHBOUR: 'it returns false'. Refute it at one input. -/
def calsAsksWrong : ChangeSpec := { name := "calsAsks", fn := fun _ => fun
  | [d1, d2, d3, d4] => { results := [.lit (.bool false)], args := [d1, d2, d3, d4] }
  | _ => none }
def CalsAsksWrongFalsely : Prop := calsAsksRow.holds Try.pinned (OpenSpec.ofChange calsAsksWrong)

/-- 'tidehalllaw08.CalTurns': WHATEVER THE INPUT: true; the input reads as it did. -/
def calTurnsSpec : ChangeSpec := { name := "calTurns", fn := fun _ => fun
  | [d1, d2, d3, d4] => { results := [.lit (.bool true)], args := [d1, d2, d3, d4] }
  | _ => none }
def calTurnsRow : OpenClaim := { program := "ytfikgjcmnooglaa", sum := "f7dab7d9c9b08840793e1a37d09b52def2a404c0aa17b7cff899cd23b14e7d47", func := "tidehall/tidehalllaw08.CalTurns", spec := "calTurns", inPlace := ["slices.overlaps[tidehall/api.Slot]"], unfollowed := true, recurses := true, apart := false }
def CalTurnsSaid : Prop := calTurnsRow.holds Try.pinned (OpenSpec.ofChange calTurnsSpec)

/-- ITS FALSE NEIGHBOUR: 'it returns false'. Refute it at one input. -/
def calTurnsWrong : ChangeSpec := { name := "calTurns", fn := fun _ => fun
  | [d1, d2, d3, d4] => { results := [.lit (.bool false)], args := [d1, d2, d3, d4] }
  | _ => none }
def CalTurnsWrongFalsely : Prop := calTurnsRow.holds Try.pinned (OpenSpec.ofChange calTurnsWrong)

/-- 'tidehalllaw08.CalNext': WHATEVER THE INPUT: true; the input reads as it did. -/
def calNextSpec : ChangeSpec := { name := "calNext", fn := fun _ => fun
  | [d1, d2, d3, d4] => { results := [.lit (.bool true)], args := [d1, d2, d3, d4] }
  | _ => none }
def calNextRow : OpenClaim := { program := "ytfikgjcmnooglaa", sum := "f7dab7d9c9b08840793e1a37d09b52def2a404c0aa17b7cff899cd23b14e7d47", func := "tidehall/tidehalllaw08.CalNext", spec := "calNext", inPlace := ["slices.overlaps[tidehall/api.Slot]"], unfollowed := true, recurses := true, apart := false }
def CalNextSaid : Prop := calNextRow.holds Try.pinned (OpenSpec.ofChange calNextSpec)

/-- ITS FALSE NEIGHBOUR: 'it returns false'. Refute it at one input. -/
def calNextWrong : ChangeSpec := { name := "calNext", fn := fun _ => fun
  | [d1, d2, d3, d4] => { results := [.lit (.bool false)], args := [d1, d2, d3, d4] }
  | _ => none }
def CalNextWrongFalsely : Prop := calNextRow.holds Try.pinned (OpenSpec.ofChange calNextWrong)

/-- 'tidehalllaw08.CalNames': WHATEVER THE INPUT: true; the input reads as it did. -/
def calNamesSpec : ChangeSpec := { name := "calNames", fn := fun _ => fun
  | [] => { results := [.lit (.bool true)], args := [] }
  | _ => none }
def calNamesRow : OpenClaim := { program := "ytfikgjcmnooglaa", sum := "f7dab7d9c9b08840793e1a37d09b52def2a404c0aa17b7cff899cd23b14e7d47", func := "tidehall/tidehalllaw08.CalNames", spec := "calNames", inPlace := ["slices.overlaps[tidehall/api.Slot]"], unfollowed := true, recurses := true, apart := false }
def CalNamesSaid : Prop := calNamesRow.holds Try.pinned (OpenSpec.ofChange calNamesSpec)

/-- ITS FALSE NEIGHBOUR: 'it returns false'. Refute it at one input. -/
def calNamesWrong : ChangeSpec := { name := "calNames", fn := fun _ => fun
  | [] => { results := [.lit (.bool false)], args := [] }
  | _ => none }
def CalNamesWrongFalsely : Prop := calNamesRow.holds Try.pinned (OpenSpec.ofChange calNamesWrong)

/-- 'tidehalllaw08.CalCut': WHATEVER THE INPUT: true; the input reads as it did. -/
def calCutSpec : ChangeSpec := { name := "calCut", fn := fun _ => fun
  | [d1, d2, d3, d4, d5] => { results := [.lit (.bool true)], args := [d1, d2, d3, d4, d5] }
  | _ => none }
def calCutRow : OpenClaim := { program := "ytfikgjcmnooglaa", sum := "f7dab7d9c9b08840793e1a37d09b52def2a404c0aa17b7cff899cd23b14e7d47", func := "tidehall/tidehalllaw08.CalCut", spec := "calCut", inPlace := ["slices.overlaps[tidehall/api.Slot]"], unfollowed := true, recurses := true, apart := false }
def CalCutSaid : Prop := calCutRow.holds Try.pinned (OpenSpec.ofChange calCutSpec)

/-- ITS FALSE NEIGHBOUR: 'it returns false'. Refute it at one input. -/
def calCutWrong : ChangeSpec := { name := "calCut", fn := fun _ => fun
  | [d1, d2, d3, d4, d5] => { results := [.lit (.bool false)], args := [d1, d2, d3, d4, d5] }
  | _ => none }
def CalCutWrongFalsely : Prop := calCutRow.holds Try.pinned (OpenSpec.ofChange calCutWrong)

/-- 'tidehalllaw08.CalPut': WHATEVER THE INPUT: true; the input reads as it did. -/
def calPutSpec : ChangeSpec := { name := "calPut", fn := fun _ => fun
  | [d1, d2, d3] => { results := [.lit (.bool true)], args := [d1, d2, d3] }
  | _ => none }
def calPutRow : OpenClaim := { program := "ytfikgjcmnooglaa", sum := "f7dab7d9c9b08840793e1a37d09b52def2a404c0aa17b7cff899cd23b14e7d47", func := "tidehall/tidehalllaw08.CalPut", spec := "calPut", inPlace := ["slices.overlaps[tidehall/api.Slot]"], unfollowed := true, recurses := true, apart := false }
def CalPutSaid : Prop := calPutRow.holds Try.pinned (OpenSpec.ofChange calPutSpec)

/-- ITS FALSE NEIGHBOUR: 'it returns false'. Refute it at one input. -/
def calPutWrong : ChangeSpec := { name := "calPut", fn := fun _ => fun
  | [d1, d2, d3] => { results := [.lit (.bool false)], args := [d1, d2, d3] }
  | _ => none }
def CalPutWrongFalsely : Prop := calPutRow.holds Try.pinned (OpenSpec.ofChange calPutWrong)

/-- 'tidehalllaw09.CalsNames': WHATEVER THE INPUT: true; the input reads as it did. -/
def calsNamesSpec : ChangeSpec := { name := "calsNames", fn := fun _ => fun
  | [] => { results := [.lit (.bool true)], args := [] }
  | _ => none }
def calsNamesRow : OpenClaim := { program := "ytfikgjcmnooglaa", sum := "f7dab7d9c9b08840793e1a37d09b52def2a404c0aa17b7cff899cd23b14e7d47", func := "tidehall/tidehalllaw09.CalsNames", spec := "calsNames", inPlace := ["slices.overlaps[tidehall/api.Slot]"], unfollowed := true, recurses := true, apart := false }
def CalsNamesSaid : Prop := calsNamesRow.holds Try.pinned (OpenSpec.ofChange calsNamesSpec)

/-- ITS FALSE NEIGHBOUR: 'it returns false'. Refute it at one input. -/
def calsNamesWrong : ChangeSpec := { name := "calsNames", fn := fun _ => fun
  | [] => { results := [.lit (.bool false)], args := [] }
  | _ => none }
def CalsNamesWrongFalsely : Prop := calsNamesRow.holds Try.pinned (OpenSpec.ofChange calsNamesWrong)

/-- 'tidehalllaw09.CalsTurns': WHATEVER THE INPUT: true; the input reads as it did. -/
def calsTurnsSpec : ChangeSpec := { name := "calsTurns", fn := fun _ => fun
  | [d1, d2, d3, d4, d5, d6, d7] => { results := [.lit (.bool true)], args := [d1, d2, d3, d4, d5, d6, d7] }
  | _ => none }
def calsTurnsRow : OpenClaim := { program := "ytfikgjcmnooglaa", sum := "f7dab7d9c9b08840793e1a37d09b52def2a404c0aa17b7cff899cd23b14e7d47", func := "tidehall/tidehalllaw09.CalsTurns", spec := "calsTurns", inPlace := ["slices.overlaps[tidehall/api.Slot]"], unfollowed := true, recurses := true, apart := false }
def CalsTurnsSaid : Prop := calsTurnsRow.holds Try.pinned (OpenSpec.ofChange calsTurnsSpec)

/-- ITS FALSE NEIGHBOUR: 'it returns false'. Refute it at one input. -/
def calsTurnsWrong : ChangeSpec := { name := "calsTurns", fn := fun _ => fun
  | [d1, d2, d3, d4, d5, d6, d7] => { results := [.lit (.bool false)], args := [d1, d2, d3, d4, d5, d6, d7] }
  | _ => none }
def CalsTurnsWrongFalsely : Prop := calsTurnsRow.holds Try.pinned (OpenSpec.ofChange calsTurnsWrong)

/-- 'tidehalllaw09.CalsBusy': WHATEVER THE INPUT: true; the input reads as it did. -/
def calsBusySpec : ChangeSpec := { name := "calsBusy", fn := fun _ => fun
  | [d1, d2, d3] => { results := [.lit (.bool true)], args := [d1, d2, d3] }
  | _ => none }
def calsBusyRow : OpenClaim := { program := "ytfikgjcmnooglaa", sum := "f7dab7d9c9b08840793e1a37d09b52def2a404c0aa17b7cff899cd23b14e7d47", func := "tidehall/tidehalllaw09.CalsBusy", spec := "calsBusy", inPlace := ["slices.overlaps[tidehall/api.Slot]"], unfollowed := true, recurses := true, apart := false }
def CalsBusySaid : Prop := calsBusyRow.holds Try.pinned (OpenSpec.ofChange calsBusySpec)

/-- ITS FALSE NEIGHBOUR: 'it returns false'. Refute it at one input. -/
def calsBusyWrong : ChangeSpec := { name := "calsBusy", fn := fun _ => fun
  | [d1, d2, d3] => { results := [.lit (.bool false)], args := [d1, d2, d3] }
  | _ => none }
def CalsBusyWrongFalsely : Prop := calsBusyRow.holds Try.pinned (OpenSpec.ofChange calsBusyWrong)

/-- 'tidehalllaw09.CalsApart': WHATEVER THE INPUT: true; the input reads as it did. -/
def calsApartSpec : ChangeSpec := { name := "calsApart", fn := fun _ => fun
  | [d1, d2, d3, d4, d5] => { results := [.lit (.bool true)], args := [d1, d2, d3, d4, d5] }
  | _ => none }
def calsApartRow : OpenClaim := { program := "ytfikgjcmnooglaa", sum := "f7dab7d9c9b08840793e1a37d09b52def2a404c0aa17b7cff899cd23b14e7d47", func := "tidehall/tidehalllaw09.CalsApart", spec := "calsApart", inPlace := ["slices.overlaps[tidehall/api.Slot]"], unfollowed := true, recurses := true, apart := false }
def CalsApartSaid : Prop := calsApartRow.holds Try.pinned (OpenSpec.ofChange calsApartSpec)

/-- ITS FALSE NEIGHBOUR: 'it returns false'. Refute it at one input. -/
def calsApartWrong : ChangeSpec := { name := "calsApart", fn := fun _ => fun
  | [d1, d2, d3, d4, d5] => { results := [.lit (.bool false)], args := [d1, d2, d3, d4, d5] }
  | _ => none }
def CalsApartWrongFalsely : Prop := calsApartRow.holds Try.pinned (OpenSpec.ofChange calsApartWrong)

/-- 'tidehalllaw10.WhenTells': WHATEVER THE INPUT: true; the input reads as it did. -/
def whenTellsSpec : ChangeSpec := { name := "whenTells", fn := fun _ => fun
  | [d1, d2, d3] => { results := [.lit (.bool true)], args := [d1, d2, d3] }
  | _ => none }
def whenTellsRow : OpenClaim := { program := "ytfikgjcmnooglaa", sum := "f7dab7d9c9b08840793e1a37d09b52def2a404c0aa17b7cff899cd23b14e7d47", func := "tidehall/tidehalllaw10.WhenTells", spec := "whenTells", unfollowed := true, recurses := true, apart := false }
def WhenTellsSaid : Prop := whenTellsRow.holds Try.pinned (OpenSpec.ofChange whenTellsSpec)

/-- ITS FALSE NEIGHBOUR: 'it returns false'. Refute it at one input. -/
def whenTellsWrong : ChangeSpec := { name := "whenTells", fn := fun _ => fun
  | [d1, d2, d3] => { results := [.lit (.bool false)], args := [d1, d2, d3] }
  | _ => none }
def WhenTellsWrongFalsely : Prop := whenTellsRow.holds Try.pinned (OpenSpec.ofChange whenTellsWrong)

/-- 'tidehalllaw09.CalsPut': WHATEVER THE INPUT: true; the input reads as it did. -/
def calsPutSpec : ChangeSpec := { name := "calsPut", fn := fun _ => fun
  | [d1, d2, d3, d4, d5, d6, d7] => { results := [.lit (.bool true)], args := [d1, d2, d3, d4, d5, d6, d7] }
  | _ => none }
def calsPutRow : OpenClaim := { program := "ytfikgjcmnooglaa", sum := "f7dab7d9c9b08840793e1a37d09b52def2a404c0aa17b7cff899cd23b14e7d47", func := "tidehall/tidehalllaw09.CalsPut", spec := "calsPut", inPlace := ["slices.overlaps[tidehall/api.Slot]"], unfollowed := true, recurses := true, apart := false }
def CalsPutSaid : Prop := calsPutRow.holds Try.pinned (OpenSpec.ofChange calsPutSpec)

/-- ITS FALSE NEIGHBOUR: 'it returns false'. Refute it at one input. -/
def calsPutWrong : ChangeSpec := { name := "calsPut", fn := fun _ => fun
  | [d1, d2, d3, d4, d5, d6, d7] => { results := [.lit (.bool false)], args := [d1, d2, d3, d4, d5, d6, d7] }
  | _ => none }
def CalsPutWrongFalsely : Prop := calsPutRow.holds Try.pinned (OpenSpec.ofChange calsPutWrong)

/-- 'tidehalllaw10.WhenNames': WHATEVER THE INPUT: true; the input reads as it did. -/
def whenNamesSpec : ChangeSpec := { name := "whenNames", fn := fun _ => fun
  | [] => { results := [.lit (.bool true)], args := [] }
  | _ => none }
def whenNamesRow : OpenClaim := { program := "ytfikgjcmnooglaa", sum := "f7dab7d9c9b08840793e1a37d09b52def2a404c0aa17b7cff899cd23b14e7d47", func := "tidehall/tidehalllaw10.WhenNames", spec := "whenNames", inPlace := ["slices.overlaps[tidehall/api.Slot]"], unfollowed := true, recurses := true, apart := false }
def WhenNamesSaid : Prop := whenNamesRow.holds Try.pinned (OpenSpec.ofChange whenNamesSpec)

/-- ITS FALSE NEIGHBOUR: 'it returns false'. Refute it at one input. -/
def whenNamesWrong : ChangeSpec := { name := "whenNames", fn := fun _ => fun
  | [] => { results := [.lit (.bool false)], args := [] }
  | _ => none }
def WhenNamesWrongFalsely : Prop := whenNamesRow.holds Try.pinned (OpenSpec.ofChange whenNamesWrong)

/-- 'tidehalllaw10.WhenLeast': WHATEVER THE INPUT: true; the input reads as it did. -/
def whenLeastSpec : ChangeSpec := { name := "whenLeast", fn := fun _ => fun
  | [d1, d2, d3, d4, d5, d6] => { results := [.lit (.bool true)], args := [d1, d2, d3, d4, d5, d6] }
  | _ => none }
def whenLeastRow : OpenClaim := { program := "ytfikgjcmnooglaa", sum := "f7dab7d9c9b08840793e1a37d09b52def2a404c0aa17b7cff899cd23b14e7d47", func := "tidehall/tidehalllaw10.WhenLeast", spec := "whenLeast", inPlace := ["slices.overlaps[tidehall/api.Slot]"], unfollowed := true, recurses := true, apart := false }
def WhenLeastSaid : Prop := whenLeastRow.holds Try.pinned (OpenSpec.ofChange whenLeastSpec)

/-- ITS FALSE NEIGHBOUR: 'it returns false'. Refute it at one input. -/
def whenLeastWrong : ChangeSpec := { name := "whenLeast", fn := fun _ => fun
  | [d1, d2, d3, d4, d5, d6] => { results := [.lit (.bool false)], args := [d1, d2, d3, d4, d5, d6] }
  | _ => none }
def WhenLeastWrongFalsely : Prop := whenLeastRow.holds Try.pinned (OpenSpec.ofChange whenLeastWrong)

/-- 'tidehalllaw10.WhenLast': WHATEVER THE INPUT: true; the input reads as it did. -/
def whenLastSpec : ChangeSpec := { name := "whenLast", fn := fun _ => fun
  | [d1, d2, d3] => { results := [.lit (.bool true)], args := [d1, d2, d3] }
  | _ => none }
def whenLastRow : OpenClaim := { program := "ytfikgjcmnooglaa", sum := "f7dab7d9c9b08840793e1a37d09b52def2a404c0aa17b7cff899cd23b14e7d47", func := "tidehall/tidehalllaw10.WhenLast", spec := "whenLast", inPlace := ["slices.overlaps[tidehall/api.Slot]"], unfollowed := true, recurses := true, apart := false }
def WhenLastSaid : Prop := whenLastRow.holds Try.pinned (OpenSpec.ofChange whenLastSpec)

/-- ITS FALSE NEIGHBOUR: 'it returns false'. Refute it at one input. -/
def whenLastWrong : ChangeSpec := { name := "whenLast", fn := fun _ => fun
  | [d1, d2, d3] => { results := [.lit (.bool false)], args := [d1, d2, d3] }
  | _ => none }
def WhenLastWrongFalsely : Prop := whenLastRow.holds Try.pinned (OpenSpec.ofChange whenLastWrong)

/- THE SECOND FORM. 'bulk': how many values and letters a reading holds, each counted each time it is reached (what is shared counts as often as it is met; a slice's spare places count too). A statement '..UptoSaid' is the law's where the arguments, and the package variables that the reading takes, are together of bulk at most 1048576: NARROWER than '..Said'. Prove '..Said' where nothing that the law and all that it calls make is longer than what came in: it says more and counts as full. Else prove '..UptoSaid'. A law counts once. -/
mutual
def uptoBulk {H : Type} : DataW H → Nat
  | .lit (.string bytes) => bytes.length + 1
  | .lit _ => 1
  | .nil => 1
  | .ptr d => uptoBulk d + 1
  | .slice elems spare => uptoBulkAll elems + uptoBulkAll spare + 1
  | .agg parts => uptoBulkAll parts + 1
  | .iface _ d => uptoBulk d + 1
  | .map entries => uptoBulkEntries entries + 1
  | .held _ => 1
def uptoBulkAll {H : Type} : List (DataW H) → Nat
  | [] => 0
  | d :: r => uptoBulk d + uptoBulkAll r
def uptoBulkEntries {H : Type} : List (Lit × DataW H) → Nat
  | [] => 0
  | x :: r => uptoBulkEntry x + uptoBulkEntries r
def uptoBulkEntry {H : Type} : Lit × DataW H → Nat
  | (.string bytes, d) => bytes.length + uptoBulk d + 1
  | (_, d) => uptoBulk d + 1
 end
def uptoSmall : (H : Type) → List (DataW H) → Bool := fun _ ds => decide (uptoBulkAll ds ≤ 1048576)
def OpenSpec.upto (s : _root_.Go.ChangeSpec) : _root_.Go.OpenSpec := { _root_.Go.OpenSpec.ofChange s with cond := some uptoSmall }

/-- 'tidehalllaw08.CalAsks', WHERE WHAT IT READS IS OF BULK AT MOST 1048576: true; the input reads as it did. -/
def calAsksUptoRow : OpenClaim := { program := "ytfikgjcmnooglaa", sum := "f7dab7d9c9b08840793e1a37d09b52def2a404c0aa17b7cff899cd23b14e7d47", func := "tidehall/tidehalllaw08.CalAsks", spec := "calAsks", unfollowed := true, recurses := true, apart := false, narrowed := true }
def CalAsksUptoSaid : Prop := calAsksUptoRow.holds Try.pinned (OpenSpec.upto calAsksSpec)

/-- 'tidehalllaw09.CalsAsks', WHERE WHAT IT READS IS OF BULK AT MOST 1048576: true; the input reads as it did. -/
def calsAsksUptoRow : OpenClaim := { program := "ytfikgjcmnooglaa", sum := "f7dab7d9c9b08840793e1a37d09b52def2a404c0aa17b7cff899cd23b14e7d47", func := "tidehall/tidehalllaw09.CalsAsks", spec := "calsAsks", unfollowed := true, recurses := true, apart := false, narrowed := true }
def CalsAsksUptoSaid : Prop := calsAsksUptoRow.holds Try.pinned (OpenSpec.upto calsAsksSpec)

/-- 'tidehalllaw08.CalTurns', WHERE WHAT IT READS IS OF BULK AT MOST 1048576: true; the input reads as it did. -/
def calTurnsUptoRow : OpenClaim := { program := "ytfikgjcmnooglaa", sum := "f7dab7d9c9b08840793e1a37d09b52def2a404c0aa17b7cff899cd23b14e7d47", func := "tidehall/tidehalllaw08.CalTurns", spec := "calTurns", inPlace := ["slices.overlaps[tidehall/api.Slot]"], unfollowed := true, recurses := true, apart := false, narrowed := true }
def CalTurnsUptoSaid : Prop := calTurnsUptoRow.holds Try.pinned (OpenSpec.upto calTurnsSpec)

/-- 'tidehalllaw08.CalNext', WHERE WHAT IT READS IS OF BULK AT MOST 1048576: true; the input reads as it did. -/
def calNextUptoRow : OpenClaim := { program := "ytfikgjcmnooglaa", sum := "f7dab7d9c9b08840793e1a37d09b52def2a404c0aa17b7cff899cd23b14e7d47", func := "tidehall/tidehalllaw08.CalNext", spec := "calNext", inPlace := ["slices.overlaps[tidehall/api.Slot]"], unfollowed := true, recurses := true, apart := false, narrowed := true }
def CalNextUptoSaid : Prop := calNextUptoRow.holds Try.pinned (OpenSpec.upto calNextSpec)

/-- 'tidehalllaw08.CalNames', WHERE WHAT IT READS IS OF BULK AT MOST 1048576: true; the input reads as it did. -/
def calNamesUptoRow : OpenClaim := { program := "ytfikgjcmnooglaa", sum := "f7dab7d9c9b08840793e1a37d09b52def2a404c0aa17b7cff899cd23b14e7d47", func := "tidehall/tidehalllaw08.CalNames", spec := "calNames", inPlace := ["slices.overlaps[tidehall/api.Slot]"], unfollowed := true, recurses := true, apart := false, narrowed := true }
def CalNamesUptoSaid : Prop := calNamesUptoRow.holds Try.pinned (OpenSpec.upto calNamesSpec)

/-- 'tidehalllaw08.CalCut', WHERE WHAT IT READS IS OF BULK AT MOST 1048576: true; the input reads as it did. -/
def calCutUptoRow : OpenClaim := { program := "ytfikgjcmnooglaa", sum := "f7dab7d9c9b08840793e1a37d09b52def2a404c0aa17b7cff899cd23b14e7d47", func := "tidehall/tidehalllaw08.CalCut", spec := "calCut", inPlace := ["slices.overlaps[tidehall/api.Slot]"], unfollowed := true, recurses := true, apart := false, narrowed := true }
def CalCutUptoSaid : Prop := calCutUptoRow.holds Try.pinned (OpenSpec.upto calCutSpec)

/-- 'tidehalllaw08.CalPut', WHERE WHAT IT READS IS OF BULK AT MOST 1048576: true; the input reads as it did. -/
def calPutUptoRow : OpenClaim := { program := "ytfikgjcmnooglaa", sum := "f7dab7d9c9b08840793e1a37d09b52def2a404c0aa17b7cff899cd23b14e7d47", func := "tidehall/tidehalllaw08.CalPut", spec := "calPut", inPlace := ["slices.overlaps[tidehall/api.Slot]"], unfollowed := true, recurses := true, apart := false, narrowed := true }
def CalPutUptoSaid : Prop := calPutUptoRow.holds Try.pinned (OpenSpec.upto calPutSpec)

/-- 'tidehalllaw09.CalsNames', WHERE WHAT IT READS IS OF BULK AT MOST 1048576: true; the input reads as it did. -/
def calsNamesUptoRow : OpenClaim := { program := "ytfikgjcmnooglaa", sum := "f7dab7d9c9b08840793e1a37d09b52def2a404c0aa17b7cff899cd23b14e7d47", func := "tidehall/tidehalllaw09.CalsNames", spec := "calsNames", inPlace := ["slices.overlaps[tidehall/api.Slot]"], unfollowed := true, recurses := true, apart := false, narrowed := true }
def CalsNamesUptoSaid : Prop := calsNamesUptoRow.holds Try.pinned (OpenSpec.upto calsNamesSpec)

/-- 'tidehalllaw09.CalsTurns', WHERE WHAT IT READS IS OF BULK AT MOST 1048576: true; the input reads as it did. -/
def calsTurnsUptoRow : OpenClaim := { program := "ytfikgjcmnooglaa", sum := "f7dab7d9c9b08840793e1a37d09b52def2a404c0aa17b7cff899cd23b14e7d47", func := "tidehall/tidehalllaw09.CalsTurns", spec := "calsTurns", inPlace := ["slices.overlaps[tidehall/api.Slot]"], unfollowed := true, recurses := true, apart := false, narrowed := true }
def CalsTurnsUptoSaid : Prop := calsTurnsUptoRow.holds Try.pinned (OpenSpec.upto calsTurnsSpec)

/-- 'tidehalllaw09.CalsBusy', WHERE WHAT IT READS IS OF BULK AT MOST 1048576: true; the input reads as it did. -/
def calsBusyUptoRow : OpenClaim := { program := "ytfikgjcmnooglaa", sum := "f7dab7d9c9b08840793e1a37d09b52def2a404c0aa17b7cff899cd23b14e7d47", func := "tidehall/tidehalllaw09.CalsBusy", spec := "calsBusy", inPlace := ["slices.overlaps[tidehall/api.Slot]"], unfollowed := true, recurses := true, apart := false, narrowed := true }
def CalsBusyUptoSaid : Prop := calsBusyUptoRow.holds Try.pinned (OpenSpec.upto calsBusySpec)

/-- 'tidehalllaw09.CalsApart', WHERE WHAT IT READS IS OF BULK AT MOST 1048576: true; the input reads as it did. -/
def calsApartUptoRow : OpenClaim := { program := "ytfikgjcmnooglaa", sum := "f7dab7d9c9b08840793e1a37d09b52def2a404c0aa17b7cff899cd23b14e7d47", func := "tidehall/tidehalllaw09.CalsApart", spec := "calsApart", inPlace := ["slices.overlaps[tidehall/api.Slot]"], unfollowed := true, recurses := true, apart := false, narrowed := true }
def CalsApartUptoSaid : Prop := calsApartUptoRow.holds Try.pinned (OpenSpec.upto calsApartSpec)

/-- 'tidehalllaw10.WhenTells', WHERE WHAT IT READS IS OF BULK AT MOST 1048576: true; the input reads as it did. -/
def whenTellsUptoRow : OpenClaim := { program := "ytfikgjcmnooglaa", sum := "f7dab7d9c9b08840793e1a37d09b52def2a404c0aa17b7cff899cd23b14e7d47", func := "tidehall/tidehalllaw10.WhenTells", spec := "whenTells", unfollowed := true, recurses := true, apart := false, narrowed := true }
def WhenTellsUptoSaid : Prop := whenTellsUptoRow.holds Try.pinned (OpenSpec.upto whenTellsSpec)

/-- 'tidehalllaw09.CalsPut', WHERE WHAT IT READS IS OF BULK AT MOST 1048576: true; the input reads as it did. -/
def calsPutUptoRow : OpenClaim := { program := "ytfikgjcmnooglaa", sum := "f7dab7d9c9b08840793e1a37d09b52def2a404c0aa17b7cff899cd23b14e7d47", func := "tidehall/tidehalllaw09.CalsPut", spec := "calsPut", inPlace := ["slices.overlaps[tidehall/api.Slot]"], unfollowed := true, recurses := true, apart := false, narrowed := true }
def CalsPutUptoSaid : Prop := calsPutUptoRow.holds Try.pinned (OpenSpec.upto calsPutSpec)

/-- 'tidehalllaw10.WhenNames', WHERE WHAT IT READS IS OF BULK AT MOST 1048576: true; the input reads as it did. -/
def whenNamesUptoRow : OpenClaim := { program := "ytfikgjcmnooglaa", sum := "f7dab7d9c9b08840793e1a37d09b52def2a404c0aa17b7cff899cd23b14e7d47", func := "tidehall/tidehalllaw10.WhenNames", spec := "whenNames", inPlace := ["slices.overlaps[tidehall/api.Slot]"], unfollowed := true, recurses := true, apart := false, narrowed := true }
def WhenNamesUptoSaid : Prop := whenNamesUptoRow.holds Try.pinned (OpenSpec.upto whenNamesSpec)

/-- 'tidehalllaw10.WhenLeast', WHERE WHAT IT READS IS OF BULK AT MOST 1048576: true; the input reads as it did. -/
def whenLeastUptoRow : OpenClaim := { program := "ytfikgjcmnooglaa", sum := "f7dab7d9c9b08840793e1a37d09b52def2a404c0aa17b7cff899cd23b14e7d47", func := "tidehall/tidehalllaw10.WhenLeast", spec := "whenLeast", inPlace := ["slices.overlaps[tidehall/api.Slot]"], unfollowed := true, recurses := true, apart := false, narrowed := true }
def WhenLeastUptoSaid : Prop := whenLeastUptoRow.holds Try.pinned (OpenSpec.upto whenLeastSpec)

/-- 'tidehalllaw10.WhenLast', WHERE WHAT IT READS IS OF BULK AT MOST 1048576: true; the input reads as it did. -/
def whenLastUptoRow : OpenClaim := { program := "ytfikgjcmnooglaa", sum := "f7dab7d9c9b08840793e1a37d09b52def2a404c0aa17b7cff899cd23b14e7d47", func := "tidehall/tidehalllaw10.WhenLast", spec := "whenLast", inPlace := ["slices.overlaps[tidehall/api.Slot]"], unfollowed := true, recurses := true, apart := false, narrowed := true }
def WhenLastUptoSaid : Prop := whenLastUptoRow.holds Try.pinned (OpenSpec.upto whenLastSpec)

end Rows
end Go.Proofs.Ytfikgjcmnooglaa
