/-
  No cell of these rows narrows 'for every input' (looked for: loops, veiled, ifaces, maps, wideKeys, modest, calm, conditions, laid).
  DERIVED. THE GIVEN ROWS OF THIS SEAT. 8 by the template 'for every input the law returns true; each argument reads behind the call as it read before'; 0 by the template 'total and deterministic' (their statements: YtpooieghlceefaaTotals.lean).
  GIVEN WITH THE SEED: the statements are not yours to turn. If you find one false, say at which input.
  Laid BY PROGRAM, IN A SANDBOX (cutbox-rows.mjs): the forced cells as the released guide's own fill.sh prints them over the translation 3b5d71f08acb02ef… (all of the seat's roots in one cut). By AI agents, Wed Nov 11 2026. No macro, syntax, notation, axiom, sorry.
-/
import Derived.Test.YtpooieghlceefaaChecked
import GoSem.Claim
import GoSem.ClaimJoined
import GoSem.ClaimMapViews
import Derived.JoinedTies
import Derived.KernelRfl
namespace Go.Proofs.Ytpooieghlceefaa
/- THE CELL 'sum', in the pinned program and in every row, IS THE sha256 OF THE DUMP (.gsa) THAT YtpooieghlceefaaProg.lean LOADS. Nothing in Lean hashes anything: it is a label: what it is worth is what the hold of that sum in a sandbox is worth. -/
noncomputable def Try.pinned : Pinned := { name := "ytpooieghlceefaa", sum := "3b5d71f08acb02ef83cd4eaf8ce7eadb245ebf850b8e65a4290bf14326f32ca2", checked := Try.checked }
namespace Rows
def none {H : Type} : Left H := { results := [], args := [] }

/-- 'tidehalllaw05.WireBack': WHATEVER THE INPUT: true; the input reads as it did. -/
def wireBackSpec : ChangeSpec := { name := "wireBack", fn := fun _ => fun
  | [d1, d2, d3, d4] => { results := [.lit (.bool true)], args := [d1, d2, d3, d4] }
  | _ => none }
def wireBackRow : OpenClaim := { program := "ytpooieghlceefaa", sum := "3b5d71f08acb02ef83cd4eaf8ce7eadb245ebf850b8e65a4290bf14326f32ca2", func := "tidehall/tidehalllaw05.WireBack", spec := "wireBack", unfollowed := true, recurses := true, apart := false }
def WireBackSaid : Prop := wireBackRow.holds Try.pinned (OpenSpec.ofChange wireBackSpec)

/-- ITS FALSE NEIGHBOUR: 'it returns false'. Refute it at one input. -/
def wireBackWrong : ChangeSpec := { name := "wireBack", fn := fun _ => fun
  | [d1, d2, d3, d4] => { results := [.lit (.bool false)], args := [d1, d2, d3, d4] }
  | _ => none }
def WireBackWrongFalsely : Prop := wireBackRow.holds Try.pinned (OpenSpec.ofChange wireBackWrong)

/-- 'tidehalllaw05.WireLines': WHATEVER THE INPUT: true; the input reads as it did. -/
def wireLinesSpec : ChangeSpec := { name := "wireLines", fn := fun _ => fun
  | [d1, d2, d3, d4] => { results := [.lit (.bool true)], args := [d1, d2, d3, d4] }
  | _ => none }
def wireLinesRow : OpenClaim := { program := "ytpooieghlceefaa", sum := "3b5d71f08acb02ef83cd4eaf8ce7eadb245ebf850b8e65a4290bf14326f32ca2", func := "tidehall/tidehalllaw05.WireLines", spec := "wireLines", unfollowed := true, recurses := true, apart := false }
def WireLinesSaid : Prop := wireLinesRow.holds Try.pinned (OpenSpec.ofChange wireLinesSpec)

/-- ITS FALSE NEIGHBOUR: 'it returns false'. Refute it at one input. -/
def wireLinesWrong : ChangeSpec := { name := "wireLines", fn := fun _ => fun
  | [d1, d2, d3, d4] => { results := [.lit (.bool false)], args := [d1, d2, d3, d4] }
  | _ => none }
def WireLinesWrongFalsely : Prop := wireLinesRow.holds Try.pinned (OpenSpec.ofChange wireLinesWrong)

/-- 'tidehalllaw05.WireNames': WHATEVER THE INPUT: true; the input reads as it did. -/
def wireNamesSpec : ChangeSpec := { name := "wireNames", fn := fun _ => fun
  | [] => { results := [.lit (.bool true)], args := [] }
  | _ => none }
def wireNamesRow : OpenClaim := { program := "ytpooieghlceefaa", sum := "3b5d71f08acb02ef83cd4eaf8ce7eadb245ebf850b8e65a4290bf14326f32ca2", func := "tidehall/tidehalllaw05.WireNames", spec := "wireNames", unfollowed := true, recurses := true, apart := false }
def WireNamesSaid : Prop := wireNamesRow.holds Try.pinned (OpenSpec.ofChange wireNamesSpec)

/-- ITS FALSE NEIGHBOUR: 'it returns false'. Refute it at one input. -/
def wireNamesWrong : ChangeSpec := { name := "wireNames", fn := fun _ => fun
  | [] => { results := [.lit (.bool false)], args := [] }
  | _ => none }
def WireNamesWrongFalsely : Prop := wireNamesRow.holds Try.pinned (OpenSpec.ofChange wireNamesWrong)

/-- 'tidehalllaw05.WireTells': WHATEVER THE INPUT: true; the input reads as it did. -/
def wireTellsSpec : ChangeSpec := { name := "wireTells", fn := fun _ => fun
  | [d1, d2, d3, d4, d5, d6] => { results := [.lit (.bool true)], args := [d1, d2, d3, d4, d5, d6] }
  | _ => none }
def wireTellsRow : OpenClaim := { program := "ytpooieghlceefaa", sum := "3b5d71f08acb02ef83cd4eaf8ce7eadb245ebf850b8e65a4290bf14326f32ca2", func := "tidehall/tidehalllaw05.WireTells", spec := "wireTells", unfollowed := true, recurses := true, apart := false }
def WireTellsSaid : Prop := wireTellsRow.holds Try.pinned (OpenSpec.ofChange wireTellsSpec)

/-- ITS FALSE NEIGHBOUR: 'it returns false'. Refute it at one input. -/
def wireTellsWrong : ChangeSpec := { name := "wireTells", fn := fun _ => fun
  | [d1, d2, d3, d4, d5, d6] => { results := [.lit (.bool false)], args := [d1, d2, d3, d4, d5, d6] }
  | _ => none }
def WireTellsWrongFalsely : Prop := wireTellsRow.holds Try.pinned (OpenSpec.ofChange wireTellsWrong)

/-- 'tidehalllaw05.WireRuns': WHATEVER THE INPUT: true; the input reads as it did. -/
def wireRunsSpec : ChangeSpec := { name := "wireRuns", fn := fun _ => fun
  | [d1, d2, d3, d4] => { results := [.lit (.bool true)], args := [d1, d2, d3, d4] }
  | _ => none }
def wireRunsRow : OpenClaim := { program := "ytpooieghlceefaa", sum := "3b5d71f08acb02ef83cd4eaf8ce7eadb245ebf850b8e65a4290bf14326f32ca2", func := "tidehall/tidehalllaw05.WireRuns", spec := "wireRuns", unfollowed := true, recurses := true, apart := false }
def WireRunsSaid : Prop := wireRunsRow.holds Try.pinned (OpenSpec.ofChange wireRunsSpec)

/-- ITS FALSE NEIGHBOUR: 'it returns false'. Refute it at one input. -/
def wireRunsWrong : ChangeSpec := { name := "wireRuns", fn := fun _ => fun
  | [d1, d2, d3, d4] => { results := [.lit (.bool false)], args := [d1, d2, d3, d4] }
  | _ => none }
def WireRunsWrongFalsely : Prop := wireRunsRow.holds Try.pinned (OpenSpec.ofChange wireRunsWrong)

/-- 'tidehalllaw17.FaultNames': WHATEVER THE INPUT: true; the input reads as it did. -/
def faultNamesSpec : ChangeSpec := { name := "faultNames", fn := fun _ => fun
  | [] => { results := [.lit (.bool true)], args := [] }
  | _ => none }
def faultNamesRow : OpenClaim := { program := "ytpooieghlceefaa", sum := "3b5d71f08acb02ef83cd4eaf8ce7eadb245ebf850b8e65a4290bf14326f32ca2", func := "tidehall/tidehalllaw17.FaultNames", spec := "faultNames", inPlace := ["slices.overlaps[int]"], unfollowed := true, recurses := true, apart := false }
def FaultNamesSaid : Prop := faultNamesRow.holds Try.pinned (OpenSpec.ofChange faultNamesSpec)

/-- ITS FALSE NEIGHBOUR: 'it returns false'. Refute it at one input. -/
def faultNamesWrong : ChangeSpec := { name := "faultNames", fn := fun _ => fun
  | [] => { results := [.lit (.bool false)], args := [] }
  | _ => none }
def FaultNamesWrongFalsely : Prop := faultNamesRow.holds Try.pinned (OpenSpec.ofChange faultNamesWrong)

/-- 'tidehalllaw17.FaultMarks': WHATEVER THE INPUT: true; the input reads as it did. -/
def faultMarksSpec : ChangeSpec := { name := "faultMarks", fn := fun _ => fun
  | [d1, d2, d3] => { results := [.lit (.bool true)], args := [d1, d2, d3] }
  | _ => none }
def faultMarksRow : OpenClaim := { program := "ytpooieghlceefaa", sum := "3b5d71f08acb02ef83cd4eaf8ce7eadb245ebf850b8e65a4290bf14326f32ca2", func := "tidehall/tidehalllaw17.FaultMarks", spec := "faultMarks", inPlace := ["slices.overlaps[int]"], unfollowed := true, recurses := true, apart := false }
def FaultMarksSaid : Prop := faultMarksRow.holds Try.pinned (OpenSpec.ofChange faultMarksSpec)

/-- ITS FALSE NEIGHBOUR: 'it returns false'. Refute it at one input. -/
def faultMarksWrong : ChangeSpec := { name := "faultMarks", fn := fun _ => fun
  | [d1, d2, d3] => { results := [.lit (.bool false)], args := [d1, d2, d3] }
  | _ => none }
def FaultMarksWrongFalsely : Prop := faultMarksRow.holds Try.pinned (OpenSpec.ofChange faultMarksWrong)

/-- 'tidehalllaw17.FaultUndoes': WHATEVER THE INPUT: true; the input reads as it did. -/
def faultUndoesSpec : ChangeSpec := { name := "faultUndoes", fn := fun _ => fun
  | [d1, d2, d3, d4] => { results := [.lit (.bool true)], args := [d1, d2, d3, d4] }
  | _ => none }
def faultUndoesRow : OpenClaim := { program := "ytpooieghlceefaa", sum := "3b5d71f08acb02ef83cd4eaf8ce7eadb245ebf850b8e65a4290bf14326f32ca2", func := "tidehall/tidehalllaw17.FaultUndoes", spec := "faultUndoes", inPlace := ["slices.overlaps[int]"], unfollowed := true, recurses := true, apart := false }
def FaultUndoesSaid : Prop := faultUndoesRow.holds Try.pinned (OpenSpec.ofChange faultUndoesSpec)

/-- ITS FALSE NEIGHBOUR: 'it returns false'. Refute it at one input. -/
def faultUndoesWrong : ChangeSpec := { name := "faultUndoes", fn := fun _ => fun
  | [d1, d2, d3, d4] => { results := [.lit (.bool false)], args := [d1, d2, d3, d4] }
  | _ => none }
def FaultUndoesWrongFalsely : Prop := faultUndoesRow.holds Try.pinned (OpenSpec.ofChange faultUndoesWrong)

/- THE SECOND FORM. 'bulk': how many values and letters a reading holds, each counted each time it is reached (what is shared counts as often as it is met; a slice's spare places count too). A statement '..UptoSaid' is the law's where the arguments, and the package variables that the reading takes, are together of bulk at most 1048576: NARROWER than '..Said'. Prove '..Said' where nothing that the law and all that it calls make is longer than what came in: it says more and counts as full. Else prove '..UptoSaid'. A law counts once. -/
mutual
def uptoBulk {H : Type} : DataW H → Nat
  | .lit (.string bytes) => bytes.length + 1
  | .lit _ => 1
  | .nil => 1
  | .ptr d => uptoBulk d + 1
  | .slice elems spare => uptoBulkAll elems + uptoBulkAll spare + 1
  | .agg parts => uptoBulkAll parts + 1
  | .iface _ d => uptoBulk d + 1
  | .map entries => uptoBulkEntries entries + 1
  | .held _ => 1
def uptoBulkAll {H : Type} : List (DataW H) → Nat
  | [] => 0
  | d :: r => uptoBulk d + uptoBulkAll r
def uptoBulkEntries {H : Type} : List (Lit × DataW H) → Nat
  | [] => 0
  | x :: r => uptoBulkEntry x + uptoBulkEntries r
def uptoBulkEntry {H : Type} : Lit × DataW H → Nat
  | (.string bytes, d) => bytes.length + uptoBulk d + 1
  | (_, d) => uptoBulk d + 1
 end
def uptoSmall : (H : Type) → List (DataW H) → Bool := fun _ ds => decide (uptoBulkAll ds ≤ 1048576)
def OpenSpec.upto (s : _root_.Go.ChangeSpec) : _root_.Go.OpenSpec := { _root_.Go.OpenSpec.ofChange s with cond := some uptoSmall }

/-- 'tidehalllaw05.WireBack', WHERE WHAT IT READS IS OF BULK AT MOST 1048576: true; the input reads as it did. -/
def wireBackUptoRow : OpenClaim := { program := "ytpooieghlceefaa", sum := "3b5d71f08acb02ef83cd4eaf8ce7eadb245ebf850b8e65a4290bf14326f32ca2", func := "tidehall/tidehalllaw05.WireBack", spec := "wireBack", unfollowed := true, recurses := true, apart := false, narrowed := true }
def WireBackUptoSaid : Prop := wireBackUptoRow.holds Try.pinned (OpenSpec.upto wireBackSpec)

/-- 'tidehalllaw05.WireLines', WHERE WHAT IT READS IS OF BULK AT MOST 1048576: true; the input reads as it did. -/
def wireLinesUptoRow : OpenClaim := { program := "ytpooieghlceefaa", sum := "3b5d71f08acb02ef83cd4eaf8ce7eadb245ebf850b8e65a4290bf14326f32ca2", func := "tidehall/tidehalllaw05.WireLines", spec := "wireLines", unfollowed := true, recurses := true, apart := false, narrowed := true }
def WireLinesUptoSaid : Prop := wireLinesUptoRow.holds Try.pinned (OpenSpec.upto wireLinesSpec)

/-- 'tidehalllaw05.WireNames', WHERE WHAT IT READS IS OF BULK AT MOST 1048576: true; the input reads as it did. -/
def wireNamesUptoRow : OpenClaim := { program := "ytpooieghlceefaa", sum := "3b5d71f08acb02ef83cd4eaf8ce7eadb245ebf850b8e65a4290bf14326f32ca2", func := "tidehall/tidehalllaw05.WireNames", spec := "wireNames", unfollowed := true, recurses := true, apart := false, narrowed := true }
def WireNamesUptoSaid : Prop := wireNamesUptoRow.holds Try.pinned (OpenSpec.upto wireNamesSpec)

/-- 'tidehalllaw05.WireTells', WHERE WHAT IT READS IS OF BULK AT MOST 1048576: true; the input reads as it did. -/
def wireTellsUptoRow : OpenClaim := { program := "ytpooieghlceefaa", sum := "3b5d71f08acb02ef83cd4eaf8ce7eadb245ebf850b8e65a4290bf14326f32ca2", func := "tidehall/tidehalllaw05.WireTells", spec := "wireTells", unfollowed := true, recurses := true, apart := false, narrowed := true }
def WireTellsUptoSaid : Prop := wireTellsUptoRow.holds Try.pinned (OpenSpec.upto wireTellsSpec)

/-- 'tidehalllaw05.WireRuns', WHERE WHAT IT READS IS OF BULK AT MOST 1048576: true; the input reads as it did. -/
def wireRunsUptoRow : OpenClaim := { program := "ytpooieghlceefaa", sum := "3b5d71f08acb02ef83cd4eaf8ce7eadb245ebf850b8e65a4290bf14326f32ca2", func := "tidehall/tidehalllaw05.WireRuns", spec := "wireRuns", unfollowed := true, recurses := true, apart := false, narrowed := true }
def WireRunsUptoSaid : Prop := wireRunsUptoRow.holds Try.pinned (OpenSpec.upto wireRunsSpec)

/-- 'tidehalllaw17.FaultNames', WHERE WHAT IT READS IS OF BULK AT MOST 1048576: true; the input reads as it did. -/
def faultNamesUptoRow : OpenClaim := { program := "ytpooieghlceefaa", sum := "3b5d71f08acb02ef83cd4eaf8ce7eadb245ebf850b8e65a4290bf14326f32ca2", func := "tidehall/tidehalllaw17.FaultNames", spec := "faultNames", inPlace := ["slices.overlaps[int]"], unfollowed := true, recurses := true, apart := false, narrowed := true }
def FaultNamesUptoSaid : Prop := faultNamesUptoRow.holds Try.pinned (OpenSpec.upto faultNamesSpec)

/-- 'tidehalllaw17.FaultMarks', WHERE WHAT IT READS IS OF BULK AT MOST 1048576: true; the input reads as it did. -/
def faultMarksUptoRow : OpenClaim := { program := "ytpooieghlceefaa", sum := "3b5d71f08acb02ef83cd4eaf8ce7eadb245ebf850b8e65a4290bf14326f32ca2", func := "tidehall/tidehalllaw17.FaultMarks", spec := "faultMarks", inPlace := ["slices.overlaps[int]"], unfollowed := true, recurses := true, apart := false, narrowed := true }
def FaultMarksUptoSaid : Prop := faultMarksUptoRow.holds Try.pinned (OpenSpec.upto faultMarksSpec)

/-- 'tidehalllaw17.FaultUndoes', WHERE WHAT IT READS IS OF BULK AT MOST 1048576: true; the input reads as it did. -/
def faultUndoesUptoRow : OpenClaim := { program := "ytpooieghlceefaa", sum := "3b5d71f08acb02ef83cd4eaf8ce7eadb245ebf850b8e65a4290bf14326f32ca2", func := "tidehall/tidehalllaw17.FaultUndoes", spec := "faultUndoes", inPlace := ["slices.overlaps[int]"], unfollowed := true, recurses := true, apart := false, narrowed := true }
def FaultUndoesUptoSaid : Prop := faultUndoesUptoRow.holds Try.pinned (OpenSpec.upto faultUndoesSpec)

end Rows
end Go.Proofs.Ytpooieghlceefaa
