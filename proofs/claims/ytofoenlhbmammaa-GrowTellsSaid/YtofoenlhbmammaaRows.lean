/-
  No cell of these rows narrows 'for every input' (looked for: loops, veiled, ifaces, maps, wideKeys, modest, calm, conditions, laid).
  DERIVED. THE GIVEN ROWS OF THIS SEAT. 5 by the template 'for every input the law returns true; each argument reads behind the call as it read before'; 0 by the template 'total and deterministic' (their statements: YtofoenlhbmammaaTotals.lean).
  GIVEN WITH THE SEED: the statements are not yours to turn. If you find one false, say at which input.
  Laid BY PROGRAM, IN A SANDBOX (cutbox-rows.mjs): the forced cells as the released guide's own fill.sh prints them over the translation bced318e06218f37… (all of the seat's roots in one cut). By AI agents, Wed Nov 11 2026. No macro, syntax, notation, axiom, sorry.
-/
import Derived.Test.YtofoenlhbmammaaChecked
import GoSem.Claim
import GoSem.ClaimJoined
import GoSem.ClaimMapViews
import Derived.JoinedTies
import Derived.KernelRfl
namespace Go.Proofs.Ytofoenlhbmammaa
/- THE CELL 'sum', in the pinned program and in every row, IS THE sha256 OF THE DUMP (.gsa) THAT YtofoenlhbmammaaProg.lean LOADS. Nothing in Lean hashes anything: it is a label: what it is worth is what the hold of that sum in a sandbox is worth. -/
noncomputable def Try.pinned : Pinned := { name := "ytofoenlhbmammaa", sum := "bced318e06218f3736f7fc92ccd1eb749b81cbdd92fa4b8b938ae4dd9edc0a9c", checked := Try.checked }
namespace Rows
def none {H : Type} : Left H := { results := [], args := [] }

/-- 'tidehalllaw13.GrowFree': WHATEVER THE INPUT: true; the input reads as it did. -/
def growFreeSpec : ChangeSpec := { name := "growFree", fn := fun _ => fun
  | [d1, d2, d3] => { results := [.lit (.bool true)], args := [d1, d2, d3] }
  | _ => none }
def growFreeRow : OpenClaim := { program := "ytofoenlhbmammaa", sum := "bced318e06218f3736f7fc92ccd1eb749b81cbdd92fa4b8b938ae4dd9edc0a9c", func := "tidehall/tidehalllaw13.GrowFree", spec := "growFree", unfollowed := true, recurses := true, apart := false }
def GrowFreeSaid : Prop := growFreeRow.holds Try.pinned (OpenSpec.ofChange growFreeSpec)

/-- ITS FALSE NEIGHBOUR: 'it returns false'. Refute it at one input. -/
def growFreeWrong : ChangeSpec := { name := "growFree", fn := fun _ => fun
  | [d1, d2, d3] => { results := [.lit (.bool false)], args := [d1, d2, d3] }
  | _ => none }
def GrowFreeWrongFalsely : Prop := growFreeRow.holds Try.pinned (OpenSpec.ofChange growFreeWrong)

/-- 'tidehalllaw13.GrowMost': WHATEVER THE INPUT: true; the input reads as it did. -/
def growMostSpec : ChangeSpec := { name := "growMost", fn := fun _ => fun
  | [d1, d2, d3] => { results := [.lit (.bool true)], args := [d1, d2, d3] }
  | _ => none }
def growMostRow : OpenClaim := { program := "ytofoenlhbmammaa", sum := "bced318e06218f3736f7fc92ccd1eb749b81cbdd92fa4b8b938ae4dd9edc0a9c", func := "tidehall/tidehalllaw13.GrowMost", spec := "growMost", unfollowed := true, recurses := true, apart := false }
def GrowMostSaid : Prop := growMostRow.holds Try.pinned (OpenSpec.ofChange growMostSpec)

/-- ITS FALSE NEIGHBOUR: 'it returns false'. Refute it at one input. -/
def growMostWrong : ChangeSpec := { name := "growMost", fn := fun _ => fun
  | [d1, d2, d3] => { results := [.lit (.bool false)], args := [d1, d2, d3] }
  | _ => none }
def GrowMostWrongFalsely : Prop := growMostRow.holds Try.pinned (OpenSpec.ofChange growMostWrong)

/-- 'tidehalllaw13.GrowNames': WHATEVER THE INPUT: true; the input reads as it did. -/
def growNamesSpec : ChangeSpec := { name := "growNames", fn := fun _ => fun
  | [] => { results := [.lit (.bool true)], args := [] }
  | _ => none }
def growNamesRow : OpenClaim := { program := "ytofoenlhbmammaa", sum := "bced318e06218f3736f7fc92ccd1eb749b81cbdd92fa4b8b938ae4dd9edc0a9c", func := "tidehall/tidehalllaw13.GrowNames", spec := "growNames", unfollowed := true, recurses := true, apart := false }
def GrowNamesSaid : Prop := growNamesRow.holds Try.pinned (OpenSpec.ofChange growNamesSpec)

/-- ITS FALSE NEIGHBOUR: 'it returns false'. Refute it at one input. -/
def growNamesWrong : ChangeSpec := { name := "growNames", fn := fun _ => fun
  | [] => { results := [.lit (.bool false)], args := [] }
  | _ => none }
def GrowNamesWrongFalsely : Prop := growNamesRow.holds Try.pinned (OpenSpec.ofChange growNamesWrong)

/-- 'tidehalllaw13.GrowTells': WHATEVER THE INPUT: true; the input reads as it did. -/
def growTellsSpec : ChangeSpec := { name := "growTells", fn := fun _ => fun
  | [d1, d2, d3] => { results := [.lit (.bool true)], args := [d1, d2, d3] }
  | _ => none }
def growTellsRow : OpenClaim := { program := "ytofoenlhbmammaa", sum := "bced318e06218f3736f7fc92ccd1eb749b81cbdd92fa4b8b938ae4dd9edc0a9c", func := "tidehall/tidehalllaw13.GrowTells", spec := "growTells", unfollowed := true, recurses := true, apart := false }
def GrowTellsSaid : Prop := growTellsRow.holds Try.pinned (OpenSpec.ofChange growTellsSpec)

/-- ITS FALSE NEIGHBOUR: 'it returns false'. Refute it at one input. -/
def growTellsWrong : ChangeSpec := { name := "growTells", fn := fun _ => fun
  | [d1, d2, d3] => { results := [.lit (.bool false)], args := [d1, d2, d3] }
  | _ => none }
def GrowTellsWrongFalsely : Prop := growTellsRow.holds Try.pinned (OpenSpec.ofChange growTellsWrong)

/-- 'tidehalllaw13.GrowAll': WHATEVER THE INPUT: true; the input reads as it did. -/
def growAllSpec : ChangeSpec := { name := "growAll", fn := fun _ => fun
  | [d1, d2, d3] => { results := [.lit (.bool true)], args := [d1, d2, d3] }
  | _ => none }
def growAllRow : OpenClaim := { program := "ytofoenlhbmammaa", sum := "bced318e06218f3736f7fc92ccd1eb749b81cbdd92fa4b8b938ae4dd9edc0a9c", func := "tidehall/tidehalllaw13.GrowAll", spec := "growAll", unfollowed := true, recurses := true, apart := false }
def GrowAllSaid : Prop := growAllRow.holds Try.pinned (OpenSpec.ofChange growAllSpec)

/-- ITS FALSE NEIGHBOUR: 'it returns false'. Refute it at one input. -/
def growAllWrong : ChangeSpec := { name := "growAll", fn := fun _ => fun
  | [d1, d2, d3] => { results := [.lit (.bool false)], args := [d1, d2, d3] }
  | _ => none }
def GrowAllWrongFalsely : Prop := growAllRow.holds Try.pinned (OpenSpec.ofChange growAllWrong)

/- THE SECOND FORM. 'bulk': how many values and letters a reading holds, each counted each time it is reached (what is shared counts as often as it is met; a slice's spare places count too). A statement '..UptoSaid' is the law's where the arguments, and the package variables that the reading takes, are together of bulk at most 1048576: NARROWER than '..Said'. Prove '..Said' where nothing that the law and all that it calls make is longer than what came in: it says more and counts as full. Else prove '..UptoSaid'. A law counts once. -/
mutual
def uptoBulk {H : Type} : DataW H → Nat
  | .lit (.string bytes) => bytes.length + 1
  | .lit _ => 1
  | .nil => 1
  | .ptr d => uptoBulk d + 1
  | .slice elems spare => uptoBulkAll elems + uptoBulkAll spare + 1
  | .agg parts => uptoBulkAll parts + 1
  | .iface _ d => uptoBulk d + 1
  | .map entries => uptoBulkEntries entries + 1
  | .held _ => 1
def uptoBulkAll {H : Type} : List (DataW H) → Nat
  | [] => 0
  | d :: r => uptoBulk d + uptoBulkAll r
def uptoBulkEntries {H : Type} : List (Lit × DataW H) → Nat
  | [] => 0
  | x :: r => uptoBulkEntry x + uptoBulkEntries r
def uptoBulkEntry {H : Type} : Lit × DataW H → Nat
  | (.string bytes, d) => bytes.length + uptoBulk d + 1
  | (_, d) => uptoBulk d + 1
 end
def uptoSmall : (H : Type) → List (DataW H) → Bool := fun _ ds => decide (uptoBulkAll ds ≤ 1048576)
def OpenSpec.upto (s : _root_.Go.ChangeSpec) : _root_.Go.OpenSpec := { _root_.Go.OpenSpec.ofChange s with cond := some uptoSmall }

/-- 'tidehalllaw13.GrowFree', WHERE WHAT IT READS IS OF BULK AT MOST 1048576: true; the input reads as it did. -/
def growFreeUptoRow : OpenClaim := { program := "ytofoenlhbmammaa", sum := "bced318e06218f3736f7fc92ccd1eb749b81cbdd92fa4b8b938ae4dd9edc0a9c", func := "tidehall/tidehalllaw13.GrowFree", spec := "growFree", unfollowed := true, recurses := true, apart := false, narrowed := true }
def GrowFreeUptoSaid : Prop := growFreeUptoRow.holds Try.pinned (OpenSpec.upto growFreeSpec)

/-- 'tidehalllaw13.GrowMost', WHERE WHAT IT READS IS OF BULK AT MOST 1048576: true; the input reads as it did. -/
def growMostUptoRow : OpenClaim := { program := "ytofoenlhbmammaa", sum := "bced318e06218f3736f7fc92ccd1eb749b81cbdd92fa4b8b938ae4dd9edc0a9c", func := "tidehall/tidehalllaw13.GrowMost", spec := "growMost", unfollowed := true, recurses := true, apart := false, narrowed := true }
def GrowMostUptoSaid : Prop := growMostUptoRow.holds Try.pinned (OpenSpec.upto growMostSpec)

/-- 'tidehalllaw13.GrowNames', WHERE WHAT IT READS IS OF BULK AT MOST 1048576: true; the input reads as it did. -/
def growNamesUptoRow : OpenClaim := { program := "ytofoenlhbmammaa", sum := "bced318e06218f3736f7fc92ccd1eb749b81cbdd92fa4b8b938ae4dd9edc0a9c", func := "tidehall/tidehalllaw13.GrowNames", spec := "growNames", unfollowed := true, recurses := true, apart := false, narrowed := true }
def GrowNamesUptoSaid : Prop := growNamesUptoRow.holds Try.pinned (OpenSpec.upto growNamesSpec)

/-- 'tidehalllaw13.GrowTells', WHERE WHAT IT READS IS OF BULK AT MOST 1048576: true; the input reads as it did. -/
def growTellsUptoRow : OpenClaim := { program := "ytofoenlhbmammaa", sum := "bced318e06218f3736f7fc92ccd1eb749b81cbdd92fa4b8b938ae4dd9edc0a9c", func := "tidehall/tidehalllaw13.GrowTells", spec := "growTells", unfollowed := true, recurses := true, apart := false, narrowed := true }
def GrowTellsUptoSaid : Prop := growTellsUptoRow.holds Try.pinned (OpenSpec.upto growTellsSpec)

/-- 'tidehalllaw13.GrowAll', WHERE WHAT IT READS IS OF BULK AT MOST 1048576: true; the input reads as it did. -/
def growAllUptoRow : OpenClaim := { program := "ytofoenlhbmammaa", sum := "bced318e06218f3736f7fc92ccd1eb749b81cbdd92fa4b8b938ae4dd9edc0a9c", func := "tidehall/tidehalllaw13.GrowAll", spec := "growAll", unfollowed := true, recurses := true, apart := false, narrowed := true }
def GrowAllUptoSaid : Prop := growAllUptoRow.holds Try.pinned (OpenSpec.upto growAllSpec)

end Rows
end Go.Proofs.Ytofoenlhbmammaa
