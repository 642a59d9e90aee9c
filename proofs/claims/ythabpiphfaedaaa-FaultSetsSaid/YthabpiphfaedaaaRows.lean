/-
  No cell of these rows narrows 'for every input' (looked for: loops, veiled, ifaces, maps, wideKeys, modest, calm, conditions, laid).
  DERIVED. THE GIVEN ROWS OF THIS SEAT. 5 by the template 'for every input the law returns true; each argument reads behind the call as it read before'; 0 by the template 'total and deterministic' (their statements: YthabpiphfaedaaaTotals.lean).
  GIVEN WITH THE SEED: the statements are not yours to turn. If you find one false, say at which input.
  Laid BY PROGRAM, IN A SANDBOX (cutbox-rows.mjs): the forced cells as the released guide's own fill.sh prints them over the translation f6a575c42770140d… (all of the seat's roots in one cut). By AI agents, Wed Nov 11 2026. No macro, syntax, notation, axiom, sorry.
-/
import Derived.Test.YthabpiphfaedaaaChecked
import GoSem.Claim
import GoSem.ClaimJoined
import GoSem.ClaimMapViews
import Derived.JoinedTies
import Derived.KernelRfl
namespace Go.Proofs.Ythabpiphfaedaaa
/- THE CELL 'sum', in the pinned program and in every row, IS THE sha256 OF THE DUMP (.gsa) THAT YthabpiphfaedaaaProg.lean LOADS. Nothing in Lean hashes anything: it is a label: what it is worth is what the hold of that sum in a sandbox is worth. -/
noncomputable def Try.pinned : Pinned := { name := "ythabpiphfaedaaa", sum := "f6a575c42770140d7dc8748df413f915e634f40dd181a9108165ef992793013d", checked := Try.checked }
namespace Rows
def none {H : Type} : Left H := { results := [], args := [] }

/-- 'tidehalllaw06.PlacePasses': WHATEVER THE INPUT: true; the input reads as it did. -/
def placePassesSpec : ChangeSpec := { name := "placePasses", fn := fun _ => fun
  | [d1, d2] => { results := [.lit (.bool true)], args := [d1, d2] }
  | _ => none }
def placePassesRow : OpenClaim := { program := "ythabpiphfaedaaa", sum := "f6a575c42770140d7dc8748df413f915e634f40dd181a9108165ef992793013d", func := "tidehall/tidehalllaw06.PlacePasses", spec := "placePasses", unfollowed := true, recurses := true, apart := false }
def PlacePassesSaid : Prop := placePassesRow.holds Try.pinned (OpenSpec.ofChange placePassesSpec)

/-- ITS FALSE NEIGHBOUR: 'it returns false'. Refute it at one input. -/
def placePassesWrong : ChangeSpec := { name := "placePasses", fn := fun _ => fun
  | [d1, d2] => { results := [.lit (.bool false)], args := [d1, d2] }
  | _ => none }
def PlacePassesWrongFalsely : Prop := placePassesRow.holds Try.pinned (OpenSpec.ofChange placePassesWrong)

/-- 'tidehalllaw06.PlaceApart': WHATEVER THE INPUT: true; the input reads as it did. -/
def placeApartSpec : ChangeSpec := { name := "placeApart", fn := fun _ => fun
  | [d1, d2, d3] => { results := [.lit (.bool true)], args := [d1, d2, d3] }
  | _ => none }
def placeApartRow : OpenClaim := { program := "ythabpiphfaedaaa", sum := "f6a575c42770140d7dc8748df413f915e634f40dd181a9108165ef992793013d", func := "tidehall/tidehalllaw06.PlaceApart", spec := "placeApart", unfollowed := true, recurses := true, apart := false }
def PlaceApartSaid : Prop := placeApartRow.holds Try.pinned (OpenSpec.ofChange placeApartSpec)

/-- ITS FALSE NEIGHBOUR: 'it returns false'. Refute it at one input. -/
def placeApartWrong : ChangeSpec := { name := "placeApart", fn := fun _ => fun
  | [d1, d2, d3] => { results := [.lit (.bool false)], args := [d1, d2, d3] }
  | _ => none }
def PlaceApartWrongFalsely : Prop := placeApartRow.holds Try.pinned (OpenSpec.ofChange placeApartWrong)

/-- 'tidehalllaw06.PlaceNames': WHATEVER THE INPUT: true; the input reads as it did. -/
def placeNamesSpec : ChangeSpec := { name := "placeNames", fn := fun _ => fun
  | [] => { results := [.lit (.bool true)], args := [] }
  | _ => none }
def placeNamesRow : OpenClaim := { program := "ythabpiphfaedaaa", sum := "f6a575c42770140d7dc8748df413f915e634f40dd181a9108165ef992793013d", func := "tidehall/tidehalllaw06.PlaceNames", spec := "placeNames", unfollowed := true, recurses := true, apart := false }
def PlaceNamesSaid : Prop := placeNamesRow.holds Try.pinned (OpenSpec.ofChange placeNamesSpec)

/-- ITS FALSE NEIGHBOUR: 'it returns false'. Refute it at one input. -/
def placeNamesWrong : ChangeSpec := { name := "placeNames", fn := fun _ => fun
  | [] => { results := [.lit (.bool false)], args := [] }
  | _ => none }
def PlaceNamesWrongFalsely : Prop := placeNamesRow.holds Try.pinned (OpenSpec.ofChange placeNamesWrong)

/-- 'tidehalllaw06.PlaceTells': WHATEVER THE INPUT: true; the input reads as it did. -/
def placeTellsSpec : ChangeSpec := { name := "placeTells", fn := fun _ => fun
  | [d1, d2, d3] => { results := [.lit (.bool true)], args := [d1, d2, d3] }
  | _ => none }
def placeTellsRow : OpenClaim := { program := "ythabpiphfaedaaa", sum := "f6a575c42770140d7dc8748df413f915e634f40dd181a9108165ef992793013d", func := "tidehall/tidehalllaw06.PlaceTells", spec := "placeTells", unfollowed := true, recurses := true, apart := false }
def PlaceTellsSaid : Prop := placeTellsRow.holds Try.pinned (OpenSpec.ofChange placeTellsSpec)

/-- ITS FALSE NEIGHBOUR: 'it returns false'. Refute it at one input. -/
def placeTellsWrong : ChangeSpec := { name := "placeTells", fn := fun _ => fun
  | [d1, d2, d3] => { results := [.lit (.bool false)], args := [d1, d2, d3] }
  | _ => none }
def PlaceTellsWrongFalsely : Prop := placeTellsRow.holds Try.pinned (OpenSpec.ofChange placeTellsWrong)

/-- 'tidehalllaw17.FaultSets': WHATEVER THE INPUT: true; the input reads as it did. -/
def faultSetsSpec : ChangeSpec := { name := "faultSets", fn := fun _ => fun
  | [d1, d2, d3, d4, d5, d6, d7] => { results := [.lit (.bool true)], args := [d1, d2, d3, d4, d5, d6, d7] }
  | _ => none }
def faultSetsRow : OpenClaim := { program := "ythabpiphfaedaaa", sum := "f6a575c42770140d7dc8748df413f915e634f40dd181a9108165ef992793013d", func := "tidehall/tidehalllaw17.FaultSets", spec := "faultSets", unfollowed := true, recurses := true, apart := false }
def FaultSetsSaid : Prop := faultSetsRow.holds Try.pinned (OpenSpec.ofChange faultSetsSpec)

/-- ITS FALSE NEIGHBOUR: 'it returns false'. Refute it at one input. -/
def faultSetsWrong : ChangeSpec := { name := "faultSets", fn := fun _ => fun
  | [d1, d2, d3, d4, d5, d6, d7] => { results := [.lit (.bool false)], args := [d1, d2, d3, d4, d5, d6, d7] }
  | _ => none }
def FaultSetsWrongFalsely : Prop := faultSetsRow.holds Try.pinned (OpenSpec.ofChange faultSetsWrong)

/- THE SECOND FORM. 'bulk': how many values and letters a reading holds, each counted each time it is reached (what is shared counts as often as it is met; a slice's spare places count too). A statement '..UptoSaid' is the law's where the arguments, and the package variables that the reading takes, are together of bulk at most 1048576: NARROWER than '..Said'. Prove '..Said' where nothing that the law and all that it calls make is longer than what came in: it says more and counts as full. Else prove '..UptoSaid'. A law counts once. -/
mutual
def uptoBulk {H : Type} : DataW H → Nat
  | .lit (.string bytes) => bytes.length + 1
  | .lit _ => 1
  | .nil => 1
  | .ptr d => uptoBulk d + 1
  | .slice elems spare => uptoBulkAll elems + uptoBulkAll spare + 1
  | .agg parts => uptoBulkAll parts + 1
  | .iface _ d => uptoBulk d + 1
  | .map entries => uptoBulkEntries entries + 1
  | .held _ => 1
def uptoBulkAll {H : Type} : List (DataW H) → Nat
  | [] => 0
  | d :: r => uptoBulk d + uptoBulkAll r
def uptoBulkEntries {H : Type} : List (Lit × DataW H) → Nat
  | [] => 0
  | x :: r => uptoBulkEntry x + uptoBulkEntries r
def uptoBulkEntry {H : Type} : Lit × DataW H → Nat
  | (.string bytes, d) => bytes.length + uptoBulk d + 1
  | (_, d) => uptoBulk d + 1
 end
def uptoSmall : (H : Type) → List (DataW H) → Bool := fun _ ds => decide (uptoBulkAll ds ≤ 1048576)
def OpenSpec.upto (s : _root_.Go.ChangeSpec) : _root_.Go.OpenSpec := { _root_.Go.OpenSpec.ofChange s with cond := some uptoSmall }

/-- 'tidehalllaw06.PlacePasses', WHERE WHAT IT READS IS OF BULK AT MOST 1048576: true; the input reads as it did. -/
def placePassesUptoRow : OpenClaim := { program := "ythabpiphfaedaaa", sum := "f6a575c42770140d7dc8748df413f915e634f40dd181a9108165ef992793013d", func := "tidehall/tidehalllaw06.PlacePasses", spec := "placePasses", unfollowed := true, recurses := true, apart := false, narrowed := true }
def PlacePassesUptoSaid : Prop := placePassesUptoRow.holds Try.pinned (OpenSpec.upto placePassesSpec)

/-- 'tidehalllaw06.PlaceApart', WHERE WHAT IT READS IS OF BULK AT MOST 1048576: true; the input reads as it did. -/
def placeApartUptoRow : OpenClaim := { program := "ythabpiphfaedaaa", sum := "f6a575c42770140d7dc8748df413f915e634f40dd181a9108165ef992793013d", func := "tidehall/tidehalllaw06.PlaceApart", spec := "placeApart", unfollowed := true, recurses := true, apart := false, narrowed := true }
def PlaceApartUptoSaid : Prop := placeApartUptoRow.holds Try.pinned (OpenSpec.upto placeApartSpec)

/-- 'tidehalllaw06.PlaceNames', WHERE WHAT IT READS IS OF BULK AT MOST 1048576: true; the input reads as it did. -/
def placeNamesUptoRow : OpenClaim := { program := "ythabpiphfaedaaa", sum := "f6a575c42770140d7dc8748df413f915e634f40dd181a9108165ef992793013d", func := "tidehall/tidehalllaw06.PlaceNames", spec := "placeNames", unfollowed := true, recurses := true, apart := false, narrowed := true }
def PlaceNamesUptoSaid : Prop := placeNamesUptoRow.holds Try.pinned (OpenSpec.upto placeNamesSpec)

/-- 'tidehalllaw06.PlaceTells', WHERE WHAT IT READS IS OF BULK AT MOST 1048576: true; the input reads as it did. -/
def placeTellsUptoRow : OpenClaim := { program := "ythabpiphfaedaaa", sum := "f6a575c42770140d7dc8748df413f915e634f40dd181a9108165ef992793013d", func := "tidehall/tidehalllaw06.PlaceTells", spec := "placeTells", unfollowed := true, recurses := true, apart := false, narrowed := true }
def PlaceTellsUptoSaid : Prop := placeTellsUptoRow.holds Try.pinned (OpenSpec.upto placeTellsSpec)

/-- 'tidehalllaw17.FaultSets', WHERE WHAT IT READS IS OF BULK AT MOST 1048576: true; the input reads as it did. -/
def faultSetsUptoRow : OpenClaim := { program := "ythabpiphfaedaaa", sum := "f6a575c42770140d7dc8748df413f915e634f40dd181a9108165ef992793013d", func := "tidehall/tidehalllaw17.FaultSets", spec := "faultSets", unfollowed := true, recurses := true, apart := false, narrowed := true }
def FaultSetsUptoSaid : Prop := faultSetsUptoRow.holds Try.pinned (OpenSpec.upto faultSetsSpec)

end Rows
end Go.Proofs.Ythabpiphfaedaaa
