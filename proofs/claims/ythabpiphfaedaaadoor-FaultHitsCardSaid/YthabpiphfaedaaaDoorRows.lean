/-
  NARROWER THAN 'FOR EVERY INPUT', by the rows' own cells (each row's printed sentence says how): PlaceCounts: laid · PlaceMesh: laid · ScoreBothWays: laid · ScoreSpread: laid · ScoreMore: laid · ScoreNames: laid · ScoreTells: laid · FaultHits: laid.
  DERIVED. THE GIVEN ROWS OF THIS SEAT. 8 by the template 'for every input the law returns true; each argument reads behind the call as it read before'; 0 by the template 'total and deterministic' (their statements: YthabpiphfaedaaaDoorTotals.lean).
  GIVEN WITH THE SEED: the statements are not yours to turn. If you find one false, say at which input.
  Laid BY PROGRAM, IN A SANDBOX (cutbox-rows.mjs): the forced cells as the released guide's own fill.sh prints them over the translation 155467053f7a701c… (all of the seat's roots in one cut). By AI agents, Wed Nov 11 2026. No macro, syntax, notation, axiom, sorry.
-/
import Derived.Test.YthabpiphfaedaaaDoorChecked
import GoSem.Claim
import GoSem.ClaimJoined
import GoSem.ClaimMapViews
import Derived.JoinedTies
import Derived.KernelRfl
namespace Go.Proofs.YthabpiphfaedaaaDoor
/- THE CELL 'sum', in the pinned program and in every row, IS THE sha256 OF THE DUMP (.gsa) THAT YthabpiphfaedaaaDoorProg.lean LOADS. Nothing in Lean hashes anything: it is a label: what it is worth is what the hold of that sum in a sandbox is worth. -/
noncomputable def Tryd.pinned : Pinned := { name := "ythabpiphfaedaaadoor", sum := "155467053f7a701c48da22b63855e4244ecf55e35ce9db0995469f3f36f1fe8d", checked := Tryd.checked }
namespace Rows
def none {H : Type} : Left H := { results := [], args := [] }

/- WHAT THE LISTED PACKAGE-LEVEL VARIABLES READ AS WHEN THE CALL BEGINS. Each datum BY PROGRAM (the guide's laid-datum.mjs) off the statement by which the dump's own 'gosem.cut.vars' lays the variable. In a bare row this is a premise. The card (YthabpiphfaedaaaDoorCards.lean) ties it to the program's text. -/
def laid_math_bits_deBruijn64tab {H : Type} : DataW H := .agg [.lit (.int .u8 0), .lit (.int .u8 1), .lit (.int .u8 56), .lit (.int .u8 2), .lit (.int .u8 57), .lit (.int .u8 49), .lit (.int .u8 28), .lit (.int .u8 3), .lit (.int .u8 61), .lit (.int .u8 58), .lit (.int .u8 42), .lit (.int .u8 50), .lit (.int .u8 38), .lit (.int .u8 29), .lit (.int .u8 17), .lit (.int .u8 4), .lit (.int .u8 62), .lit (.int .u8 47), .lit (.int .u8 59), .lit (.int .u8 36), .lit (.int .u8 45), .lit (.int .u8 43), .lit (.int .u8 51), .lit (.int .u8 22), .lit (.int .u8 53), .lit (.int .u8 39), .lit (.int .u8 33), .lit (.int .u8 30), .lit (.int .u8 24), .lit (.int .u8 18), .lit (.int .u8 12), .lit (.int .u8 5), .lit (.int .u8 63), .lit (.int .u8 55), .lit (.int .u8 48), .lit (.int .u8 27), .lit (.int .u8 60), .lit (.int .u8 41), .lit (.int .u8 37), .lit (.int .u8 16), .lit (.int .u8 46), .lit (.int .u8 35), .lit (.int .u8 44), .lit (.int .u8 21), .lit (.int .u8 52), .lit (.int .u8 32), .lit (.int .u8 23), .lit (.int .u8 11), .lit (.int .u8 54), .lit (.int .u8 26), .lit (.int .u8 40), .lit (.int .u8 15), .lit (.int .u8 34), .lit (.int .u8 20), .lit (.int .u8 31), .lit (.int .u8 10), .lit (.int .u8 25), .lit (.int .u8 14), .lit (.int .u8 19), .lit (.int .u8 9), .lit (.int .u8 13), .lit (.int .u8 8), .lit (.int .u8 7), .lit (.int .u8 6)]

/-- 'tidehalllaw06.PlaceCounts': WHATEVER THE INPUT: true; the input reads as it did. -/
def placeCountsSpec : ChangeSpec := { name := "placeCounts", fn := fun _ => fun
  | [d1, d2] => { results := [.lit (.bool true)], args := [d1, d2] }
  | _ => none }
def placeCountsRow : OpenClaim := { program := "ythabpiphfaedaaadoor", sum := "155467053f7a701c48da22b63855e4244ecf55e35ce9db0995469f3f36f1fe8d", func := "tidehall/tidehalllaw06.PlaceCounts", spec := "placeCounts", unfollowed := true, recurses := true, named := ["math/bits.deBruijn64tab"], apart := false, laid := [("math/bits.deBruijn64tab", laid_math_bits_deBruijn64tab)] }
def PlaceCountsSaid : Prop := placeCountsRow.holds Tryd.pinned (OpenSpec.ofChange placeCountsSpec)

/-- ITS FALSE NEIGHBOUR: 'it returns false'. Refute it at one input. -/
def placeCountsWrong : ChangeSpec := { name := "placeCounts", fn := fun _ => fun
  | [d1, d2] => { results := [.lit (.bool false)], args := [d1, d2] }
  | _ => none }
def PlaceCountsWrongFalsely : Prop := placeCountsRow.holds Tryd.pinned (OpenSpec.ofChange placeCountsWrong)

/-- 'tidehalllaw06.PlaceMesh': WHATEVER THE INPUT: true; the input reads as it did. -/
def placeMeshSpec : ChangeSpec := { name := "placeMesh", fn := fun _ => fun
  | [d1, d2] => { results := [.lit (.bool true)], args := [d1, d2] }
  | _ => none }
def placeMeshRow : OpenClaim := { program := "ythabpiphfaedaaadoor", sum := "155467053f7a701c48da22b63855e4244ecf55e35ce9db0995469f3f36f1fe8d", func := "tidehall/tidehalllaw06.PlaceMesh", spec := "placeMesh", unfollowed := true, recurses := true, named := ["math/bits.deBruijn64tab"], apart := false, laid := [("math/bits.deBruijn64tab", laid_math_bits_deBruijn64tab)] }
def PlaceMeshSaid : Prop := placeMeshRow.holds Tryd.pinned (OpenSpec.ofChange placeMeshSpec)

/-- ITS FALSE NEIGHBOUR: 'it returns false'. Refute it at one input. -/
def placeMeshWrong : ChangeSpec := { name := "placeMesh", fn := fun _ => fun
  | [d1, d2] => { results := [.lit (.bool false)], args := [d1, d2] }
  | _ => none }
def PlaceMeshWrongFalsely : Prop := placeMeshRow.holds Tryd.pinned (OpenSpec.ofChange placeMeshWrong)

/-- 'tidehalllaw14.ScoreBothWays': WHATEVER THE INPUT: true; the input reads as it did. -/
def scoreBothWaysSpec : ChangeSpec := { name := "scoreBothWays", fn := fun _ => fun
  | [d1, d2, d3, d4] => { results := [.lit (.bool true)], args := [d1, d2, d3, d4] }
  | _ => none }
def scoreBothWaysRow : OpenClaim := { program := "ythabpiphfaedaaadoor", sum := "155467053f7a701c48da22b63855e4244ecf55e35ce9db0995469f3f36f1fe8d", func := "tidehall/tidehalllaw14.ScoreBothWays", spec := "scoreBothWays", unfollowed := true, recurses := true, named := ["math/bits.deBruijn64tab"], apart := false, laid := [("math/bits.deBruijn64tab", laid_math_bits_deBruijn64tab)] }
def ScoreBothWaysSaid : Prop := scoreBothWaysRow.holds Tryd.pinned (OpenSpec.ofChange scoreBothWaysSpec)

/-- ITS FALSE NEIGHBOUR: 'it returns false'. Refute it at one input. -/
def scoreBothWaysWrong : ChangeSpec := { name := "scoreBothWays", fn := fun _ => fun
  | [d1, d2, d3, d4] => { results := [.lit (.bool false)], args := [d1, d2, d3, d4] }
  | _ => none }
def ScoreBothWaysWrongFalsely : Prop := scoreBothWaysRow.holds Tryd.pinned (OpenSpec.ofChange scoreBothWaysWrong)

/-- 'tidehalllaw14.ScoreSpread': WHATEVER THE INPUT: true; the input reads as it did. -/
def scoreSpreadSpec : ChangeSpec := { name := "scoreSpread", fn := fun _ => fun
  | [d1, d2, d3] => { results := [.lit (.bool true)], args := [d1, d2, d3] }
  | _ => none }
def scoreSpreadRow : OpenClaim := { program := "ythabpiphfaedaaadoor", sum := "155467053f7a701c48da22b63855e4244ecf55e35ce9db0995469f3f36f1fe8d", func := "tidehall/tidehalllaw14.ScoreSpread", spec := "scoreSpread", unfollowed := true, recurses := true, named := ["math/bits.deBruijn64tab"], apart := false, laid := [("math/bits.deBruijn64tab", laid_math_bits_deBruijn64tab)] }
def ScoreSpreadSaid : Prop := scoreSpreadRow.holds Tryd.pinned (OpenSpec.ofChange scoreSpreadSpec)

/-- ITS FALSE NEIGHBOUR: 'it returns false'. Refute it at one input. -/
def scoreSpreadWrong : ChangeSpec := { name := "scoreSpread", fn := fun _ => fun
  | [d1, d2, d3] => { results := [.lit (.bool false)], args := [d1, d2, d3] }
  | _ => none }
def ScoreSpreadWrongFalsely : Prop := scoreSpreadRow.holds Tryd.pinned (OpenSpec.ofChange scoreSpreadWrong)

/-- 'tidehalllaw14.ScoreMore': WHATEVER THE INPUT: true; the input reads as it did. -/
def scoreMoreSpec : ChangeSpec := { name := "scoreMore", fn := fun _ => fun
  | [d1, d2, d3, d4] => { results := [.lit (.bool true)], args := [d1, d2, d3, d4] }
  | _ => none }
def scoreMoreRow : OpenClaim := { program := "ythabpiphfaedaaadoor", sum := "155467053f7a701c48da22b63855e4244ecf55e35ce9db0995469f3f36f1fe8d", func := "tidehall/tidehalllaw14.ScoreMore", spec := "scoreMore", unfollowed := true, recurses := true, named := ["math/bits.deBruijn64tab"], apart := false, laid := [("math/bits.deBruijn64tab", laid_math_bits_deBruijn64tab)] }
def ScoreMoreSaid : Prop := scoreMoreRow.holds Tryd.pinned (OpenSpec.ofChange scoreMoreSpec)

/-- ITS FALSE NEIGHBOUR: 'it returns false'. Refute it at one input. -/
def scoreMoreWrong : ChangeSpec := { name := "scoreMore", fn := fun _ => fun
  | [d1, d2, d3, d4] => { results := [.lit (.bool false)], args := [d1, d2, d3, d4] }
  | _ => none }
def ScoreMoreWrongFalsely : Prop := scoreMoreRow.holds Tryd.pinned (OpenSpec.ofChange scoreMoreWrong)

/-- 'tidehalllaw14.ScoreNames': WHATEVER THE INPUT: true; the input reads as it did. -/
def scoreNamesSpec : ChangeSpec := { name := "scoreNames", fn := fun _ => fun
  | [] => { results := [.lit (.bool true)], args := [] }
  | _ => none }
def scoreNamesRow : OpenClaim := { program := "ythabpiphfaedaaadoor", sum := "155467053f7a701c48da22b63855e4244ecf55e35ce9db0995469f3f36f1fe8d", func := "tidehall/tidehalllaw14.ScoreNames", spec := "scoreNames", unfollowed := true, recurses := true, named := ["math/bits.deBruijn64tab"], apart := false, laid := [("math/bits.deBruijn64tab", laid_math_bits_deBruijn64tab)] }
def ScoreNamesSaid : Prop := scoreNamesRow.holds Tryd.pinned (OpenSpec.ofChange scoreNamesSpec)

/-- ITS FALSE NEIGHBOUR: 'it returns false'. Refute it at one input. -/
def scoreNamesWrong : ChangeSpec := { name := "scoreNames", fn := fun _ => fun
  | [] => { results := [.lit (.bool false)], args := [] }
  | _ => none }
def ScoreNamesWrongFalsely : Prop := scoreNamesRow.holds Tryd.pinned (OpenSpec.ofChange scoreNamesWrong)

/-- 'tidehalllaw14.ScoreTells': WHATEVER THE INPUT: true; the input reads as it did. -/
def scoreTellsSpec : ChangeSpec := { name := "scoreTells", fn := fun _ => fun
  | [d1, d2, d3, d4] => { results := [.lit (.bool true)], args := [d1, d2, d3, d4] }
  | _ => none }
def scoreTellsRow : OpenClaim := { program := "ythabpiphfaedaaadoor", sum := "155467053f7a701c48da22b63855e4244ecf55e35ce9db0995469f3f36f1fe8d", func := "tidehall/tidehalllaw14.ScoreTells", spec := "scoreTells", unfollowed := true, recurses := true, named := ["math/bits.deBruijn64tab"], apart := false, laid := [("math/bits.deBruijn64tab", laid_math_bits_deBruijn64tab)] }
def ScoreTellsSaid : Prop := scoreTellsRow.holds Tryd.pinned (OpenSpec.ofChange scoreTellsSpec)

/-- ITS FALSE NEIGHBOUR: 'it returns false'. Refute it at one input. -/
def scoreTellsWrong : ChangeSpec := { name := "scoreTells", fn := fun _ => fun
  | [d1, d2, d3, d4] => { results := [.lit (.bool false)], args := [d1, d2, d3, d4] }
  | _ => none }
def ScoreTellsWrongFalsely : Prop := scoreTellsRow.holds Tryd.pinned (OpenSpec.ofChange scoreTellsWrong)

/-- 'tidehalllaw17.FaultHits': WHATEVER THE INPUT: true; the input reads as it did. -/
def faultHitsSpec : ChangeSpec := { name := "faultHits", fn := fun _ => fun
  | [d1, d2, d3, d4] => { results := [.lit (.bool true)], args := [d1, d2, d3, d4] }
  | _ => none }
def faultHitsRow : OpenClaim := { program := "ythabpiphfaedaaadoor", sum := "155467053f7a701c48da22b63855e4244ecf55e35ce9db0995469f3f36f1fe8d", func := "tidehall/tidehalllaw17.FaultHits", spec := "faultHits", inPlace := ["slices.overlaps[int]"], unfollowed := true, recurses := true, named := ["math/bits.deBruijn64tab"], apart := false, laid := [("math/bits.deBruijn64tab", laid_math_bits_deBruijn64tab)] }
def FaultHitsSaid : Prop := faultHitsRow.holds Tryd.pinned (OpenSpec.ofChange faultHitsSpec)

/-- ITS FALSE NEIGHBOUR: 'it returns false'. Refute it at one input. -/
def faultHitsWrong : ChangeSpec := { name := "faultHits", fn := fun _ => fun
  | [d1, d2, d3, d4] => { results := [.lit (.bool false)], args := [d1, d2, d3, d4] }
  | _ => none }
def FaultHitsWrongFalsely : Prop := faultHitsRow.holds Tryd.pinned (OpenSpec.ofChange faultHitsWrong)

/- THE SECOND FORM. 'bulk': how many values and letters a reading holds, each counted each time it is reached (what is shared counts as often as it is met; a slice's spare places count too). A statement '..UptoSaid' is the law's where the arguments, and the package variables that the reading takes, are together of bulk at most 1048576: NARROWER than '..Said'. Prove '..Said' where nothing that the law and all that it calls make is longer than what came in: it says more and counts as full. Else prove '..UptoSaid'. A law counts once. -/
mutual
def uptoBulk {H : Type} : DataW H → Nat
  | .lit (.string bytes) => bytes.length + 1
  | .lit _ => 1
  | .nil => 1
  | .ptr d => uptoBulk d + 1
  | .slice elems spare => uptoBulkAll elems + uptoBulkAll spare + 1
  | .agg parts => uptoBulkAll parts + 1
  | .iface _ d => uptoBulk d + 1
  | .map entries => uptoBulkEntries entries + 1
  | .held _ => 1
def uptoBulkAll {H : Type} : List (DataW H) → Nat
  | [] => 0
  | d :: r => uptoBulk d + uptoBulkAll r
def uptoBulkEntries {H : Type} : List (Lit × DataW H) → Nat
  | [] => 0
  | x :: r => uptoBulkEntry x + uptoBulkEntries r
def uptoBulkEntry {H : Type} : Lit × DataW H → Nat
  | (.string bytes, d) => bytes.length + uptoBulk d + 1
  | (_, d) => uptoBulk d + 1
 end
def uptoSmall : (H : Type) → List (DataW H) → Bool := fun _ ds => decide (uptoBulkAll ds ≤ 1048576)
def OpenSpec.upto (s : _root_.Go.ChangeSpec) : _root_.Go.OpenSpec := { _root_.Go.OpenSpec.ofChange s with cond := some uptoSmall }

/-- 'tidehalllaw06.PlaceCounts', WHERE WHAT IT READS IS OF BULK AT MOST 1048576: true; the input reads as it did. -/
def placeCountsUptoRow : OpenClaim := { program := "ythabpiphfaedaaadoor", sum := "155467053f7a701c48da22b63855e4244ecf55e35ce9db0995469f3f36f1fe8d", func := "tidehall/tidehalllaw06.PlaceCounts", spec := "placeCounts", unfollowed := true, recurses := true, named := ["math/bits.deBruijn64tab"], apart := false, laid := [("math/bits.deBruijn64tab", laid_math_bits_deBruijn64tab)], narrowed := true }
def PlaceCountsUptoSaid : Prop := placeCountsUptoRow.holds Tryd.pinned (OpenSpec.upto placeCountsSpec)

/-- 'tidehalllaw06.PlaceMesh', WHERE WHAT IT READS IS OF BULK AT MOST 1048576: true; the input reads as it did. -/
def placeMeshUptoRow : OpenClaim := { program := "ythabpiphfaedaaadoor", sum := "155467053f7a701c48da22b63855e4244ecf55e35ce9db0995469f3f36f1fe8d", func := "tidehall/tidehalllaw06.PlaceMesh", spec := "placeMesh", unfollowed := true, recurses := true, named := ["math/bits.deBruijn64tab"], apart := false, laid := [("math/bits.deBruijn64tab", laid_math_bits_deBruijn64tab)], narrowed := true }
def PlaceMeshUptoSaid : Prop := placeMeshUptoRow.holds Tryd.pinned (OpenSpec.upto placeMeshSpec)

/-- 'tidehalllaw14.ScoreBothWays', WHERE WHAT IT READS IS OF BULK AT MOST 1048576: true; the input reads as it did. -/
def scoreBothWaysUptoRow : OpenClaim := { program := "ythabpiphfaedaaadoor", sum := "155467053f7a701c48da22b63855e4244ecf55e35ce9db0995469f3f36f1fe8d", func := "tidehall/tidehalllaw14.ScoreBothWays", spec := "scoreBothWays", unfollowed := true, recurses := true, named := ["math/bits.deBruijn64tab"], apart := false, laid := [("math/bits.deBruijn64tab", laid_math_bits_deBruijn64tab)], narrowed := true }
def ScoreBothWaysUptoSaid : Prop := scoreBothWaysUptoRow.holds Tryd.pinned (OpenSpec.upto scoreBothWaysSpec)

/-- 'tidehalllaw14.ScoreSpread', WHERE WHAT IT READS IS OF BULK AT MOST 1048576: true; the input reads as it did. -/
def scoreSpreadUptoRow : OpenClaim := { program := "ythabpiphfaedaaadoor", sum := "155467053f7a701c48da22b63855e4244ecf55e35ce9db0995469f3f36f1fe8d", func := "tidehall/tidehalllaw14.ScoreSpread", spec := "scoreSpread", unfollowed := true, recurses := true, named := ["math/bits.deBruijn64tab"], apart := false, laid := [("math/bits.deBruijn64tab", laid_math_bits_deBruijn64tab)], narrowed := true }
def ScoreSpreadUptoSaid : Prop := scoreSpreadUptoRow.holds Tryd.pinned (OpenSpec.upto scoreSpreadSpec)

/-- 'tidehalllaw14.ScoreMore', WHERE WHAT IT READS IS OF BULK AT MOST 1048576: true; the input reads as it did. -/
def scoreMoreUptoRow : OpenClaim := { program := "ythabpiphfaedaaadoor", sum := "155467053f7a701c48da22b63855e4244ecf55e35ce9db0995469f3f36f1fe8d", func := "tidehall/tidehalllaw14.ScoreMore", spec := "scoreMore", unfollowed := true, recurses := true, named := ["math/bits.deBruijn64tab"], apart := false, laid := [("math/bits.deBruijn64tab", laid_math_bits_deBruijn64tab)], narrowed := true }
def ScoreMoreUptoSaid : Prop := scoreMoreUptoRow.holds Tryd.pinned (OpenSpec.upto scoreMoreSpec)

/-- 'tidehalllaw14.ScoreNames', WHERE WHAT IT READS IS OF BULK AT MOST 1048576: true; the input reads as it did. -/
def scoreNamesUptoRow : OpenClaim := { program := "ythabpiphfaedaaadoor", sum := "155467053f7a701c48da22b63855e4244ecf55e35ce9db0995469f3f36f1fe8d", func := "tidehall/tidehalllaw14.ScoreNames", spec := "scoreNames", unfollowed := true, recurses := true, named := ["math/bits.deBruijn64tab"], apart := false, laid := [("math/bits.deBruijn64tab", laid_math_bits_deBruijn64tab)], narrowed := true }
def ScoreNamesUptoSaid : Prop := scoreNamesUptoRow.holds Tryd.pinned (OpenSpec.upto scoreNamesSpec)

/-- 'tidehalllaw14.ScoreTells', WHERE WHAT IT READS IS OF BULK AT MOST 1048576: true; the input reads as it did. -/
def scoreTellsUptoRow : OpenClaim := { program := "ythabpiphfaedaaadoor", sum := "155467053f7a701c48da22b63855e4244ecf55e35ce9db0995469f3f36f1fe8d", func := "tidehall/tidehalllaw14.ScoreTells", spec := "scoreTells", unfollowed := true, recurses := true, named := ["math/bits.deBruijn64tab"], apart := false, laid := [("math/bits.deBruijn64tab", laid_math_bits_deBruijn64tab)], narrowed := true }
def ScoreTellsUptoSaid : Prop := scoreTellsUptoRow.holds Tryd.pinned (OpenSpec.upto scoreTellsSpec)

/-- 'tidehalllaw17.FaultHits', WHERE WHAT IT READS IS OF BULK AT MOST 1048576: true; the input reads as it did. -/
def faultHitsUptoRow : OpenClaim := { program := "ythabpiphfaedaaadoor", sum := "155467053f7a701c48da22b63855e4244ecf55e35ce9db0995469f3f36f1fe8d", func := "tidehall/tidehalllaw17.FaultHits", spec := "faultHits", inPlace := ["slices.overlaps[int]"], unfollowed := true, recurses := true, named := ["math/bits.deBruijn64tab"], apart := false, laid := [("math/bits.deBruijn64tab", laid_math_bits_deBruijn64tab)], narrowed := true }
def FaultHitsUptoSaid : Prop := faultHitsUptoRow.holds Tryd.pinned (OpenSpec.upto faultHitsSpec)

end Rows
end Go.Proofs.YthabpiphfaedaaaDoor
