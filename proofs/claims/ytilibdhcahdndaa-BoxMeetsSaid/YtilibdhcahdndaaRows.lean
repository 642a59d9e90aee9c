/-
  No cell of these rows narrows 'for every input' (looked for: loops, veiled, ifaces, maps, wideKeys, modest, calm, conditions, laid).
  DERIVED. THE GIVEN ROWS OF THIS SEAT. 7 by the template 'for every input the law returns true; each argument reads behind the call as it read before'; 0 by the template 'total and deterministic' (their statements: YtilibdhcahdndaaTotals.lean).
  GIVEN WITH THE SEED: the statements are not yours to turn. If you find one false, say at which input.
  Laid BY PROGRAM, IN A SANDBOX (cutbox-rows.mjs): the forced cells as the released guide's own fill.sh prints them over the translation 121fcbff71e76ab8… (all of the seat's roots in one cut). By AI agents, Wed Nov 11 2026. No macro, syntax, notation, axiom, sorry.
-/
import Derived.Test.YtilibdhcahdndaaChecked
import GoSem.Claim
import GoSem.ClaimJoined
import GoSem.ClaimMapViews
import Derived.JoinedTies
import Derived.KernelRfl
namespace Go.Proofs.Ytilibdhcahdndaa
/- THE CELL 'sum', in the pinned program and in every row, IS THE sha256 OF THE DUMP (.gsa) THAT YtilibdhcahdndaaProg.lean LOADS. Nothing in Lean hashes anything: it is a label: what it is worth is what the hold of that sum in a sandbox is worth. -/
noncomputable def Try.pinned : Pinned := { name := "ytilibdhcahdndaa", sum := "121fcbff71e76ab8b9672c0784ed9f378535c52182603a91e7bf93f228c88027", checked := Try.checked }
namespace Rows
def none {H : Type} : Left H := { results := [], args := [] }

/-- 'tidehalllaw03.SetJoins': WHATEVER THE INPUT: true; the input reads as it did. -/
def setJoinsSpec : ChangeSpec := { name := "setJoins", fn := fun _ => fun
  | [d1, d2, d3] => { results := [.lit (.bool true)], args := [d1, d2, d3] }
  | _ => none }
def setJoinsRow : OpenClaim := { program := "ytilibdhcahdndaa", sum := "121fcbff71e76ab8b9672c0784ed9f378535c52182603a91e7bf93f228c88027", func := "tidehall/tidehalllaw03.SetJoins", spec := "setJoins", unfollowed := true, recurses := true, apart := false }
def SetJoinsSaid : Prop := setJoinsRow.holds Try.pinned (OpenSpec.ofChange setJoinsSpec)

/-- ITS FALSE NEIGHBOUR: 'it returns false'. Refute it at one input. -/
def setJoinsWrong : ChangeSpec := { name := "setJoins", fn := fun _ => fun
  | [d1, d2, d3] => { results := [.lit (.bool false)], args := [d1, d2, d3] }
  | _ => none }
def SetJoinsWrongFalsely : Prop := setJoinsRow.holds Try.pinned (OpenSpec.ofChange setJoinsWrong)

/-- 'tidehalllaw02.BoxTwo': WHATEVER THE INPUT: true; the input reads as it did. -/
def boxTwoSpec : ChangeSpec := { name := "boxTwo", fn := fun _ => fun
  | [d1, d2, d3] => { results := [.lit (.bool true)], args := [d1, d2, d3] }
  | _ => none }
def boxTwoRow : OpenClaim := { program := "ytilibdhcahdndaa", sum := "121fcbff71e76ab8b9672c0784ed9f378535c52182603a91e7bf93f228c88027", func := "tidehall/tidehalllaw02.BoxTwo", spec := "boxTwo", unfollowed := true, recurses := true, apart := false }
def BoxTwoSaid : Prop := boxTwoRow.holds Try.pinned (OpenSpec.ofChange boxTwoSpec)

/-- ITS FALSE NEIGHBOUR: 'it returns false'. Refute it at one input. -/
def boxTwoWrong : ChangeSpec := { name := "boxTwo", fn := fun _ => fun
  | [d1, d2, d3] => { results := [.lit (.bool false)], args := [d1, d2, d3] }
  | _ => none }
def BoxTwoWrongFalsely : Prop := boxTwoRow.holds Try.pinned (OpenSpec.ofChange boxTwoWrong)

/-- 'tidehalllaw02.BoxCanon': WHATEVER THE INPUT: true; the input reads as it did. -/
def boxCanonSpec : ChangeSpec := { name := "boxCanon", fn := fun _ => fun
  | [d1, d2, d3] => { results := [.lit (.bool true)], args := [d1, d2, d3] }
  | _ => none }
def boxCanonRow : OpenClaim := { program := "ytilibdhcahdndaa", sum := "121fcbff71e76ab8b9672c0784ed9f378535c52182603a91e7bf93f228c88027", func := "tidehall/tidehalllaw02.BoxCanon", spec := "boxCanon", unfollowed := true, recurses := true, apart := false }
def BoxCanonSaid : Prop := boxCanonRow.holds Try.pinned (OpenSpec.ofChange boxCanonSpec)

/-- ITS FALSE NEIGHBOUR: 'it returns false'. Refute it at one input. -/
def boxCanonWrong : ChangeSpec := { name := "boxCanon", fn := fun _ => fun
  | [d1, d2, d3] => { results := [.lit (.bool false)], args := [d1, d2, d3] }
  | _ => none }
def BoxCanonWrongFalsely : Prop := boxCanonRow.holds Try.pinned (OpenSpec.ofChange boxCanonWrong)

/-- 'tidehalllaw02.BoxHas': WHATEVER THE INPUT: true; the input reads as it did. -/
def boxHasSpec : ChangeSpec := { name := "boxHas", fn := fun _ => fun
  | [d1, d2] => { results := [.lit (.bool true)], args := [d1, d2] }
  | _ => none }
def boxHasRow : OpenClaim := { program := "ytilibdhcahdndaa", sum := "121fcbff71e76ab8b9672c0784ed9f378535c52182603a91e7bf93f228c88027", func := "tidehall/tidehalllaw02.BoxHas", spec := "boxHas", unfollowed := true, recurses := true, apart := false }
def BoxHasSaid : Prop := boxHasRow.holds Try.pinned (OpenSpec.ofChange boxHasSpec)

/-- ITS FALSE NEIGHBOUR: 'it returns false'. Refute it at one input. -/
def boxHasWrong : ChangeSpec := { name := "boxHas", fn := fun _ => fun
  | [d1, d2] => { results := [.lit (.bool false)], args := [d1, d2] }
  | _ => none }
def BoxHasWrongFalsely : Prop := boxHasRow.holds Try.pinned (OpenSpec.ofChange boxHasWrong)

/-- 'tidehalllaw02.BoxNames': WHATEVER THE INPUT: true; the input reads as it did. -/
def boxNamesSpec : ChangeSpec := { name := "boxNames", fn := fun _ => fun
  | [] => { results := [.lit (.bool true)], args := [] }
  | _ => none }
def boxNamesRow : OpenClaim := { program := "ytilibdhcahdndaa", sum := "121fcbff71e76ab8b9672c0784ed9f378535c52182603a91e7bf93f228c88027", func := "tidehall/tidehalllaw02.BoxNames", spec := "boxNames", unfollowed := true, recurses := true, apart := false }
def BoxNamesSaid : Prop := boxNamesRow.holds Try.pinned (OpenSpec.ofChange boxNamesSpec)

/-- ITS FALSE NEIGHBOUR: 'it returns false'. Refute it at one input. -/
def boxNamesWrong : ChangeSpec := { name := "boxNames", fn := fun _ => fun
  | [] => { results := [.lit (.bool false)], args := [] }
  | _ => none }
def BoxNamesWrongFalsely : Prop := boxNamesRow.holds Try.pinned (OpenSpec.ofChange boxNamesWrong)

/-- 'tidehalllaw02.BoxMeets': WHATEVER THE INPUT: true; the input reads as it did. -/
def boxMeetsSpec : ChangeSpec := { name := "boxMeets", fn := fun _ => fun
  | [d1, d2, d3] => { results := [.lit (.bool true)], args := [d1, d2, d3] }
  | _ => none }
def boxMeetsRow : OpenClaim := { program := "ytilibdhcahdndaa", sum := "121fcbff71e76ab8b9672c0784ed9f378535c52182603a91e7bf93f228c88027", func := "tidehall/tidehalllaw02.BoxMeets", spec := "boxMeets", unfollowed := true, recurses := true, apart := false }
def BoxMeetsSaid : Prop := boxMeetsRow.holds Try.pinned (OpenSpec.ofChange boxMeetsSpec)

/-- ITS FALSE NEIGHBOUR: 'it returns false'. Refute it at one input. -/
def boxMeetsWrong : ChangeSpec := { name := "boxMeets", fn := fun _ => fun
  | [d1, d2, d3] => { results := [.lit (.bool false)], args := [d1, d2, d3] }
  | _ => none }
def BoxMeetsWrongFalsely : Prop := boxMeetsRow.holds Try.pinned (OpenSpec.ofChange boxMeetsWrong)

/-- 'tidehalllaw02.BoxTells': WHATEVER THE INPUT: true; the input reads as it did. -/
def boxTellsSpec : ChangeSpec := { name := "boxTells", fn := fun _ => fun
  | [d1, d2, d3] => { results := [.lit (.bool true)], args := [d1, d2, d3] }
  | _ => none }
def boxTellsRow : OpenClaim := { program := "ytilibdhcahdndaa", sum := "121fcbff71e76ab8b9672c0784ed9f378535c52182603a91e7bf93f228c88027", func := "tidehall/tidehalllaw02.BoxTells", spec := "boxTells", unfollowed := true, recurses := true, apart := false }
def BoxTellsSaid : Prop := boxTellsRow.holds Try.pinned (OpenSpec.ofChange boxTellsSpec)

/-- ITS FALSE NEIGHBOUR: 'it returns false'. Refute it at one input. -/
def boxTellsWrong : ChangeSpec := { name := "boxTells", fn := fun _ => fun
  | [d1, d2, d3] => { results := [.lit (.bool false)], args := [d1, d2, d3] }
  | _ => none }
def BoxTellsWrongFalsely : Prop := boxTellsRow.holds Try.pinned (OpenSpec.ofChange boxTellsWrong)

/- THE SECOND FORM. 'bulk': how many values and letters a reading holds, each counted each time it is reached (what is shared counts as often as it is met; a slice's spare places count too). A statement '..UptoSaid' is the law's where the arguments, and the package variables that the reading takes, are together of bulk at most 1048576: NARROWER than '..Said'. Prove '..Said' where nothing that the law and all that it calls make is longer than what came in: it says more and counts as full. Else prove '..UptoSaid'. A law counts once. -/
mutual
def uptoBulk {H : Type} : DataW H → Nat
  | .lit (.string bytes) => bytes.length + 1
  | .lit _ => 1
  | .nil => 1
  | .ptr d => uptoBulk d + 1
  | .slice elems spare => uptoBulkAll elems + uptoBulkAll spare + 1
  | .agg parts => uptoBulkAll parts + 1
  | .iface _ d => uptoBulk d + 1
  | .map entries => uptoBulkEntries entries + 1
  | .held _ => 1
def uptoBulkAll {H : Type} : List (DataW H) → Nat
  | [] => 0
  | d :: r => uptoBulk d + uptoBulkAll r
def uptoBulkEntries {H : Type} : List (Lit × DataW H) → Nat
  | [] => 0
  | x :: r => uptoBulkEntry x + uptoBulkEntries r
def uptoBulkEntry {H : Type} : Lit × DataW H → Nat
  | (.string bytes, d) => bytes.length + uptoBulk d + 1
  | (_, d) => uptoBulk d + 1
 end
def uptoSmall : (H : Type) → List (DataW H) → Bool := fun _ ds => decide (uptoBulkAll ds ≤ 1048576)
def OpenSpec.upto (s : _root_.Go.ChangeSpec) : _root_.Go.OpenSpec := { _root_.Go.OpenSpec.ofChange s with cond := some uptoSmall }

/-- 'tidehalllaw03.SetJoins', WHERE WHAT IT READS IS OF BULK AT MOST 1048576: true; the input reads as it did. -/
def setJoinsUptoRow : OpenClaim := { program := "ytilibdhcahdndaa", sum := "121fcbff71e76ab8b9672c0784ed9f378535c52182603a91e7bf93f228c88027", func := "tidehall/tidehalllaw03.SetJoins", spec := "setJoins", unfollowed := true, recurses := true, apart := false, narrowed := true }
def SetJoinsUptoSaid : Prop := setJoinsUptoRow.holds Try.pinned (OpenSpec.upto setJoinsSpec)

/-- 'tidehalllaw02.BoxTwo', WHERE WHAT IT READS IS OF BULK AT MOST 1048576: true; the input reads as it did. -/
def boxTwoUptoRow : OpenClaim := { program := "ytilibdhcahdndaa", sum := "121fcbff71e76ab8b9672c0784ed9f378535c52182603a91e7bf93f228c88027", func := "tidehall/tidehalllaw02.BoxTwo", spec := "boxTwo", unfollowed := true, recurses := true, apart := false, narrowed := true }
def BoxTwoUptoSaid : Prop := boxTwoUptoRow.holds Try.pinned (OpenSpec.upto boxTwoSpec)

/-- 'tidehalllaw02.BoxCanon', WHERE WHAT IT READS IS OF BULK AT MOST 1048576: true; the input reads as it did. -/
def boxCanonUptoRow : OpenClaim := { program := "ytilibdhcahdndaa", sum := "121fcbff71e76ab8b9672c0784ed9f378535c52182603a91e7bf93f228c88027", func := "tidehall/tidehalllaw02.BoxCanon", spec := "boxCanon", unfollowed := true, recurses := true, apart := false, narrowed := true }
def BoxCanonUptoSaid : Prop := boxCanonUptoRow.holds Try.pinned (OpenSpec.upto boxCanonSpec)

/-- 'tidehalllaw02.BoxHas', WHERE WHAT IT READS IS OF BULK AT MOST 1048576: true; the input reads as it did. -/
def boxHasUptoRow : OpenClaim := { program := "ytilibdhcahdndaa", sum := "121fcbff71e76ab8b9672c0784ed9f378535c52182603a91e7bf93f228c88027", func := "tidehall/tidehalllaw02.BoxHas", spec := "boxHas", unfollowed := true, recurses := true, apart := false, narrowed := true }
def BoxHasUptoSaid : Prop := boxHasUptoRow.holds Try.pinned (OpenSpec.upto boxHasSpec)

/-- 'tidehalllaw02.BoxNames', WHERE WHAT IT READS IS OF BULK AT MOST 1048576: true; the input reads as it did. -/
def boxNamesUptoRow : OpenClaim := { program := "ytilibdhcahdndaa", sum := "121fcbff71e76ab8b9672c0784ed9f378535c52182603a91e7bf93f228c88027", func := "tidehall/tidehalllaw02.BoxNames", spec := "boxNames", unfollowed := true, recurses := true, apart := false, narrowed := true }
def BoxNamesUptoSaid : Prop := boxNamesUptoRow.holds Try.pinned (OpenSpec.upto boxNamesSpec)

/-- 'tidehalllaw02.BoxMeets', WHERE WHAT IT READS IS OF BULK AT MOST 1048576: true; the input reads as it did. -/
def boxMeetsUptoRow : OpenClaim := { program := "ytilibdhcahdndaa", sum := "121fcbff71e76ab8b9672c0784ed9f378535c52182603a91e7bf93f228c88027", func := "tidehall/tidehalllaw02.BoxMeets", spec := "boxMeets", unfollowed := true, recurses := true, apart := false, narrowed := true }
def BoxMeetsUptoSaid : Prop := boxMeetsUptoRow.holds Try.pinned (OpenSpec.upto boxMeetsSpec)

/-- 'tidehalllaw02.BoxTells', WHERE WHAT IT READS IS OF BULK AT MOST 1048576: true; the input reads as it did. -/
def boxTellsUptoRow : OpenClaim := { program := "ytilibdhcahdndaa", sum := "121fcbff71e76ab8b9672c0784ed9f378535c52182603a91e7bf93f228c88027", func := "tidehall/tidehalllaw02.BoxTells", spec := "boxTells", unfollowed := true, recurses := true, apart := false, narrowed := true }
def BoxTellsUptoSaid : Prop := boxTellsUptoRow.holds Try.pinned (OpenSpec.upto boxTellsSpec)

end Rows
end Go.Proofs.Ytilibdhcahdndaa
