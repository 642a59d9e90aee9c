/-
  No cell of these rows narrows 'for every input' (looked for: loops, veiled, ifaces, maps, wideKeys, modest, calm, conditions, laid).
  DERIVED. THE GIVEN ROWS OF THIS SEAT. 5 by the template 'for every input the law returns true; each argument reads behind the call as it read before'; 0 by the template 'total and deterministic' (their statements: YtofoenlhbmammaaGreatTotals.lean).
  GIVEN WITH THE SEED: the statements are not yours to turn. If you find one false, say at which input.
  Laid BY PROGRAM, IN A SANDBOX (cutbox-rows.mjs): the forced cells as the released guide's own fill.sh prints them over the translation f2824865cba9d1b8… (all of the seat's roots in one cut). By AI agents, Wed Nov 11 2026. No macro, syntax, notation, axiom, sorry.
-/
import Derived.Test.YtofoenlhbmammaaGreatChecked
import GoSem.Claim
import GoSem.ClaimJoined
import GoSem.ClaimMapViews
import Derived.JoinedTies
import Derived.KernelRfl
namespace Go.Proofs.YtofoenlhbmammaaGreat
/- THE CELL 'sum', in the pinned program and in every row, IS THE sha256 OF THE DUMP (.gsa) THAT YtofoenlhbmammaaGreatProg.lean LOADS. Nothing in Lean hashes anything: it is a label: what it is worth is what the hold of that sum in a sandbox is worth. -/
noncomputable def Tryz.pinned : Pinned := { name := "ytofoenlhbmammaagreat", sum := "f2824865cba9d1b8a8df9693861488efdf9756f448e404d55183a5c0bd485960", checked := Tryz.checked }
namespace Rows
def none {H : Type} : Left H := { results := [], args := [] }

/-- 'tidehalllaw11.FreeTells': WHATEVER THE INPUT: true; the input reads as it did. -/
def freeTellsSpec : ChangeSpec := { name := "freeTells", fn := fun _ => fun
  | [d1, d2, d3, d4, d5, d6, d7] => { results := [.lit (.bool true)], args := [d1, d2, d3, d4, d5, d6, d7] }
  | _ => none }
def freeTellsRow : OpenClaim := { program := "ytofoenlhbmammaagreat", sum := "f2824865cba9d1b8a8df9693861488efdf9756f448e404d55183a5c0bd485960", func := "tidehall/tidehalllaw11.FreeTells", spec := "freeTells", unfollowed := true, recurses := true, apart := false }
def FreeTellsSaid : Prop := freeTellsRow.holds Tryz.pinned (OpenSpec.ofChange freeTellsSpec)

/-- ITS FALSE NEIGHBOUR: 'it returns false'. Refute it at one input. -/
def freeTellsWrong : ChangeSpec := { name := "freeTells", fn := fun _ => fun
  | [d1, d2, d3, d4, d5, d6, d7] => { results := [.lit (.bool false)], args := [d1, d2, d3, d4, d5, d6, d7] }
  | _ => none }
def FreeTellsWrongFalsely : Prop := freeTellsRow.holds Tryz.pinned (OpenSpec.ofChange freeTellsWrong)

/-- 'tidehalllaw11.FreeNames': WHATEVER THE INPUT: true; the input reads as it did. -/
def freeNamesSpec : ChangeSpec := { name := "freeNames", fn := fun _ => fun
  | [] => { results := [.lit (.bool true)], args := [] }
  | _ => none }
def freeNamesRow : OpenClaim := { program := "ytofoenlhbmammaagreat", sum := "f2824865cba9d1b8a8df9693861488efdf9756f448e404d55183a5c0bd485960", func := "tidehall/tidehalllaw11.FreeNames", spec := "freeNames", inPlace := ["slices.overlaps[tidehall/api.Slot]"], unfollowed := true, recurses := true, apart := false }
def FreeNamesSaid : Prop := freeNamesRow.holds Tryz.pinned (OpenSpec.ofChange freeNamesSpec)

/-- ITS FALSE NEIGHBOUR: 'it returns false'. Refute it at one input. -/
def freeNamesWrong : ChangeSpec := { name := "freeNames", fn := fun _ => fun
  | [] => { results := [.lit (.bool false)], args := [] }
  | _ => none }
def FreeNamesWrongFalsely : Prop := freeNamesRow.holds Tryz.pinned (OpenSpec.ofChange freeNamesWrong)

/-- 'tidehalllaw11.FreeSoon': WHATEVER THE INPUT: true; the input reads as it did. -/
def freeSoonSpec : ChangeSpec := { name := "freeSoon", fn := fun _ => fun
  | [d1, d2, d3, d4, d5, d6, d7] => { results := [.lit (.bool true)], args := [d1, d2, d3, d4, d5, d6, d7] }
  | _ => none }
def freeSoonRow : OpenClaim := { program := "ytofoenlhbmammaagreat", sum := "f2824865cba9d1b8a8df9693861488efdf9756f448e404d55183a5c0bd485960", func := "tidehall/tidehalllaw11.FreeSoon", spec := "freeSoon", inPlace := ["slices.overlaps[tidehall/api.Slot]"], unfollowed := true, recurses := true, apart := false }
def FreeSoonSaid : Prop := freeSoonRow.holds Tryz.pinned (OpenSpec.ofChange freeSoonSpec)

/-- ITS FALSE NEIGHBOUR: 'it returns false'. Refute it at one input. -/
def freeSoonWrong : ChangeSpec := { name := "freeSoon", fn := fun _ => fun
  | [d1, d2, d3, d4, d5, d6, d7] => { results := [.lit (.bool false)], args := [d1, d2, d3, d4, d5, d6, d7] }
  | _ => none }
def FreeSoonWrongFalsely : Prop := freeSoonRow.holds Tryz.pinned (OpenSpec.ofChange freeSoonWrong)

/-- 'tidehalllaw11.FreeLonger': WHATEVER THE INPUT: true; the input reads as it did. -/
def freeLongerSpec : ChangeSpec := { name := "freeLonger", fn := fun _ => fun
  | [d1, d2, d3, d4, d5, d6, d7, d8] => { results := [.lit (.bool true)], args := [d1, d2, d3, d4, d5, d6, d7, d8] }
  | _ => none }
def freeLongerRow : OpenClaim := { program := "ytofoenlhbmammaagreat", sum := "f2824865cba9d1b8a8df9693861488efdf9756f448e404d55183a5c0bd485960", func := "tidehall/tidehalllaw11.FreeLonger", spec := "freeLonger", inPlace := ["slices.overlaps[tidehall/api.Slot]"], unfollowed := true, recurses := true, apart := false }
def FreeLongerSaid : Prop := freeLongerRow.holds Tryz.pinned (OpenSpec.ofChange freeLongerSpec)

/-- ITS FALSE NEIGHBOUR: 'it returns false'. Refute it at one input. -/
def freeLongerWrong : ChangeSpec := { name := "freeLonger", fn := fun _ => fun
  | [d1, d2, d3, d4, d5, d6, d7, d8] => { results := [.lit (.bool false)], args := [d1, d2, d3, d4, d5, d6, d7, d8] }
  | _ => none }
def FreeLongerWrongFalsely : Prop := freeLongerRow.holds Tryz.pinned (OpenSpec.ofChange freeLongerWrong)

/-- 'tidehalllaw11.FreeLess': WHATEVER THE INPUT: true; the input reads as it did. -/
def freeLessSpec : ChangeSpec := { name := "freeLess", fn := fun _ => fun
  | [d1, d2, d3, d4, d5, d6] => { results := [.lit (.bool true)], args := [d1, d2, d3, d4, d5, d6] }
  | _ => none }
def freeLessRow : OpenClaim := { program := "ytofoenlhbmammaagreat", sum := "f2824865cba9d1b8a8df9693861488efdf9756f448e404d55183a5c0bd485960", func := "tidehall/tidehalllaw11.FreeLess", spec := "freeLess", inPlace := ["slices.overlaps[tidehall/api.Slot]"], unfollowed := true, recurses := true, apart := false }
def FreeLessSaid : Prop := freeLessRow.holds Tryz.pinned (OpenSpec.ofChange freeLessSpec)

/-- ITS FALSE NEIGHBOUR: 'it returns false'. Refute it at one input. -/
def freeLessWrong : ChangeSpec := { name := "freeLess", fn := fun _ => fun
  | [d1, d2, d3, d4, d5, d6] => { results := [.lit (.bool false)], args := [d1, d2, d3, d4, d5, d6] }
  | _ => none }
def FreeLessWrongFalsely : Prop := freeLessRow.holds Tryz.pinned (OpenSpec.ofChange freeLessWrong)

/- THE SECOND FORM. 'bulk': how many values and letters a reading holds, each counted each time it is reached (what is shared counts as often as it is met; a slice's spare places count too). A statement '..UptoSaid' is the law's where the arguments, and the package variables that the reading takes, are together of bulk at most 1048576: NARROWER than '..Said'. Prove '..Said' where nothing that the law and all that it calls make is longer than what came in: it says more and counts as full. Else prove '..UptoSaid'. A law counts once. -/
mutual
def uptoBulk {H : Type} : DataW H → Nat
  | .lit (.string bytes) => bytes.length + 1
  | .lit _ => 1
  | .nil => 1
  | .ptr d => uptoBulk d + 1
  | .slice elems spare => uptoBulkAll elems + uptoBulkAll spare + 1
  | .agg parts => uptoBulkAll parts + 1
  | .iface _ d => uptoBulk d + 1
  | .map entries => uptoBulkEntries entries + 1
  | .held _ => 1
def uptoBulkAll {H : Type} : List (DataW H) → Nat
  | [] => 0
  | d :: r => uptoBulk d + uptoBulkAll r
def uptoBulkEntries {H : Type} : List (Lit × DataW H) → Nat
  | [] => 0
  | x :: r => uptoBulkEntry x + uptoBulkEntries r
def uptoBulkEntry {H : Type} : Lit × DataW H → Nat
  | (.string bytes, d) => bytes.length + uptoBulk d + 1
  | (_, d) => uptoBulk d + 1
 end
def uptoSmall : (H : Type) → List (DataW H) → Bool := fun _ ds => decide (uptoBulkAll ds ≤ 1048576)
def OpenSpec.upto (s : _root_.Go.ChangeSpec) : _root_.Go.OpenSpec := { _root_.Go.OpenSpec.ofChange s with cond := some uptoSmall }

/-- 'tidehalllaw11.FreeTells', WHERE WHAT IT READS IS OF BULK AT MOST 1048576: true; the input reads as it did. -/
def freeTellsUptoRow : OpenClaim := { program := "ytofoenlhbmammaagreat", sum := "f2824865cba9d1b8a8df9693861488efdf9756f448e404d55183a5c0bd485960", func := "tidehall/tidehalllaw11.FreeTells", spec := "freeTells", unfollowed := true, recurses := true, apart := false, narrowed := true }
def FreeTellsUptoSaid : Prop := freeTellsUptoRow.holds Tryz.pinned (OpenSpec.upto freeTellsSpec)

/-- 'tidehalllaw11.FreeNames', WHERE WHAT IT READS IS OF BULK AT MOST 1048576: true; the input reads as it did. -/
def freeNamesUptoRow : OpenClaim := { program := "ytofoenlhbmammaagreat", sum := "f2824865cba9d1b8a8df9693861488efdf9756f448e404d55183a5c0bd485960", func := "tidehall/tidehalllaw11.FreeNames", spec := "freeNames", inPlace := ["slices.overlaps[tidehall/api.Slot]"], unfollowed := true, recurses := true, apart := false, narrowed := true }
def FreeNamesUptoSaid : Prop := freeNamesUptoRow.holds Tryz.pinned (OpenSpec.upto freeNamesSpec)

/-- 'tidehalllaw11.FreeSoon', WHERE WHAT IT READS IS OF BULK AT MOST 1048576: true; the input reads as it did. -/
def freeSoonUptoRow : OpenClaim := { program := "ytofoenlhbmammaagreat", sum := "f2824865cba9d1b8a8df9693861488efdf9756f448e404d55183a5c0bd485960", func := "tidehall/tidehalllaw11.FreeSoon", spec := "freeSoon", inPlace := ["slices.overlaps[tidehall/api.Slot]"], unfollowed := true, recurses := true, apart := false, narrowed := true }
def FreeSoonUptoSaid : Prop := freeSoonUptoRow.holds Tryz.pinned (OpenSpec.upto freeSoonSpec)

/-- 'tidehalllaw11.FreeLonger', WHERE WHAT IT READS IS OF BULK AT MOST 1048576: true; the input reads as it did. -/
def freeLongerUptoRow : OpenClaim := { program := "ytofoenlhbmammaagreat", sum := "f2824865cba9d1b8a8df9693861488efdf9756f448e404d55183a5c0bd485960", func := "tidehall/tidehalllaw11.FreeLonger", spec := "freeLonger", inPlace := ["slices.overlaps[tidehall/api.Slot]"], unfollowed := true, recurses := true, apart := false, narrowed := true }
def FreeLongerUptoSaid : Prop := freeLongerUptoRow.holds Tryz.pinned (OpenSpec.upto freeLongerSpec)

/-- 'tidehalllaw11.FreeLess', WHERE WHAT IT READS IS OF BULK AT MOST 1048576: true; the input reads as it did. -/
def freeLessUptoRow : OpenClaim := { program := "ytofoenlhbmammaagreat", sum := "f2824865cba9d1b8a8df9693861488efdf9756f448e404d55183a5c0bd485960", func := "tidehall/tidehalllaw11.FreeLess", spec := "freeLess", inPlace := ["slices.overlaps[tidehall/api.Slot]"], unfollowed := true, recurses := true, apart := false, narrowed := true }
def FreeLessUptoSaid : Prop := freeLessUptoRow.holds Tryz.pinned (OpenSpec.upto freeLessSpec)

end Rows
end Go.Proofs.YtofoenlhbmammaaGreat
