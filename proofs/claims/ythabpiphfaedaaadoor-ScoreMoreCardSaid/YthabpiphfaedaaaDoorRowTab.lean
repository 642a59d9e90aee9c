/- ROWS OF A PROGRAM WITH THE TABLE OF math/bits: what the row's list gives; a world for the witness. -/
import Derived.Test.YthabpiphfaedaaaDoorRowS
import Derived.Test.YthabpiphfaedaaaDoorCards
import Derived.Test.YthabpiphfaedaaaDoorTie
import Derived.Test.YthabpiphfaedaaaDoorSetTz
import Derived.Deep.DeepHandedRow
import Derived.Lib.LaidTab
namespace Go.Proofs.YthabpiphfaedaaaDoor
open Go.ChangeShapes Go.WideShapes Go.ChangeAt Go.RowKit Go.Shelf

def tabData {H : Type} : List (String × DataW H) := [("math/bits.deBruijn64tab", Rows.laid_math_bits_deBruijn64tab)]
theorem gTab : Tryd.prog.globalNamed "math/bits.deBruijn64tab" = some 0 := by kernel_rfl
theorem gTabType : (Tryd.prog.globals[0]?).map (·.type) = some 112 := by kernel_rfl
theorem cellsTab : Tryd.prog.cellsOf 112 = 64 := by kernel_rfl
theorem cellsU8 : Tryd.prog.cellsOf 5 = 1 := by kernel_rfl

set_option maxRecDepth 100000 in set_option maxHeartbeats 4000000 in
theorem tab_of_laid {W : World} (h : laidMetH Tryd.prog tabData W) : TabAt 0 Lib.deBruijn64tab W := by
  have ht : Lib.TabIs Tryd.prog W "math/bits.deBruijn64tab" .u8 (Lib.deBruijn64tab.map (fun (x : Nat) => (x : Int))) :=
    Lib.tabIs_of_head (rest := []) gTab gTabType Tryd.underlying112 Tryd.underlying5 cellsU8 cellsTab h
  intro j hj
  have := ht.cell gTab j (by simpa using hj)
  rw [this]
  simp [hj]
theorem tab_lt {W : World} (h : TabAt 0 Lib.deBruijn64tab W) : 0 < W.heap.size :=
  World.block_lt_of_cell? W _ (h 0 (by decide))

/-- A WORLD FOR THE WITNESS: the settled one, the table holding what its text lays. -/
noncomputable def laidWorld (os : Os) : World :=
  { World.holding Tryd.prog os ⟨#[], #[], []⟩ with heap := (World.holding Tryd.prog os ⟨#[], #[], []⟩).heap.modify 0 fun
      | .cells _ t frozen => .cells (Lib.deBruijn64tab.map (fun (x : Nat) => Value.int .u8 (x : Int))).toArray t frozen
      | o => o }
end Go.Proofs.YthabpiphfaedaaaDoor
