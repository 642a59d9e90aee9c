/- ROWS of numbers, as they lie. -/
import Derived.Test.YthabpiphfaedaaaOwn
import Derived.IntWalk
import Derived.Lib.SliceRun
namespace Go.Proofs.Ythabpiphfaedaaa
open Go.RowKit Go.Shelf

def ic (l : List Int) : List Value := l.map (Value.int .i64)
theorem ic_len (l : List Int) : (ic l).length = l.length := by simp [ic]
theorem ic_app (a b : List Int) : ic (a ++ b) = ic a ++ ic b := by simp [ic]
theorem ic_one (l : List Int) : ∀ u ∈ ic l, u.oneCell' = true := by
  intro u hu
  obtain ⟨x, _, rfl⟩ := List.mem_map.1 hu
  rfl
/-- A new list is handed back; nothing that was there has turned. -/
def RL (w : World) (l : List Int) : Ending → World → Prop := fun e w' => ∃ v, e = .returned v ∧ w'.ownsRow w.heap.size 3 1 v l.length (ic l) ∧ Below w.heap.size w w'
end Go.Proofs.Ythabpiphfaedaaa
