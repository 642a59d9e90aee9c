/- LAW 03: the chapter's first examples stand. -/
import Derived.Test.YthabpiphfaedaaaDoorSetValB
namespace Go.Proofs.YthabpiphfaedaaaDoor
open Go.RowKit Go.Shelf

theorem rd_new (w : World) (cs : Array Value) (t : TypeId) : Rd (w.alloc (.cells cs t)) (some ⟨w.heap.size, 0, none⟩) cs.toList := by
  intro i v hv
  refine ⟨w.heap.size, 0, rfl, ?_⟩
  rw [World.cell?_alloc_new, Nat.zero_add]
  simpa using hv
theorem lin_new (w : World) (l : List Int) (t : TypeId) (hl : l.length ≤ 1000) : LIn (w.alloc (.cells (l.map (Value.int .i64)).toArray t)) (some ⟨w.heap.size, 0, none⟩) l :=
  ⟨by have := rd_new w (l.map (Value.int .i64)).toArray t; simpa using this, by omega⟩
theorem sin_new (w : World) (l : List Nat) (t : TypeId) (hl : l.length ≤ 1000) (hf : W64 l) : SetIn (w.alloc (.cells (wcells l).toArray t)) (some ⟨w.heap.size, 0, none⟩) l :=
  ⟨by have := rd_new w (wcells l).toArray t; simpa using this, by omega, hf⟩

theorem exOf : ofErr 70 [3, 69, 3] = 0 ∧ ofSet 70 [3, 69, 3] = [8, 32] := by decide +kernel
theorem exList : sChk 70 [8, 32] = 0 ∧ listV 70 [8, 32] = [3, 69] := by decide +kernel
theorem exFit : W64 [8, 32] := by intro x hx; simp at hx; omega

end Go.Proofs.YthabpiphfaedaaaDoor
