/- POS: the strides of a torus, one axis after another: the iterator's contract. -/
import Derived.RangeFuncNested
import Derived.RangeFuncBound
import Derived.RangeFuncCalls
import Derived.RangeFuncLeaves
import Derived.RangeFuncBox
import Derived.Shelf.Abstract
import Derived.Shelf.RegionOpen
import Derived.WalkKit
import Derived.OwnWalkIn
import Derived.TacticsInMore
import Derived.LoopNIn
import Derived.LoopIn
import Derived.Test.YtfikgjcmnooglaaProg
import Derived.Test.YtfikgjcmnooglaaV3
import Derived.Test.YtfikgjcmnooglaaOwn
namespace Go.Proofs.Ytfikgjcmnooglaa
open Go.RowKit Go.Shelf
attribute [local go_sem] Oper.semAt_some

/-- How far one step of an axis is. -/
def V3.by (d : V3) : Nat → Int
  | 0 => 1
  | 1 => d.x
  | 2 => d.x * d.y
  | _ => d.n
/-- The axes that came first. -/
def ways : Nat → List (Fin 3)
  | 0 => []
  | 1 => [0]
  | 2 => [0, 1]
  | _ => [0, 1, 2]
theorem ways_succ (k : Nat) (h : k < 3) : ways (k + 1) = ways k ++ [⟨k, h⟩] := by
  match k, h with
  | 0, _ => rfl
  | 1, _ => rfl
  | 2, _ => rfl
theorem ways_length (k : Nat) (h : k ≤ 3) : (ways k).length = k := by
  match k, h with
  | 0, _ => rfl
  | 1, _ => rfl
  | 2, _ => rfl
  | 3, _ => rfl
theorem V3.by_mul (d : V3) (h : d.may) (k : Nat) (hk : k < 3) : d.by k * d.at k = d.by (k + 1) ∧ 1 ≤ d.by k * d.at k ∧ d.by k * d.at k ≤ 4096 := by
  have hxy := V3.xy_le h
  have hnn := V3.n_le h
  unfold V3.n at hnn
  unfold V3.may at h
  match k, hk with
  | 0, _ => simp only [V3.by, V3.at0, Int.one_mul]; exact ⟨trivial, by omega, by omega⟩
  | 1, _ => simp only [V3.by, V3.at1]; exact ⟨trivial, by omega, by omega⟩
  | 2, _ => simp only [V3.by, V3.at2, V3.n]; exact ⟨trivial, by omega, by omega⟩
theorem DimsAt.at {w : World} {B : Nat} {d : V3} (h : DimsAt w B d) (k : Nat) (hk : k < 3) : w.cell? ⟨B, k, none⟩ = some (.int .i64 (d.at k)) := by
  match k, hk with
  | 0, _ => exact h.c0
  | 1, _ => exact h.c1
  | 2, _ => exact h.c2

theorem DimsAt.same {w W : World} {B : Nat} {d : V3} (h : DimsAt w B d) (e : W.heap[B]? = w.heap[B]?) : DimsAt W B d :=
  ⟨(World.cell?_of_block (a := ⟨B, 0, none⟩) (w := w) e).trans h.c0, (World.cell?_of_block (a := ⟨B, 1, none⟩) (w := w) e).trans h.c1, (World.cell?_of_block (a := ⟨B, 2, none⟩) (w := w) e).trans h.c2⟩

/-- What a round keeps: all below a block, and one block more. -/
def Keep2 (n₀ B : Nat) (W W' : World) : Prop := Below n₀ W W' ∧ W'.heap[B]? = W.heap[B]?
theorem keep2_t {n₀ B : Nat} {X Y Z : World} (h : Keep2 n₀ B X Y) (k : Keep2 n₀ B Y Z) : Keep2 n₀ B X Z := ⟨h.1.trans k.1, k.2.trans h.2⟩
theorem keep2_b {w : World} {n₀ B : Nat} (hn : n₀ ≤ w.heap.size) (hB : B < w.heap.size) (W : World) (l : Nat) (o o' : Obj) (hl : w.heap.size ≤ l) (he : W.heap[l]? = some o) (h1 : o.isCells = false) (h2 : o.isWalk = false) : Keep2 n₀ B W (W.putObj l o') :=
  ⟨belowK_b hn W l o o' hl he h1 h2, World.putObj_heap_other (by omega)⟩

end Go.Proofs.Ytfikgjcmnooglaa
