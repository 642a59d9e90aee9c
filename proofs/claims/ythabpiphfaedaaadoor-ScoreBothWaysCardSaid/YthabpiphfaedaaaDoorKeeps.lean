/- WHAT A ROUND KEEPS: all below a block; and all cells but for one block's. Deferred lists of many loops over functions. -/
import Derived.RangeFuncNested
import Derived.RangeFuncBound
import Derived.RangeFuncCalls
import Derived.RangeFuncLeaves
import Derived.RangeFuncBox
import Derived.RangeFuncWrites
import Derived.Shelf.Abstract
import Derived.Shelf.RegionOpen
import Derived.WalkKit
import Derived.OwnWalkIn
import Derived.TacticsInMore
import Derived.LoopNIn
import Derived.LoopIn
import Derived.Test.YthabpiphfaedaaaDoorBlk
namespace Go.Proofs.YthabpiphfaedaaaDoor
open Go.RowKit Go.Shelf

structure KpD (n₀ B : Nat) (W W' : World) : Prop where
  below : Below n₀ W W'
  cells : ∀ b o, b ≠ B → W.heap[b]? = some o → o.isCells = true → W'.heap[b]? = some o
theorem kpD_t {n₀ B : Nat} {X Y Z : World} (h : KpD n₀ B X Y) (k : KpD n₀ B Y Z) : KpD n₀ B X Z := ⟨h.below.trans k.below, fun b o hb ho hc => k.cells b o hb (h.cells b o hb ho hc) hc⟩
theorem kpD_b {w : World} {n₀ B : Nat} (hn : n₀ ≤ w.heap.size) (W : World) (l : Nat) (o o' : Obj) (hl : w.heap.size ≤ l) (he : W.heap[l]? = some o) (h1 : o.isCells = false) (h2 : o.isWalk = false) : KpD n₀ B W (W.putObj l o') :=
  ⟨belowK_b hn W l o o' hl he h1 h2, fun b p hb hp hc => by
    by_cases e : b = l
    · subst e; rw [he] at hp; cases hp; rw [h1] at hc; cases hc
    · exact (World.putObj_heap_other (by omega)).trans hp⟩
theorem KpD.blk {n₀ B b : Nat} {W W' : World} {t : TypeId} {cs : Array Value} (h : KpD n₀ B W W') (hb : Blk W b t cs) (hne : b ≠ B) : Blk W' b t cs := h.cells b _ hne hb rfl
theorem kd_own {W W' : World} {B Bx : Nat} {t : TypeId} {cs : Array Value} {row : Option Nat} (h : Blk W Bx t cs) (hg : W.grownBy W' row) (hr : ∀ r, row = some r → B ≤ r ∧ ∃ o : Obj, W.heap[r]? = some o ∧ o.isCells = false) : Blk W' Bx t cs := h.own hg (fun r e => (hr r e).2)
theorem kpD_alloc {n₀ B : Nat} {W : World} (o : Obj) (h : n₀ ≤ W.heap.size) : KpD n₀ B W (W.alloc o) := ⟨(Below.refl _ _).alloc h _, fun b p _ hb _ => (Below.heap_alloc _ _ _ (Array.getElem?_eq_some_iff.1 hb).1).trans hb⟩
theorem kpD_below {n₀ B : Nat} {W W' : World} (h : n₀ ≤ W.heap.size) (hb : Below W.heap.size W W') : KpD n₀ B W W' := ⟨hb.mono h, fun b p _ hp _ => (hb.block b (Array.getElem?_eq_some_iff.1 hp).1).trans hp⟩
theorem kpD_set {n₀ B k : Nat} {W : World} (v : Value) (h : n₀ ≤ B) : KpD n₀ B W (W.setCell ⟨B, k, none⟩ v) :=
  ⟨(Below.refl n₀ W).setCell (p := ⟨B, k, none⟩) h v, fun b o hb ho _ => (Below.heap_setCell W ⟨B, k, none⟩ v b hb).trans ho⟩
theorem kd_keeps {W W' : World} (hb : Below W.heap.size W W') : KeepsOthers W W' := ⟨hb.size, fun k o hk _ => (hb.block k (Array.getElem?_eq_some_iff.1 hk).1).trans hk⟩
/-- A function's deferred list, where its loops over functions have laid nothing. -/
def kdRec (D : Nat) : Deferred := { target := .collected D, args := #[] }
structure KdAll (W : World) (n₀ : Nat) (ds : List Nat) : Prop where
  lo : ∀ D ∈ ds, n₀ ≤ D
  nd : ds.Nodup
  at' : ∀ D ∈ ds, W.heap[D]? = some (.deferred (some []))
theorem KdAll.lt {W : World} {n₀ : Nat} {ds : List Nat} (h : KdAll W n₀ ds) : ∀ D ∈ ds, D < W.heap.size := fun D hD => (Array.getElem?_eq_some_iff.1 (h.at' D hD)).1
theorem KdAll.below {W W' : World} {n₀ : Nat} {ds : List Nat} (h : KdAll W n₀ ds) (hb : Below W.heap.size W W') : KdAll W' n₀ ds := ⟨h.lo, h.nd, fun D hD => (hb.block D (h.lt D hD)).trans (h.at' D hD)⟩
theorem KdAll.nil (W : World) (n₀ : Nat) : KdAll W n₀ [] := ⟨fun D h => (by cases h), List.nodup_nil, fun D h => (by cases h)⟩
theorem kd_leaves {F : Fence} {n : Nat} {P : Program} {fn : Func} {tmps : Array Value} {R : Ending → World → Prop} {u : FrameMode} (hu : u ≠ .run) {n₀ : Nat} : ∀ (ds : List Nat) (W : World), KdAll W n₀ ds → n₀ ≤ W.heap.size →
    (∀ W', Below n₀ W W' → (∀ (b : Nat) (o : Obj), W.heap[b]? = some o → o.isCells = true → W'.heap[b]? = some o) → LeavesIn F n P fn tmps R [] u W') → LeavesInM F n P fn tmps R (ds.map kdRec) u W
  | [], W, _, _, h => h W (Below.refl _ _) (fun _ _ h _ => h)
  | D :: ds, W, hd, hn, h => by
    have hD := hd.at' D (List.mem_cons_self ..)
    have hlo := hd.lo D (List.mem_cons_self ..)
    have hnd := List.nodup_cons.1 hd.nd
    have hb : Below n₀ W (W.putObj D (.deferred none)) := (Below.refl n₀ W).grown (grownBy_putObj' W D _) hn (fun k e => by cases e; exact hlo)
    have hne : ∀ b, b ≠ D → (W.putObj D (.deferred none)).heap[b]? = W.heap[b]? := fun b e => World.putObj_heap_other (by omega)
    refine ⟨hu, .inl ⟨D, _, rfl, run_takeDeferred hD, kd_leaves hu ds _ ⟨fun E hE => hd.lo E (List.mem_cons_of_mem _ hE), hnd.2, fun E hE => ?_⟩ (by have := hb.size; omega) (fun W' hb' hc' => h W' (hb.trans hb') (fun b o ho hc => hc' b o ?_ hc))⟩⟩
    · exact (hne E (fun e => hnd.1 (e ▸ hE))).trans (hd.at' E (List.mem_cons_of_mem _ hE))
    · refine (hne b (fun e => ?_)).trans ho
      subst e
      rw [hD] at ho
      cases ho
      cases hc
end Go.Proofs.YthabpiphfaedaaaDoor
