/- BASE: laws on the model's operations and on the readings of slices that the walks of this claim lean on. -/
import Derived.WalkKit
import Derived.Handy
import Derived.Lib.Hide
import Derived.OwnWalk
import Derived.Deep.QuietTactic
import Derived.BigQuiet
import Derived.Shelf.Abstract
set_option linter.unusedVariables false
set_option linter.unusedSimpArgs false
namespace Go.Proofs.Ytofoenlhbmammaa

section
open Go.RowKit Go.Shelf

section
variable {P : Program} (w : World)

@[go_sem] theorem run_index_agg (t : TypeId) (cs : Array Value) (k : IntKind) (i : Int) (h : P.underlying t = some (.array (P.arrayLen t) (P.elem t))) :
    (Instr.index t (.agg cs) (.int k i)).run P w =
      if 0 ≤ i ∧ i < P.arrayLen t then ((sizeOf (P.elem t)).run P w).andThen (fun s w => (part (P.elem t) cs (i.toNat * s)).run P w)
      else (boundsPanic k i (P.arrayLen t) .index).run P w := by
  simp only [Instr.index, asIntOf, Sem.run_bind]
  simp [run_underlying h]
end

/-- Three numbers: dimensions, coordinates. -/
structure V3 where
  x : Int
  y : Int
  z : Int
deriving DecidableEq

/-- A box: where it begins, how long it is. -/
structure Bx where
  b : V3
  s : V3
deriving DecidableEq

/-- The number along an axis. -/
def V3.at (d : V3) (i : Nat) : Int := if i = 0 then d.x else if i = 1 then d.y else d.z
@[simp] theorem V3.at0 (d : V3) : d.at 0 = d.x := rfl
@[simp] theorem V3.at1 (d : V3) : d.at 1 = d.y := rfl
@[simp] theorem V3.at2 (d : V3) : d.at 2 = d.z := rfl

/-- Dimensions may be. -/
def V3.may (d : V3) : Prop := (1 ≤ d.x ∧ d.x ≤ 16) ∧ (1 ≤ d.y ∧ d.y ≤ 16) ∧ (1 ≤ d.z ∧ d.z ≤ 16)
instance (d : V3) : Decidable d.may := by unfold V3.may; infer_instance

/-- A box may be, of dimensions that may. -/
def Bx.may (d : V3) (b : Bx) : Prop :=
  ((1 ≤ b.s.x ∧ b.s.x ≤ d.x) ∧ (0 ≤ b.b.x ∧ b.b.x < d.x)) ∧ ((1 ≤ b.s.y ∧ b.s.y ≤ d.y) ∧ (0 ≤ b.b.y ∧ b.b.y < d.y)) ∧ ((1 ≤ b.s.z ∧ b.s.z ≤ d.z) ∧ (0 ≤ b.b.z ∧ b.b.z < d.z))
instance (d : V3) (b : Bx) : Decidable (b.may d) := by unfold Bx.may; infer_instance

def okIf (p : Prop) [Decidable p] (e : Int) : Int := if p then 0 else e
theorem okIf_yes {p : Prop} [Decidable p] {e : Int} (h : p) : okIf p e = 0 := if_pos h
theorem okIf_no {p : Prop} [Decidable p] {e : Int} (h : ¬ p) : okIf p e = e := if_neg h
theorem ret_ok {p : Prop} [Decidable p] {e : Int} (h : p) : Ending.returned (.int .i64 0) = .returned (.int .i64 (okIf p e)) := by rw [okIf_yes h]
theorem ret_err {p : Prop} [Decidable p] {e : Int} (h : ¬ p) : Ending.returned (.int .i64 e) = .returned (.int .i64 (okIf p e)) := by rw [okIf_no h]
theorem ret_yes {p : Prop} [Decidable p] (h : p) : Ending.returned (.bool true) = .returned (.bool (decide p)) := by rw [decide_eq_true h]
theorem ret_no {p : Prop} [Decidable p] (h : ¬ p) : Ending.returned (.bool false) = .returned (.bool (decide p)) := by rw [decide_eq_false h]
theorem ret_int {k : IntKind} {a b : Int} (h : a = b) : Ending.returned (.int k a) = .returned (.int k b) := by rw [h]
theorem ret_bool {a b : Bool} (h : a = b) : Ending.returned (.bool a) = .returned (.bool b) := by rw [h]

/-- What a call hands back that turns nothing that was there. -/
def RB (w : World) (v : Value) : Ending → World → Prop := fun e w' => e = .returned v ∧ Below w.heap.size w w'

theorem below_then {w w1 w2 : World} (h : Below w.heap.size w w1) (h2 : Below w1.heap.size w1 w2) : Below w.heap.size w w2 := h.trans (h2.mono h.size)
theorem below_alloc {w w1 : World} (h : Below w.heap.size w w1) (o : Obj) : Below w.heap.size w (w1.alloc o) := h.alloc h.size o
theorem below_drewN {B : Nat} {w w1 : World} (h : Below B w w1) (n : Nat) : Below B w (w1.drewN n) := ⟨h.os, h.tape, h.output, h.size, h.block⟩
theorem bcell {W w1 : World} (hb : Below W.heap.size W w1) : (∀ b o, b < W.heap.size → w1.cell? ⟨b, o, none⟩ = W.cell? ⟨b, o, none⟩) ∧ (∀ b o, b < W.heap.size → w1.frozen? ⟨b, o, none⟩ = W.frozen? ⟨b, o, none⟩) :=
  ⟨fun b o h => hb.cell (p := ⟨b, o, none⟩) h, fun b o h => hb.frozen (p := ⟨b, o, none⟩) h⟩

/-- A world that came of w, all that lay in w unturned. -/
structure Aft (w : World) where
  to : World
  h : Below w.heap.size w to

instance (w : World) : Inhabited (Aft w) := ⟨⟨w, Below.refl _ w⟩⟩

@[go_sem] theorem Aft.cell {w : World} (x : Aft w) (b o : Nat) (h : b < w.heap.size) : x.to.cell? ⟨b, o, none⟩ = w.cell? ⟨b, o, none⟩ := (bcell x.h).1 b o h
@[go_sem] theorem Aft.frozen {w : World} (x : Aft w) (b o : Nat) (h : b < w.heap.size) : x.to.frozen? ⟨b, o, none⟩ = w.frozen? ⟨b, o, none⟩ := (bcell x.h).2 b o h

/-- A region that draws its order, whose operations only read, and whose callees turn nothing that lay ahead of the region: walked once. -/
theorem wp_region_aft {P : Program} {id : Nat} {Q : Exit → Act → World → Prop} {a : Act} {w : World} {l : List Oper} (hm : P.follows .mixedOrders = true) (hB : Region.lexB .any l.toArray = true)
    (h : wpQuiet P l.toArray (fun w' => ∃ x : Aft w, w' = x.to) (fun a' => ∀ w', (∃ x : Aft w, w' = x.to) → Q .normal a' w') l a) : (Code.region id l.toArray true).wp P Q a w :=
  wp_region_quiet (C := fun w' => ∃ x : Aft w, w' = x.to) hm hB ⟨⟨_, (Below.refl _ w).drew⟩, rfl⟩ (by simpa using h)

theorem Calls.aft_of {P : Program} {f : FuncId} {args : Array Value} {w : World} {x : Aft w} {v : Value} (h : Calls P f args x.to (RB x.to v)) : Calls P f args x.to fun e w'' => e = .returned v ∧ ∃ y : Aft w, w'' = y.to :=
  h.mono fun _ w2 ⟨he, hb⟩ => ⟨he, ⟨w2, below_then x.h hb⟩, rfl⟩
end
end Go.Proofs.Ytofoenlhbmammaa
