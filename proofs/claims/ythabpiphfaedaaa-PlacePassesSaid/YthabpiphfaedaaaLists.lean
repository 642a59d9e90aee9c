/- LISTS of integers: one that came in; a new one, with an error. -/
import Derived.Test.YthabpiphfaedaaaOwn
namespace Go.Proofs.Ythabpiphfaedaaa
open Go.RowKit Go.Shelf

/-- A list of integers that came in. -/
structure LIn (w : World) (base : Option Addr) (l : List Int) : Prop where
  rd : Rd w base (l.map (Value.int .i64))
  len : l.length ≤ 4611686018427387904
theorem LIn.keep {w W : World} {base : Option Addr} {l : List Int} (h : LIn w base l) (hb : Below w.heap.size w W) : LIn W base l := ⟨h.rd.keep hb, h.len⟩

/-- A new list of integers, and an error. -/
def RIE (w : World) (l : List Int) (x : Int) : Ending → World → Prop := fun e w' =>
  ∃ v, e = .returned (.tuple #[v, .int .i64 x]) ∧ w'.ownsRow w.heap.size 3 1 v l.length (l.map (Value.int .i64)) ∧ Below w.heap.size w w'


theorem list_of_own {W : World} {B : Nat} {v : Value} {l : List Int} (h : W.ownsRow B 3 1 v l.length (l.map (Value.int .i64))) (hl : l.length ≤ 4611686018427387904) :
    ∃ base cap, v = .slice base l.length cap ∧ LIn W base l ∧ l.length ≤ cap := by
  obtain ⟨base, cap, rfl, rd, hc⟩ := own_rd h
  exact ⟨base, cap, rfl, ⟨rd, hl⟩, hc⟩
end Go.Proofs.Ythabpiphfaedaaa
