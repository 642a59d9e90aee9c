/- SLOTS: spans, slots, calendars, as they lie. -/
import Derived.Test.YtfikgjcmnooglaaProg
import Derived.Test.YtfikgjcmnooglaaOwn
import Derived.WalkSpells
namespace Go.Proofs.Ytfikgjcmnooglaa
open Go.RowKit Go.Shelf

/-- A slot: from, to, whose. -/
structure Sl where
  f : Int
  t : Int
  o : Int
deriving DecidableEq
def Sl.cells (s : Sl) : List Value := [.int .i64 s.f, .int .i64 s.t, .int .i64 s.o]
/-- Slots, as they lie. -/
def slc (c : List Sl) : List Value := c.flatMap Sl.cells
theorem slc_len (c : List Sl) : (slc c).length = c.length * 3 := by
  induction c with
  | nil => rfl
  | cons s c ih => simp only [slc, List.flatMap_cons, List.length_append] at ih ⊢; rw [ih]; simp [Sl.cells]; omega
theorem slc_at : ∀ {c : List Sl} {k : Nat} (h : k < c.length) (j : Nat), j < 3 → (slc c)[k * 3 + j]? = c[k].cells[j]?
  | s :: c, 0, _, j, hj => by
    simp only [slc, List.flatMap_cons, Nat.zero_mul, Nat.zero_add, List.getElem_cons_zero]
    rw [List.getElem?_append_left (by simp [Sl.cells]; omega)]
  | s :: c, k + 1, h, j, hj => by
    simp only [slc, List.flatMap_cons, List.getElem_cons_succ]
    rw [List.getElem?_append_right (by simp [Sl.cells]; omega), show (k + 1) * 3 + j - s.cells.length = k * 3 + j by simp [Sl.cells]; omega]
    exact slc_at (c := c) (by simpa using h) j hj

/-- A calendar that came in. -/
structure CIn (w : World) (base : Option Addr) (c : List Sl) : Prop where
  rd : Rd w base (slc c)
  len : c.length ≤ 1000000
theorem CIn.keep {w W : World} {base : Option Addr} {c : List Sl} (h : CIn w base c) (hb : Below w.heap.size w W) : CIn W base c := ⟨h.rd.keep hb, h.len⟩
theorem CIn.at {w : World} {base : Option Addr} {c : List Sl} (h : CIn w base c) {k : Nat} (hk : k < c.length) :
    ∃ b off, base = some ⟨b, off, none⟩ ∧ w.cell? ⟨b, off + k * 3, none⟩ = some (.int .i64 c[k].f) ∧ w.cell? ⟨b, off + k * 3 + 1, none⟩ = some (.int .i64 c[k].t) ∧ w.cell? ⟨b, off + k * 3 + 2, none⟩ = some (.int .i64 c[k].o) ∧ b < w.heap.size := by
  obtain ⟨b, off, e, h0⟩ := h.rd _ _ (show (slc c)[k * 3 + 0]? = some (Value.int .i64 c[k].f) from slc_at hk 0 (by omega))
  obtain ⟨b1, off1, e1, h1⟩ := h.rd _ _ (show (slc c)[k * 3 + 1]? = some (Value.int .i64 c[k].t) from slc_at hk 1 (by omega))
  obtain ⟨b2, off2, e2, h2⟩ := h.rd _ _ (show (slc c)[k * 3 + 2]? = some (Value.int .i64 c[k].o) from slc_at hk 2 (by omega))
  subst e
  cases e1
  cases e2
  exact ⟨b, off, rfl, h0, h1, h2, World.block_lt_of_cell? w _ h0⟩

/-- A span may be; a slot may be. -/
def spMay (f t : Int) : Prop := (0 ≤ f ∧ f < t) ∧ t ≤ 1099511627776
instance (f t : Int) : Decidable (spMay f t) := by unfold spMay; infer_instance
def Sl.may (s : Sl) : Prop := spMay s.f s.t ∧ (1 ≤ s.o ∧ s.o ≤ 1099511627776)
instance (s : Sl) : Decidable s.may := by unfold Sl.may; infer_instance

set_option maxRecDepth 100000 in set_option maxHeartbeats 4000000 in
theorem time_Check (f t : Int) (w : World) : Calls Try.prog 77 #[.agg #[.int .i64 f, .int .i64 t]] w (RB w (.int .i64 (okIf (spMay f t) 2))) := by
  go_enter Try.func77, Try.ntmps77
  go_wp2
  all_goals
    go_returns
    refine ⟨?_, by (repeat (first | (with_reducible exact Below.refl _ _) | (with_reducible assumption) | (with_reducible refine below_alloc ?_ _) | (with_reducible refine below_drewN ?_ _) | (with_reducible refine Below.drew ?_) | (with_reducible refine below_then ?_ (by with_reducible assumption)) | (with_reducible refine Below.setCell ?_ (by go_size) _)))⟩
    first | exact ret_ok (by unfold spMay; omega) | exact ret_err (by unfold spMay; omega)
set_option maxRecDepth 100000 in set_option maxHeartbeats 4000000 in
theorem ref07_May (f t : Int) (w : World) : Calls Try.prog 80 #[.agg #[.int .i64 f, .int .i64 t]] w (RB w (.bool (decide (spMay f t)))) := by
  go_enter Try.func80, Try.ntmps80
  go_wp2
  all_goals
    go_returns
    refine ⟨?_, by (repeat (first | (with_reducible exact Below.refl _ _) | (with_reducible assumption) | (with_reducible refine below_alloc ?_ _) | (with_reducible refine below_drewN ?_ _) | (with_reducible refine Below.drew ?_) | (with_reducible refine below_then ?_ (by with_reducible assumption)) | (with_reducible refine Below.setCell ?_ (by go_size) _)))⟩
    first | exact ret_yes (by unfold spMay; omega) | exact ret_no (by unfold spMay; omega) | (refine ret_bool ?_; unfold spMay; simp [*]; done) | (refine ret_bool ?_; unfold spMay; simp; omega)
end Go.Proofs.Ytfikgjcmnooglaa
