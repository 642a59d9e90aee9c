/- BOX: what holds along each axis; boxes of two; the plain law. -/
import Derived.Test.YtofoenlhbmammaaProg
import Derived.Test.YtofoenlhbmammaaQ0BaseG13
import Derived.Test.YtofoenlhbmammaaQ0Box2G13
import Derived.Test.YtofoenlhbmammaaQ0RefAllG13
set_option linter.unusedVariables false
set_option linter.unusedSimpArgs false
namespace Go.Proofs.Ytofoenlhbmammaa

section
section
open Go.RowKit Go.Shelf

/-- A closure that is asked along each axis of d answers q, and turns nothing that lay in w. -/
def Asks (P : Program) (d : V3) (g : Nat) (lb : Array Value) (q : Nat → Bool) (w : World) : Prop :=
  ∀ (i : Nat) (W : World), i < 3 → Below w.heap.size w W → Calls P g (#[.int .i64 (i : Int), .int .i64 (d.at i)] ++ lb) W (RB W (.bool (q i)))

theorem Asks.a0 {P : Program} {d : V3} {g : Nat} {lb : Array Value} {q : Nat → Bool} {w W : World} (h : Asks P d g lb q w) (hb : Below w.heap.size w W) : Calls P g (#[.int .i64 0, .int .i64 d.x] ++ lb) W (RB W (.bool (q 0))) := h 0 W (by omega) hb
theorem Asks.a1 {P : Program} {d : V3} {g : Nat} {lb : Array Value} {q : Nat → Bool} {w W : World} (h : Asks P d g lb q w) (hb : Below w.heap.size w W) : Calls P g (#[.int .i64 1, .int .i64 d.y] ++ lb) W (RB W (.bool (q 1))) := h 1 W (by omega) hb
theorem Asks.a2 {P : Program} {d : V3} {g : Nat} {lb : Array Value} {q : Nat → Bool} {w W : World} (h : Asks P d g lb q w) (hb : Below w.heap.size w W) : Calls P g (#[.int .i64 2, .int .i64 d.z] ++ lb) W (RB W (.bool (q 2))) := h 2 W (by omega) hb

def all3 (q : Nat → Bool) : Bool := q 0 && q 1 && q 2

set_option maxRecDepth 100000 in set_option maxHeartbeats 4000000 in
theorem box_along (d : V3) (g : Nat) (lb : Array Value) (q : Nat → Bool) (w : World) (eg : ∀ args w, (callFunc g args).run Try.prog w = .ok (.enter g args) w)
    (h : Asks Try.prog d g lb q w) : Calls Try.prog 67 #[.agg #[.int .i64 d.x, .int .i64 d.y, .int .i64 d.z], .func (.func g) #[] lb] w (RB w (.bool (all3 q))) := by
  cases q0 : q 0 with
  | false =>
    have hq := Lib.hid (show all3 q = false by simp [all3, q0])
    go_enter Try.func67, Try.ntmps67
    go_wp2_with fail
    refine wp_loop_rounds 4 ?_
    go_wp2_with (first | (rw [rounds_succ]) | ((with_reducible refine (h.a0 (by (repeat (first | (with_reducible exact Below.refl _ _) | (with_reducible assumption) | (with_reducible refine below_alloc ?_ _) | (with_reducible refine below_drewN ?_ _) | (with_reducible refine Below.drew ?_) | (with_reducible refine below_then ?_ (by with_reducible assumption)) | (with_reducible refine Below.setCell ?_ (by go_size) _))))).mono ?_); rintro e w1 ⟨rfl, hb1⟩; (obtain ⟨hc1, hf1⟩ := bcell hb1; have hz1 := hb1.size; (try simp at hz1); have hB : Below w.heap.size w w1 := (by (repeat (first | (with_reducible exact Below.refl _ _) | (with_reducible assumption) | (with_reducible refine below_alloc ?_ _) | (with_reducible refine below_drewN ?_ _) | (with_reducible refine Below.drew ?_) | (with_reducible refine below_then ?_ (by with_reducible assumption)) | (with_reducible refine Below.setCell ?_ (by go_size) _)))); obtain ⟨hcB, hfB⟩ := bcell hB; (try have z0 : w.heap.size < w1.heap.size := by omega); (try have z1 : w.heap.size + 1 < w1.heap.size := by omega); (try have z2 : w.heap.size + 2 < w1.heap.size := by omega); (try have z3 : w.heap.size + 3 < w1.heap.size := by omega))) | ((with_reducible refine (h.a1 (by (repeat (first | (with_reducible exact Below.refl _ _) | (with_reducible assumption) | (with_reducible refine below_alloc ?_ _) | (with_reducible refine below_drewN ?_ _) | (with_reducible refine Below.drew ?_) | (with_reducible refine below_then ?_ (by with_reducible assumption)) | (with_reducible refine Below.setCell ?_ (by go_size) _))))).mono ?_); rintro e w1 ⟨rfl, hb1⟩; (obtain ⟨hc1, hf1⟩ := bcell hb1; have hz1 := hb1.size; (try simp at hz1); have hB : Below w.heap.size w w1 := (by (repeat (first | (with_reducible exact Below.refl _ _) | (with_reducible assumption) | (with_reducible refine below_alloc ?_ _) | (with_reducible refine below_drewN ?_ _) | (with_reducible refine Below.drew ?_) | (with_reducible refine below_then ?_ (by with_reducible assumption)) | (with_reducible refine Below.setCell ?_ (by go_size) _)))); obtain ⟨hcB, hfB⟩ := bcell hB; (try have z0 : w.heap.size < w1.heap.size := by omega); (try have z1 : w.heap.size + 1 < w1.heap.size := by omega); (try have z2 : w.heap.size + 2 < w1.heap.size := by omega); (try have z3 : w.heap.size + 3 < w1.heap.size := by omega))) | ((with_reducible refine (h.a2 (by (repeat (first | (with_reducible exact Below.refl _ _) | (with_reducible assumption) | (with_reducible refine below_alloc ?_ _) | (with_reducible refine below_drewN ?_ _) | (with_reducible refine Below.drew ?_) | (with_reducible refine below_then ?_ (by with_reducible assumption)) | (with_reducible refine Below.setCell ?_ (by go_size) _))))).mono ?_); rintro e w1 ⟨rfl, hb1⟩; (obtain ⟨hc1, hf1⟩ := bcell hb1; have hz1 := hb1.size; (try simp at hz1); have hB : Below w.heap.size w w1 := (by (repeat (first | (with_reducible exact Below.refl _ _) | (with_reducible assumption) | (with_reducible refine below_alloc ?_ _) | (with_reducible refine below_drewN ?_ _) | (with_reducible refine Below.drew ?_) | (with_reducible refine below_then ?_ (by with_reducible assumption)) | (with_reducible refine Below.setCell ?_ (by go_size) _)))); obtain ⟨hcB, hfB⟩ := bcell hB; (try have z0 : w.heap.size < w1.heap.size := by omega); (try have z1 : w.heap.size + 1 < w1.heap.size := by omega); (try have z2 : w.heap.size + 2 < w1.heap.size := by omega); (try have z3 : w.heap.size + 3 < w1.heap.size := by omega))))
    go_returns
    exact ⟨by rw [hq.out]; rfl, by (repeat (first | (with_reducible exact Below.refl _ _) | (with_reducible assumption) | (with_reducible refine below_alloc ?_ _) | (with_reducible refine below_drewN ?_ _) | (with_reducible refine Below.drew ?_) | (with_reducible refine below_then ?_ (by with_reducible assumption)) | (with_reducible refine Below.setCell ?_ (by go_size) _)))⟩
  | true =>
    cases q1 : q 1 with
    | false =>
      have hq := Lib.hid (show all3 q = false by simp [all3, q0, q1])
      go_enter Try.func67, Try.ntmps67
      go_wp2_with fail
      refine wp_loop_rounds 4 ?_
      go_wp2_with (first | (rw [rounds_succ]) | ((with_reducible refine (h.a0 (by (repeat (first | (with_reducible exact Below.refl _ _) | (with_reducible assumption) | (with_reducible refine below_alloc ?_ _) | (with_reducible refine below_drewN ?_ _) | (with_reducible refine Below.drew ?_) | (with_reducible refine below_then ?_ (by with_reducible assumption)) | (with_reducible refine Below.setCell ?_ (by go_size) _))))).mono ?_); rintro e w1 ⟨rfl, hb1⟩; (obtain ⟨hc1, hf1⟩ := bcell hb1; have hz1 := hb1.size; (try simp at hz1); have hB : Below w.heap.size w w1 := (by (repeat (first | (with_reducible exact Below.refl _ _) | (with_reducible assumption) | (with_reducible refine below_alloc ?_ _) | (with_reducible refine below_drewN ?_ _) | (with_reducible refine Below.drew ?_) | (with_reducible refine below_then ?_ (by with_reducible assumption)) | (with_reducible refine Below.setCell ?_ (by go_size) _)))); obtain ⟨hcB, hfB⟩ := bcell hB; (try have z0 : w.heap.size < w1.heap.size := by omega); (try have z1 : w.heap.size + 1 < w1.heap.size := by omega); (try have z2 : w.heap.size + 2 < w1.heap.size := by omega); (try have z3 : w.heap.size + 3 < w1.heap.size := by omega))) | ((with_reducible refine (h.a1 (by (repeat (first | (with_reducible exact Below.refl _ _) | (with_reducible assumption) | (with_reducible refine below_alloc ?_ _) | (with_reducible refine below_drewN ?_ _) | (with_reducible refine Below.drew ?_) | (with_reducible refine below_then ?_ (by with_reducible assumption)) | (with_reducible refine Below.setCell ?_ (by go_size) _))))).mono ?_); rintro e w1 ⟨rfl, hb1⟩; (obtain ⟨hc1, hf1⟩ := bcell hb1; have hz1 := hb1.size; (try simp at hz1); have hB : Below w.heap.size w w1 := (by (repeat (first | (with_reducible exact Below.refl _ _) | (with_reducible assumption) | (with_reducible refine below_alloc ?_ _) | (with_reducible refine below_drewN ?_ _) | (with_reducible refine Below.drew ?_) | (with_reducible refine below_then ?_ (by with_reducible assumption)) | (with_reducible refine Below.setCell ?_ (by go_size) _)))); obtain ⟨hcB, hfB⟩ := bcell hB; (try have z0 : w.heap.size < w1.heap.size := by omega); (try have z1 : w.heap.size + 1 < w1.heap.size := by omega); (try have z2 : w.heap.size + 2 < w1.heap.size := by omega); (try have z3 : w.heap.size + 3 < w1.heap.size := by omega))) | ((with_reducible refine (h.a2 (by (repeat (first | (with_reducible exact Below.refl _ _) | (with_reducible assumption) | (with_reducible refine below_alloc ?_ _) | (with_reducible refine below_drewN ?_ _) | (with_reducible refine Below.drew ?_) | (with_reducible refine below_then ?_ (by with_reducible assumption)) | (with_reducible refine Below.setCell ?_ (by go_size) _))))).mono ?_); rintro e w1 ⟨rfl, hb1⟩; (obtain ⟨hc1, hf1⟩ := bcell hb1; have hz1 := hb1.size; (try simp at hz1); have hB : Below w.heap.size w w1 := (by (repeat (first | (with_reducible exact Below.refl _ _) | (with_reducible assumption) | (with_reducible refine below_alloc ?_ _) | (with_reducible refine below_drewN ?_ _) | (with_reducible refine Below.drew ?_) | (with_reducible refine below_then ?_ (by with_reducible assumption)) | (with_reducible refine Below.setCell ?_ (by go_size) _)))); obtain ⟨hcB, hfB⟩ := bcell hB; (try have z0 : w.heap.size < w1.heap.size := by omega); (try have z1 : w.heap.size + 1 < w1.heap.size := by omega); (try have z2 : w.heap.size + 2 < w1.heap.size := by omega); (try have z3 : w.heap.size + 3 < w1.heap.size := by omega))))
      go_returns
      exact ⟨by rw [hq.out]; rfl, by (repeat (first | (with_reducible exact Below.refl _ _) | (with_reducible assumption) | (with_reducible refine below_alloc ?_ _) | (with_reducible refine below_drewN ?_ _) | (with_reducible refine Below.drew ?_) | (with_reducible refine below_then ?_ (by with_reducible assumption)) | (with_reducible refine Below.setCell ?_ (by go_size) _)))⟩
    | true =>
      have hq := Lib.hid (show all3 q = q 2 by simp [all3, q0, q1])
      cases q2 : q 2 with
      | false =>
        have hq := Lib.hid (hq.out.trans q2)
        go_enter Try.func67, Try.ntmps67
        go_wp2_with fail
        refine wp_loop_rounds 4 ?_
        go_wp2_with (first | (rw [rounds_succ]) | ((with_reducible refine (h.a0 (by (repeat (first | (with_reducible exact Below.refl _ _) | (with_reducible assumption) | (with_reducible refine below_alloc ?_ _) | (with_reducible refine below_drewN ?_ _) | (with_reducible refine Below.drew ?_) | (with_reducible refine below_then ?_ (by with_reducible assumption)) | (with_reducible refine Below.setCell ?_ (by go_size) _))))).mono ?_); rintro e w1 ⟨rfl, hb1⟩; (obtain ⟨hc1, hf1⟩ := bcell hb1; have hz1 := hb1.size; (try simp at hz1); have hB : Below w.heap.size w w1 := (by (repeat (first | (with_reducible exact Below.refl _ _) | (with_reducible assumption) | (with_reducible refine below_alloc ?_ _) | (with_reducible refine below_drewN ?_ _) | (with_reducible refine Below.drew ?_) | (with_reducible refine below_then ?_ (by with_reducible assumption)) | (with_reducible refine Below.setCell ?_ (by go_size) _)))); obtain ⟨hcB, hfB⟩ := bcell hB; (try have z0 : w.heap.size < w1.heap.size := by omega); (try have z1 : w.heap.size + 1 < w1.heap.size := by omega); (try have z2 : w.heap.size + 2 < w1.heap.size := by omega); (try have z3 : w.heap.size + 3 < w1.heap.size := by omega))) | ((with_reducible refine (h.a1 (by (repeat (first | (with_reducible exact Below.refl _ _) | (with_reducible assumption) | (with_reducible refine below_alloc ?_ _) | (with_reducible refine below_drewN ?_ _) | (with_reducible refine Below.drew ?_) | (with_reducible refine below_then ?_ (by with_reducible assumption)) | (with_reducible refine Below.setCell ?_ (by go_size) _))))).mono ?_); rintro e w1 ⟨rfl, hb1⟩; (obtain ⟨hc1, hf1⟩ := bcell hb1; have hz1 := hb1.size; (try simp at hz1); have hB : Below w.heap.size w w1 := (by (repeat (first | (with_reducible exact Below.refl _ _) | (with_reducible assumption) | (with_reducible refine below_alloc ?_ _) | (with_reducible refine below_drewN ?_ _) | (with_reducible refine Below.drew ?_) | (with_reducible refine below_then ?_ (by with_reducible assumption)) | (with_reducible refine Below.setCell ?_ (by go_size) _)))); obtain ⟨hcB, hfB⟩ := bcell hB; (try have z0 : w.heap.size < w1.heap.size := by omega); (try have z1 : w.heap.size + 1 < w1.heap.size := by omega); (try have z2 : w.heap.size + 2 < w1.heap.size := by omega); (try have z3 : w.heap.size + 3 < w1.heap.size := by omega))) | ((with_reducible refine (h.a2 (by (repeat (first | (with_reducible exact Below.refl _ _) | (with_reducible assumption) | (with_reducible refine below_alloc ?_ _) | (with_reducible refine below_drewN ?_ _) | (with_reducible refine Below.drew ?_) | (with_reducible refine below_then ?_ (by with_reducible assumption)) | (with_reducible refine Below.setCell ?_ (by go_size) _))))).mono ?_); rintro e w1 ⟨rfl, hb1⟩; (obtain ⟨hc1, hf1⟩ := bcell hb1; have hz1 := hb1.size; (try simp at hz1); have hB : Below w.heap.size w w1 := (by (repeat (first | (with_reducible exact Below.refl _ _) | (with_reducible assumption) | (with_reducible refine below_alloc ?_ _) | (with_reducible refine below_drewN ?_ _) | (with_reducible refine Below.drew ?_) | (with_reducible refine below_then ?_ (by with_reducible assumption)) | (with_reducible refine Below.setCell ?_ (by go_size) _)))); obtain ⟨hcB, hfB⟩ := bcell hB; (try have z0 : w.heap.size < w1.heap.size := by omega); (try have z1 : w.heap.size + 1 < w1.heap.size := by omega); (try have z2 : w.heap.size + 2 < w1.heap.size := by omega); (try have z3 : w.heap.size + 3 < w1.heap.size := by omega))))
        go_returns
        exact ⟨by rw [hq.out]; rfl, by (repeat (first | (with_reducible exact Below.refl _ _) | (with_reducible assumption) | (with_reducible refine below_alloc ?_ _) | (with_reducible refine below_drewN ?_ _) | (with_reducible refine Below.drew ?_) | (with_reducible refine below_then ?_ (by with_reducible assumption)) | (with_reducible refine Below.setCell ?_ (by go_size) _)))⟩
      | true =>
        have hq := Lib.hid (hq.out.trans q2)
        go_enter Try.func67, Try.ntmps67
        go_wp2_with fail
        refine wp_loop_rounds 4 ?_
        go_wp2_with (first | (rw [rounds_succ]) | ((with_reducible refine (h.a0 (by (repeat (first | (with_reducible exact Below.refl _ _) | (with_reducible assumption) | (with_reducible refine below_alloc ?_ _) | (with_reducible refine below_drewN ?_ _) | (with_reducible refine Below.drew ?_) | (with_reducible refine below_then ?_ (by with_reducible assumption)) | (with_reducible refine Below.setCell ?_ (by go_size) _))))).mono ?_); rintro e w1 ⟨rfl, hb1⟩; (obtain ⟨hc1, hf1⟩ := bcell hb1; have hz1 := hb1.size; (try simp at hz1); have hB : Below w.heap.size w w1 := (by (repeat (first | (with_reducible exact Below.refl _ _) | (with_reducible assumption) | (with_reducible refine below_alloc ?_ _) | (with_reducible refine below_drewN ?_ _) | (with_reducible refine Below.drew ?_) | (with_reducible refine below_then ?_ (by with_reducible assumption)) | (with_reducible refine Below.setCell ?_ (by go_size) _)))); obtain ⟨hcB, hfB⟩ := bcell hB; (try have z0 : w.heap.size < w1.heap.size := by omega); (try have z1 : w.heap.size + 1 < w1.heap.size := by omega); (try have z2 : w.heap.size + 2 < w1.heap.size := by omega); (try have z3 : w.heap.size + 3 < w1.heap.size := by omega))) | ((with_reducible refine (h.a1 (by (repeat (first | (with_reducible exact Below.refl _ _) | (with_reducible assumption) | (with_reducible refine below_alloc ?_ _) | (with_reducible refine below_drewN ?_ _) | (with_reducible refine Below.drew ?_) | (with_reducible refine below_then ?_ (by with_reducible assumption)) | (with_reducible refine Below.setCell ?_ (by go_size) _))))).mono ?_); rintro e w1 ⟨rfl, hb1⟩; (obtain ⟨hc1, hf1⟩ := bcell hb1; have hz1 := hb1.size; (try simp at hz1); have hB : Below w.heap.size w w1 := (by (repeat (first | (with_reducible exact Below.refl _ _) | (with_reducible assumption) | (with_reducible refine below_alloc ?_ _) | (with_reducible refine below_drewN ?_ _) | (with_reducible refine Below.drew ?_) | (with_reducible refine below_then ?_ (by with_reducible assumption)) | (with_reducible refine Below.setCell ?_ (by go_size) _)))); obtain ⟨hcB, hfB⟩ := bcell hB; (try have z0 : w.heap.size < w1.heap.size := by omega); (try have z1 : w.heap.size + 1 < w1.heap.size := by omega); (try have z2 : w.heap.size + 2 < w1.heap.size := by omega); (try have z3 : w.heap.size + 3 < w1.heap.size := by omega))) | ((with_reducible refine (h.a2 (by (repeat (first | (with_reducible exact Below.refl _ _) | (with_reducible assumption) | (with_reducible refine below_alloc ?_ _) | (with_reducible refine below_drewN ?_ _) | (with_reducible refine Below.drew ?_) | (with_reducible refine below_then ?_ (by with_reducible assumption)) | (with_reducible refine Below.setCell ?_ (by go_size) _))))).mono ?_); rintro e w1 ⟨rfl, hb1⟩; (obtain ⟨hc1, hf1⟩ := bcell hb1; have hz1 := hb1.size; (try simp at hz1); have hB : Below w.heap.size w w1 := (by (repeat (first | (with_reducible exact Below.refl _ _) | (with_reducible assumption) | (with_reducible refine below_alloc ?_ _) | (with_reducible refine below_drewN ?_ _) | (with_reducible refine Below.drew ?_) | (with_reducible refine below_then ?_ (by with_reducible assumption)) | (with_reducible refine Below.setCell ?_ (by go_size) _)))); obtain ⟨hcB, hfB⟩ := bcell hB; (try have z0 : w.heap.size < w1.heap.size := by omega); (try have z1 : w.heap.size + 1 < w1.heap.size := by omega); (try have z2 : w.heap.size + 2 < w1.heap.size := by omega); (try have z3 : w.heap.size + 3 < w1.heap.size := by omega))))
        go_returns
        exact ⟨by rw [hq.out]; rfl, by (repeat (first | (with_reducible exact Below.refl _ _) | (with_reducible assumption) | (with_reducible refine below_alloc ?_ _) | (with_reducible refine below_drewN ?_ _) | (with_reducible refine Below.drew ?_) | (with_reducible refine below_then ?_ (by with_reducible assumption)) | (with_reducible refine Below.setCell ?_ (by go_size) _)))⟩

/-- How many steps on a coordinate is from another one. -/
def stepsOn (f t n : Int) : Int := (t - f + n) % n

set_option maxRecDepth 100000 in set_option maxHeartbeats 4000000 in
theorem box_on (f t n : Int) (w : World) (h1 : 1 ≤ n) (h2 : n ≤ 16) (h3 : 0 ≤ f) (h4 : f < n) (h5 : 0 ≤ t) (h6 : t < n) : Calls Try.prog 69 #[.int .i64 f, .int .i64 t, .int .i64 n] w fun e w' => e = .returned (.int .i64 (stepsOn f t n)) ∧ w' = w := by
  go_enter Try.func69, Try.ntmps69
  go_wp2_with fail
  go_returns
  exact ⟨rfl, rfl⟩
end

section
open Go.RowKit Go.Shelf

/-- A box lies in a block of its own. -/
structure BoxAt (w : World) (B : Nat) (b : Bx) : Prop where
  c0 : w.cell? ⟨B, 0, none⟩ = some (.int .i64 b.b.x)
  c1 : w.cell? ⟨B, 1, none⟩ = some (.int .i64 b.b.y)
  c2 : w.cell? ⟨B, 2, none⟩ = some (.int .i64 b.b.z)
  c3 : w.cell? ⟨B, 3, none⟩ = some (.int .i64 b.s.x)
  c4 : w.cell? ⟨B, 4, none⟩ = some (.int .i64 b.s.y)
  c5 : w.cell? ⟨B, 5, none⟩ = some (.int .i64 b.s.z)
  lt : B < w.heap.size

theorem BoxAt.keep {w W : World} {B : Nat} {b : Bx} (h : BoxAt w B b) (hb : Below w.heap.size w W) : BoxAt W B b :=
  ⟨(hb.cell (p := ⟨B, 0, none⟩) h.lt).trans h.c0, (hb.cell (p := ⟨B, 1, none⟩) h.lt).trans h.c1, (hb.cell (p := ⟨B, 2, none⟩) h.lt).trans h.c2,
   (hb.cell (p := ⟨B, 3, none⟩) h.lt).trans h.c3, (hb.cell (p := ⟨B, 4, none⟩) h.lt).trans h.c4, (hb.cell (p := ⟨B, 5, none⟩) h.lt).trans h.c5, Nat.lt_of_lt_of_le h.lt hb.size⟩

def meets1 (a b : Bx) (n : Int) (i : Nat) : Bool := decide (stepsOn (a.b.at i) (b.b.at i) n < a.s.at i) || decide (stepsOn (b.b.at i) (a.b.at i) n < b.s.at i)

def within1 (a b : Bx) (n : Int) (i : Nat) : Bool := decide (b.s.at i = n) || decide (stepsOn (b.b.at i) (a.b.at i) n + a.s.at i ≤ b.s.at i)
set_option maxRecDepth 100000 in set_option maxHeartbeats 4000000 in
theorem within_ask0 (a b : Bx) (n : Int) (w : World) (A B : Nat) (ha : BoxAt w A a) (hb : BoxAt w B b) (h1 : 1 ≤ n) (h2 : n ≤ 16) (h3 : 0 ≤ a.b.x) (h4 : a.b.x < n) (h5 : 0 ≤ b.b.x) (h6 : b.b.x < n) (h7 : 1 ≤ a.s.x) (h8 : a.s.x ≤ n) :
    Calls Try.prog 68 #[.int .i64 0, .int .i64 n, .pointer (some ⟨B, 0, none⟩), .pointer (some ⟨A, 0, none⟩)] w (RB w (.bool (within1 a b n 0))) := by
  have hs0 : 0 ≤ stepsOn b.b.x a.b.x n := by unfold stepsOn; exact Int.emod_nonneg _ (by omega)
  have hs1 : stepsOn b.b.x a.b.x n < n := by unfold stepsOn; exact Int.emod_lt_of_pos _ (by omega)
  obtain ⟨a0, a1, a2, a3, a4, a5, alt⟩ := ha
  obtain ⟨b0, b1, b2, b3, b4, b5, blt⟩ := hb
  go_enter Try.func68, Try.ntmps68
  go_wp2_with (refine wp_region_quiet_lit (by kernel_rfl) (by kernel_rfl) ?_; (repeat (any_goals (first | go_big_quiet_step (((go_at_call 69; exact Calls.quiet_of_same (box_on _ _ _ _ (by omega) (by omega) (by omega) (by omega) (by omega) (by omega))))) | quiet_step (((go_at_call 69; exact Calls.quiet_of_same (box_on _ _ _ _ (by omega) (by omega) (by omega) (by omega) (by omega) (by omega))))) | (refine wpQuiet_step (fun K hK => ?_); go_simp; split <;> (refine hK _ ?_; clear hK K))))); all_goals (refine wpQuiet_nil ?_; intro _ hw'; obtain ⟨nq, hw''⟩ := hw'; subst hw''))
  all_goals
    go_returns
    refine ⟨?_, by (repeat (first | (with_reducible exact Below.refl _ _) | (with_reducible assumption) | (with_reducible refine below_alloc ?_ _) | (with_reducible refine below_drewN ?_ _) | (with_reducible refine Below.drew ?_) | (with_reducible refine below_then ?_ (by with_reducible assumption)) | (with_reducible refine Below.setCell ?_ (by go_size) _)))⟩
    first | exact rfl | (refine ret_bool ?_; simp [within1, *]; done) | trace_state
set_option maxRecDepth 100000 in set_option maxHeartbeats 4000000 in
theorem within_ask1 (a b : Bx) (n : Int) (w : World) (A B : Nat) (ha : BoxAt w A a) (hb : BoxAt w B b) (h1 : 1 ≤ n) (h2 : n ≤ 16) (h3 : 0 ≤ a.b.y) (h4 : a.b.y < n) (h5 : 0 ≤ b.b.y) (h6 : b.b.y < n) (h7 : 1 ≤ a.s.y) (h8 : a.s.y ≤ n) :
    Calls Try.prog 68 #[.int .i64 1, .int .i64 n, .pointer (some ⟨B, 0, none⟩), .pointer (some ⟨A, 0, none⟩)] w (RB w (.bool (within1 a b n 1))) := by
  have hs0 : 0 ≤ stepsOn b.b.y a.b.y n := by unfold stepsOn; exact Int.emod_nonneg _ (by omega)
  have hs1 : stepsOn b.b.y a.b.y n < n := by unfold stepsOn; exact Int.emod_lt_of_pos _ (by omega)
  obtain ⟨a0, a1, a2, a3, a4, a5, alt⟩ := ha
  obtain ⟨b0, b1, b2, b3, b4, b5, blt⟩ := hb
  go_enter Try.func68, Try.ntmps68
  go_wp2_with (refine wp_region_quiet_lit (by kernel_rfl) (by kernel_rfl) ?_; (repeat (any_goals (first | go_big_quiet_step (((go_at_call 69; exact Calls.quiet_of_same (box_on _ _ _ _ (by omega) (by omega) (by omega) (by omega) (by omega) (by omega))))) | quiet_step (((go_at_call 69; exact Calls.quiet_of_same (box_on _ _ _ _ (by omega) (by omega) (by omega) (by omega) (by omega) (by omega))))) | (refine wpQuiet_step (fun K hK => ?_); go_simp; split <;> (refine hK _ ?_; clear hK K))))); all_goals (refine wpQuiet_nil ?_; intro _ hw'; obtain ⟨nq, hw''⟩ := hw'; subst hw''))
  all_goals
    go_returns
    refine ⟨?_, by (repeat (first | (with_reducible exact Below.refl _ _) | (with_reducible assumption) | (with_reducible refine below_alloc ?_ _) | (with_reducible refine below_drewN ?_ _) | (with_reducible refine Below.drew ?_) | (with_reducible refine below_then ?_ (by with_reducible assumption)) | (with_reducible refine Below.setCell ?_ (by go_size) _)))⟩
    first | exact rfl | (refine ret_bool ?_; simp [within1, *]; done) | trace_state
set_option maxRecDepth 100000 in set_option maxHeartbeats 4000000 in
theorem within_ask2 (a b : Bx) (n : Int) (w : World) (A B : Nat) (ha : BoxAt w A a) (hb : BoxAt w B b) (h1 : 1 ≤ n) (h2 : n ≤ 16) (h3 : 0 ≤ a.b.z) (h4 : a.b.z < n) (h5 : 0 ≤ b.b.z) (h6 : b.b.z < n) (h7 : 1 ≤ a.s.z) (h8 : a.s.z ≤ n) :
    Calls Try.prog 68 #[.int .i64 2, .int .i64 n, .pointer (some ⟨B, 0, none⟩), .pointer (some ⟨A, 0, none⟩)] w (RB w (.bool (within1 a b n 2))) := by
  have hs0 : 0 ≤ stepsOn b.b.z a.b.z n := by unfold stepsOn; exact Int.emod_nonneg _ (by omega)
  have hs1 : stepsOn b.b.z a.b.z n < n := by unfold stepsOn; exact Int.emod_lt_of_pos _ (by omega)
  obtain ⟨a0, a1, a2, a3, a4, a5, alt⟩ := ha
  obtain ⟨b0, b1, b2, b3, b4, b5, blt⟩ := hb
  go_enter Try.func68, Try.ntmps68
  go_wp2_with (refine wp_region_quiet_lit (by kernel_rfl) (by kernel_rfl) ?_; (repeat (any_goals (first | go_big_quiet_step (((go_at_call 69; exact Calls.quiet_of_same (box_on _ _ _ _ (by omega) (by omega) (by omega) (by omega) (by omega) (by omega))))) | quiet_step (((go_at_call 69; exact Calls.quiet_of_same (box_on _ _ _ _ (by omega) (by omega) (by omega) (by omega) (by omega) (by omega))))) | (refine wpQuiet_step (fun K hK => ?_); go_simp; split <;> (refine hK _ ?_; clear hK K))))); all_goals (refine wpQuiet_nil ?_; intro _ hw'; obtain ⟨nq, hw''⟩ := hw'; subst hw''))
  all_goals
    go_returns
    refine ⟨?_, by (repeat (first | (with_reducible exact Below.refl _ _) | (with_reducible assumption) | (with_reducible refine below_alloc ?_ _) | (with_reducible refine below_drewN ?_ _) | (with_reducible refine Below.drew ?_) | (with_reducible refine below_then ?_ (by with_reducible assumption)) | (with_reducible refine Below.setCell ?_ (by go_size) _)))⟩
    first | exact rfl | (refine ret_bool ?_; simp [within1, *]; done) | trace_state
end

section
open Go.RowKit Go.Shelf

def boxMeet (d : V3) (a b : Bx) : Bool := decide (chk2 d a b = 0) && all3 (fun i => meets1 a b (d.at i) i)
def boxWithin (d : V3) (a b : Bx) : Bool := decide (chk2 d a b = 0) && all3 (fun i => within1 a b (d.at i) i)
theorem boxMeet_ok {d : V3} {a b : Bx} (h : chk2 d a b = 0) : boxMeet d a b = all3 (fun i => meets1 a b (d.at i) i) := by simp [boxMeet, h]
theorem boxMeet_no {d : V3} {a b : Bx} (h : ¬ chk2 d a b = 0) : boxMeet d a b = false := by simp [boxMeet, h]
theorem boxWithin_ok {d : V3} {a b : Bx} (h : chk2 d a b = 0) : boxWithin d a b = all3 (fun i => within1 a b (d.at i) i) := by simp [boxWithin, h]
theorem boxWithin_no {d : V3} {a b : Bx} (h : ¬ chk2 d a b = 0) : boxWithin d a b = false := by simp [boxWithin, h]

theorem chk2_0 {d : V3} {a b : Bx} (h : chk2 d a b = 0) : d.may ∧ a.may d ∧ b.may d := by
  unfold chk2 okIf at h
  by_cases hd : d.may
  · rw [if_pos hd] at h
    by_cases hab : a.may d ∧ b.may d
    · exact ⟨hd, hab⟩
    · rw [if_neg hab] at h; omega
  · rw [if_neg hd] at h; omega

theorem asks_of {P : Program} {d : V3} {g : Nat} {lb : Array Value} {q : Nat → Bool} {w : World}
    (h0 : ∀ W, Below w.heap.size w W → Calls P g (#[.int .i64 0, .int .i64 d.x] ++ lb) W (RB W (.bool (q 0))))
    (h1 : ∀ W, Below w.heap.size w W → Calls P g (#[.int .i64 1, .int .i64 d.y] ++ lb) W (RB W (.bool (q 1))))
    (h2 : ∀ W, Below w.heap.size w W → Calls P g (#[.int .i64 2, .int .i64 d.z] ++ lb) W (RB W (.bool (q 2)))) : Asks P d g lb q w := by
  intro i W hi hb
  match i, hi with
  | 0, _ => exact h0 W hb
  | 1, _ => exact h1 W hb
  | 2, _ => exact h2 W hb

theorem within_asks (d : V3) (a b : Bx) (w : World) (A B : Nat) (ha : BoxAt w A a) (hb : BoxAt w B b) (h : chk2 d a b = 0) :
    Asks Try.prog d 68 #[.pointer (some ⟨B, 0, none⟩), .pointer (some ⟨A, 0, none⟩)] (fun i => within1 a b (d.at i) i) w := by
  obtain ⟨hd, h1, h2⟩ := chk2_0 h
  unfold V3.may at hd
  unfold Bx.may at h1 h2
  refine asks_of (fun W hW => ?_) (fun W hW => ?_) (fun W hW => ?_)
  · exact within_ask0 a b d.x W A B (ha.keep hW) (hb.keep hW) (by omega) (by omega) (by omega) (by omega) (by omega) (by omega) (by omega) (by omega)
  · exact within_ask1 a b d.y W A B (ha.keep hW) (hb.keep hW) (by omega) (by omega) (by omega) (by omega) (by omega) (by omega) (by omega) (by omega)
  · exact within_ask2 a b d.z W A B (ha.keep hW) (hb.keep hW) (by omega) (by omega) (by omega) (by omega) (by omega) (by omega) (by omega) (by omega)

/-- A box in a block that is written out. -/
theorem boxAt_mk {w : World} {B : Nat} {b : Bx} (h0 : w.cell? ⟨B, 0, none⟩ = some (.int .i64 b.b.x)) (h1 : w.cell? ⟨B, 1, none⟩ = some (.int .i64 b.b.y)) (h2 : w.cell? ⟨B, 2, none⟩ = some (.int .i64 b.b.z))
    (h3 : w.cell? ⟨B, 3, none⟩ = some (.int .i64 b.s.x)) (h4 : w.cell? ⟨B, 4, none⟩ = some (.int .i64 b.s.y)) (h5 : w.cell? ⟨B, 5, none⟩ = some (.int .i64 b.s.z)) : BoxAt w B b :=
  ⟨h0, h1, h2, h3, h4, h5, World.block_lt_of_cell? w _ h0⟩

set_option maxRecDepth 100000 in set_option maxHeartbeats 4000000 in
theorem box_Within (d : V3) (a b : Bx) (w : World) : Calls Try.prog 41 #[.agg #[.int .i64 d.x, .int .i64 d.y, .int .i64 d.z], .agg #[.int .i64 a.b.x, .int .i64 a.b.y, .int .i64 a.b.z, .int .i64 a.s.x, .int .i64 a.s.y, .int .i64 a.s.z], .agg #[.int .i64 b.b.x, .int .i64 b.b.y, .int .i64 b.b.z, .int .i64 b.s.x, .int .i64 b.s.y, .int .i64 b.s.z]] w (RB w (.tuple #[.bool (boxWithin d a b), .int .i64 (chk2 d a b)])) := by
  by_cases h : chk2 d a b = 0
  · have hq := Lib.hid (boxWithin_ok h)
    have hh := Lib.hid h
    have eg : ∀ args w, (callFunc 68 args).run Try.prog w = .ok (.enter 68 args) w := enters_of Try.func68 (by kernel_rfl) rfl
    go_enter Try.func41, Try.ntmps41
    go_wp2_with fail
    refine (box_checked d a b _ _ ?_).mono ?_
    · constructor <;> simp [go_sem]
    rintro e w1 ⟨rfl, hb1⟩
    (obtain ⟨hc1, hf1⟩ := bcell hb1; have hz1 := hb1.size; (try simp at hz1); have hB : Below w.heap.size w w1 := (by (repeat (first | (with_reducible exact Below.refl _ _) | (with_reducible assumption) | (with_reducible refine below_alloc ?_ _) | (with_reducible refine below_drewN ?_ _) | (with_reducible refine Below.drew ?_) | (with_reducible refine below_then ?_ (by with_reducible assumption)) | (with_reducible refine Below.setCell ?_ (by go_size) _)))); obtain ⟨hcB, hfB⟩ := bcell hB; (try have z0 : w.heap.size < w1.heap.size := by omega); (try have z1 : w.heap.size + 1 < w1.heap.size := by omega); (try have z2 : w.heap.size + 2 < w1.heap.size := by omega); (try have z3 : w.heap.size + 3 < w1.heap.size := by omega))
    go_wp2_with fail
    refine (box_along d _ _ _ _ eg (within_asks d a b _ _ _ ?_ ?_ hh.out)).mono ?_
    · apply boxAt_mk <;> simp [hc1, go_sem]
    · apply boxAt_mk <;> simp [hc1, go_sem]
    rintro e w2 ⟨rfl, hb2⟩
    go_wp2_with fail
    go_returns
    exact ⟨by rw [hq.out, hh.out]; rfl, by (repeat (first | (with_reducible exact Below.refl _ _) | (with_reducible assumption) | (with_reducible refine below_alloc ?_ _) | (with_reducible refine below_drewN ?_ _) | (with_reducible refine Below.drew ?_) | (with_reducible refine below_then ?_ (by with_reducible assumption)) | (with_reducible refine Below.setCell ?_ (by go_size) _)))⟩
  · have hq := Lib.hid (boxWithin_no h)
    have hn : (chk2 d a b == 0) = false := by simpa using h
    have hm : (chk2 d a b != 0) = true := by simpa using h
    go_enter Try.func41, Try.ntmps41
    go_wp2_with fail
    refine (box_checked d a b _ _ ?_).mono ?_
    · constructor <;> simp [go_sem]
    rintro e w1 ⟨rfl, hb1⟩
    go_wp2_with fail
    go_returns
    exact ⟨by rw [hq.out]; rfl, by (repeat (first | (with_reducible exact Below.refl _ _) | (with_reducible assumption) | (with_reducible refine below_alloc ?_ _) | (with_reducible refine below_drewN ?_ _) | (with_reducible refine Below.drew ?_) | (with_reducible refine below_then ?_ (by with_reducible assumption)) | (with_reducible refine Below.setCell ?_ (by go_size) _)))⟩
end

section
theorem emod2 {x n : Int} (h : 0 ≤ x) (h2 : x < 2 * n) : x % n = if x < n then x else x - n := by
  split
  · exact Int.emod_eq_of_lt h (by omega)
  · have e : x % n = (x - n) % n := by
      have := Int.add_emod_right (a := x - n) (b := n)
      rw [Int.sub_add_cancel] at this
      exact this
    rw [e]
    exact Int.emod_eq_of_lt (by omega) (by omega)

theorem stepsOn_eq {f t n : Int} (h3 : 0 ≤ f) (h4 : f < n) (h5 : 0 ≤ t) (h6 : t < n) : stepsOn f t n = if f ≤ t then t - f else t - f + n := by
  unfold stepsOn
  rw [emod2 (by omega) (by omega)]
  split <;> split <;> omega

theorem inRun_eq {b s n p : Int} (h1 : 0 ≤ b) (h2 : b < n) (h3 : 1 ≤ s) (h4 : s ≤ n) (h5 : 0 ≤ p) (h6 : p < n) : inRun b s n p s.toNat = decide (stepsOn b p n < s) := by
  rw [Bool.eq_iff_iff, decide_eq_true_iff, stepsOn_eq h1 h2 h5 h6]
  simp only [inRun, List.any_eq_true, List.mem_range, decide_eq_true_eq]
  constructor
  · rintro ⟨k, hk, he⟩
    rw [emod2 (by omega) (by omega)] at he
    split at he <;> split <;> omega
  · intro h
    refine ⟨(if b ≤ p then p - b else p - b + n).toNat, ?_, ?_⟩
    · split at h <;> split <;> omega
    · rw [emod2 (by split at h <;> split <;> omega) (by split at h <;> split <;> omega)]
      split <;> split at h <;> split <;> omega

/-- A box's run along each axis. -/
def Bx.hasP (d : V3) (b : Bx) (p : V3) : Prop := stepsOn b.b.x p.x d.x < b.s.x ∧ stepsOn b.b.y p.y d.y < b.s.y ∧ stepsOn b.b.z p.z d.z < b.s.z

theorem Bx.has_iff {d : V3} {b : Bx} {m : Int} (h : d.may) (hb : b.may d) (h0 : 0 ≤ m) (h1 : m < d.n) : b.has d m = true ↔ b.hasP d (d.pos m) := by
  have hp := V3.pos_inside h h0 h1
  unfold Bx.may at hb
  obtain ⟨⟨x0, x1⟩, ⟨y0, y1⟩, z0, z1⟩ := hp
  unfold Bx.has Bx.hasP
  rw [inRun_eq (by omega) (by omega) (by omega) (by omega) x0 x1, inRun_eq (by omega) (by omega) (by omega) (by omega) y0 y1, inRun_eq (by omega) (by omega) (by omega) (by omega) z0 z1]
  simp [and_assoc]

theorem Bx.any_iff {d : V3} {b : Bx} {q : Int → Bool} (h : d.may) (hb : b.may d) : (b.all d).any q = true ↔ ∃ p, d.inside p ∧ b.hasP d p ∧ q (d.num p) = true := by
  rw [List.any_eq_true]
  constructor
  · rintro ⟨m, hm, hq⟩
    obtain ⟨⟨h0, h1⟩, hh⟩ := Bx.mem_all.1 hm
    refine ⟨d.pos m, V3.pos_inside h h0 h1, (Bx.has_iff h hb h0 h1).1 hh, ?_⟩
    have : d.num (d.pos m) = m := by
      unfold V3.num V3.pos
      simp only []
      rw [Int.emod_add_mul_ediv, Int.emod_add_mul_ediv]
    rw [this]; exact hq
  · rintro ⟨p, hp, hb', hq⟩
    have hn := V3.num_lt h hp
    refine ⟨d.num p, Bx.mem_all.2 ⟨hn, (Bx.has_iff h hb hn.1 hn.2).2 (by rw [V3.pos_num h hp]; exact hb')⟩, hq⟩

theorem meet_axis {a b s t n : Int} (ha : 0 ≤ a ∧ a < n) (hb : 0 ≤ b ∧ b < n) (hs : 1 ≤ s ∧ s ≤ n) (ht : 1 ≤ t ∧ t ≤ n) :
    (∃ p, (0 ≤ p ∧ p < n) ∧ stepsOn a p n < s ∧ stepsOn b p n < t) ↔ (stepsOn a b n < s ∨ stepsOn b a n < t) := by
  rw [stepsOn_eq ha.1 ha.2 hb.1 hb.2, stepsOn_eq hb.1 hb.2 ha.1 ha.2]
  constructor
  · rintro ⟨p, hp, h1, h2⟩
    rw [stepsOn_eq ha.1 ha.2 hp.1 hp.2] at h1
    rw [stepsOn_eq hb.1 hb.2 hp.1 hp.2] at h2
    split at h1 <;> split at h2 <;> split <;> split <;> omega
  · rintro (h | h)
    · refine ⟨b, hb, ?_, ?_⟩
      · rw [stepsOn_eq ha.1 ha.2 hb.1 hb.2]; exact h
      · rw [stepsOn_eq hb.1 hb.2 hb.1 hb.2]; split <;> omega
    · refine ⟨a, ha, ?_, ?_⟩
      · rw [stepsOn_eq ha.1 ha.2 ha.1 ha.2]; split <;> omega
      · rw [stepsOn_eq hb.1 hb.2 ha.1 ha.2]; exact h

theorem within_axis {a b s t n : Int} (ha : 0 ≤ a ∧ a < n) (hb : 0 ≤ b ∧ b < n) (hs : 1 ≤ s ∧ s ≤ n) (ht : 1 ≤ t ∧ t ≤ n) :
    (∀ p, 0 ≤ p ∧ p < n → stepsOn a p n < s → stepsOn b p n < t) ↔ (t = n ∨ stepsOn b a n + s ≤ t) := by
  rw [stepsOn_eq hb.1 hb.2 ha.1 ha.2]
  constructor
  · intro h
    by_cases hn : t = n
    · exact .inl hn
    · refine .inr ?_
      have h1 := h a ha (by rw [stepsOn_eq ha.1 ha.2 ha.1 ha.2]; split <;> omega)
      rw [stepsOn_eq hb.1 hb.2 ha.1 ha.2] at h1
      apply Decidable.byContradiction
      intro hc
      by_cases hw : a + (t - (if b ≤ a then a - b else a - b + n)) < n
      · have h2 := h (a + (t - (if b ≤ a then a - b else a - b + n))) (by split at h1 <;> split <;> omega) (by
          rw [stepsOn_eq ha.1 ha.2 (by split at h1 <;> split <;> omega) hw]; split at h1 <;> split at hc <;> split <;> split <;> omega)
        rw [stepsOn_eq hb.1 hb.2 (by split at h1 <;> split <;> omega) hw] at h2
        split at h1 <;> split at hc <;> split at h2 <;> split at h2 <;> split at hw <;> omega
      · have h2 := h (a + (t - (if b ≤ a then a - b else a - b + n)) - n) (by split at h1 <;> split at hw <;> split <;> omega) (by
          rw [stepsOn_eq ha.1 ha.2 (by split at h1 <;> split at hw <;> split <;> omega) (by split at h1 <;> split at hw <;> split <;> omega)]; split at h1 <;> split at hc <;> split <;> split <;> omega)
        rw [stepsOn_eq hb.1 hb.2 (by split at h1 <;> split at hw <;> split <;> omega) (by split at h1 <;> split at hw <;> split <;> omega)] at h2
        split at h1 <;> split at hc <;> split at h2 <;> split at h2 <;> split at hw <;> omega
  · intro h p hp h1
    rw [stepsOn_eq ha.1 ha.2 hp.1 hp.2] at h1
    rw [stepsOn_eq hb.1 hb.2 hp.1 hp.2]
    split at h1 <;> split at h <;> split <;> omega

theorem Bx.meet_eq {d : V3} {a b : Bx} (h : d.may) (ha : a.may d) (hb : b.may d) : (a.all d).any (b.has d) = all3 (fun i => meets1 a b (d.at i) i) := by
  have ha' := ha
  have hb' := hb
  unfold Bx.may at ha' hb'
  rw [Bool.eq_iff_iff, Bx.any_iff h ha]
  have hx := meet_axis (a := a.b.x) (b := b.b.x) (s := a.s.x) (t := b.s.x) (n := d.x) (by omega) (by omega) (by omega) (by omega)
  have hy := meet_axis (a := a.b.y) (b := b.b.y) (s := a.s.y) (t := b.s.y) (n := d.y) (by omega) (by omega) (by omega) (by omega)
  have hz := meet_axis (a := a.b.z) (b := b.b.z) (s := a.s.z) (t := b.s.z) (n := d.z) (by omega) (by omega) (by omega) (by omega)
  have e0 : meets1 a b (d.at 0) 0 = true ↔ (∃ p, (0 ≤ p ∧ p < d.x) ∧ stepsOn a.b.x p d.x < a.s.x ∧ stepsOn b.b.x p d.x < b.s.x) := by unfold meets1; rw [Bool.or_eq_true, decide_eq_true_iff, decide_eq_true_iff]; exact hx.symm
  have e1 : meets1 a b (d.at 1) 1 = true ↔ (∃ p, (0 ≤ p ∧ p < d.y) ∧ stepsOn a.b.y p d.y < a.s.y ∧ stepsOn b.b.y p d.y < b.s.y) := by unfold meets1; rw [Bool.or_eq_true, decide_eq_true_iff, decide_eq_true_iff]; exact hy.symm
  have e2 : meets1 a b (d.at 2) 2 = true ↔ (∃ p, (0 ≤ p ∧ p < d.z) ∧ stepsOn a.b.z p d.z < a.s.z ∧ stepsOn b.b.z p d.z < b.s.z) := by unfold meets1; rw [Bool.or_eq_true, decide_eq_true_iff, decide_eq_true_iff]; exact hz.symm
  rw [show all3 (fun i => meets1 a b (d.at i) i) = (meets1 a b (d.at 0) 0 && meets1 a b (d.at 1) 1 && meets1 a b (d.at 2) 2) from rfl, Bool.and_eq_true, Bool.and_eq_true, e0, e1, e2]
  constructor
  · rintro ⟨p, hp, hA, hB⟩
    have hn := V3.num_lt h hp
    rw [Bx.has_iff h hb hn.1 hn.2, V3.pos_num h hp] at hB
    exact ⟨⟨⟨p.x, hp.1, hA.1, hB.1⟩, ⟨p.y, hp.2.1, hA.2.1, hB.2.1⟩⟩, ⟨p.z, hp.2.2, hA.2.2, hB.2.2⟩⟩
  · rintro ⟨⟨⟨x, hx1, hx2, hx3⟩, ⟨y, hy1, hy2, hy3⟩⟩, ⟨z, hz1, hz2, hz3⟩⟩
    have hp : d.inside ⟨x, y, z⟩ := ⟨hx1, hy1, hz1⟩
    have hn := V3.num_lt h hp
    refine ⟨⟨x, y, z⟩, hp, ⟨hx2, hy2, hz2⟩, ?_⟩
    rw [Bx.has_iff h hb hn.1 hn.2, V3.pos_num h hp]
    exact ⟨hx3, hy3, hz3⟩

theorem Bx.within_eq {d : V3} {a b : Bx} (h : d.may) (ha : a.may d) (hb : b.may d) : (!(a.all d).any (fun m => !b.has d m)) = all3 (fun i => within1 a b (d.at i) i) := by
  have ha' := ha
  have hb' := hb
  unfold Bx.may at ha' hb'
  have hx := within_axis (a := a.b.x) (b := b.b.x) (s := a.s.x) (t := b.s.x) (n := d.x) (by omega) (by omega) (by omega) (by omega)
  have hy := within_axis (a := a.b.y) (b := b.b.y) (s := a.s.y) (t := b.s.y) (n := d.y) (by omega) (by omega) (by omega) (by omega)
  have hz := within_axis (a := a.b.z) (b := b.b.z) (s := a.s.z) (t := b.s.z) (n := d.z) (by omega) (by omega) (by omega) (by omega)
  have own : ∀ b s n : Int, 0 ≤ b → b < n → 1 ≤ s → stepsOn b b n < s := fun b s n h1 h2 h3 => by rw [stepsOn_eq h1 h2 h1 h2]; split <;> omega
  rw [Bool.eq_iff_iff, Bool.not_eq_true', ← Bool.not_eq_true, Bx.any_iff h ha]
  have e0 : within1 a b (d.at 0) 0 = true ↔ (∀ p, 0 ≤ p ∧ p < d.x → stepsOn a.b.x p d.x < a.s.x → stepsOn b.b.x p d.x < b.s.x) := by unfold within1; rw [Bool.or_eq_true, decide_eq_true_iff, decide_eq_true_iff]; exact hx.symm
  have e1 : within1 a b (d.at 1) 1 = true ↔ (∀ p, 0 ≤ p ∧ p < d.y → stepsOn a.b.y p d.y < a.s.y → stepsOn b.b.y p d.y < b.s.y) := by unfold within1; rw [Bool.or_eq_true, decide_eq_true_iff, decide_eq_true_iff]; exact hy.symm
  have e2 : within1 a b (d.at 2) 2 = true ↔ (∀ p, 0 ≤ p ∧ p < d.z → stepsOn a.b.z p d.z < a.s.z → stepsOn b.b.z p d.z < b.s.z) := by unfold within1; rw [Bool.or_eq_true, decide_eq_true_iff, decide_eq_true_iff]; exact hz.symm
  rw [show all3 (fun i => within1 a b (d.at i) i) = (within1 a b (d.at 0) 0 && within1 a b (d.at 1) 1 && within1 a b (d.at 2) 2) from rfl, Bool.and_eq_true, Bool.and_eq_true, e0, e1, e2]
  constructor
  · intro hno
    have all : ∀ p, d.inside p → a.hasP d p → b.hasP d p := fun p hp hA => by
      have hn := V3.num_lt h hp
      apply Classical.byContradiction
      intro hB
      refine hno ⟨p, hp, hA, ?_⟩
      rw [Bool.not_eq_true', ← Bool.not_eq_true, Bx.has_iff h hb hn.1 hn.2, V3.pos_num h hp]
      exact hB
    have ox := own a.b.x a.s.x d.x (by omega) (by omega) (by omega)
    have oy := own a.b.y a.s.y d.y (by omega) (by omega) (by omega)
    have oz := own a.b.z a.s.z d.z (by omega) (by omega) (by omega)
    have qx : 0 ≤ a.b.x ∧ a.b.x < d.x := by omega
    have qy : 0 ≤ a.b.y ∧ a.b.y < d.y := by omega
    have qz : 0 ≤ a.b.z ∧ a.b.z < d.z := by omega
    refine ⟨⟨fun p hp hA => ?_, fun p hp hA => ?_⟩, fun p hp hA => ?_⟩
    · exact (all ⟨p, a.b.y, a.b.z⟩ ⟨hp, qy, qz⟩ ⟨hA, oy, oz⟩).1
    · exact (all ⟨a.b.x, p, a.b.z⟩ ⟨qx, hp, qz⟩ ⟨ox, hA, oz⟩).2.1
    · exact (all ⟨a.b.x, a.b.y, p⟩ ⟨qx, qy, hp⟩ ⟨ox, oy, hA⟩).2.2
  · rintro ⟨⟨h1, h2⟩, h3⟩ ⟨p, hp, hA, hB⟩
    have hn := V3.num_lt h hp
    rw [Bool.not_eq_true', ← Bool.not_eq_true, Bx.has_iff h hb hn.1 hn.2, V3.pos_num h hp] at hB
    exact hB ⟨h1 _ hp.1 hA.1, h2 _ hp.2.1 hA.2.1, h3 _ hp.2.2 hA.2.2⟩

theorem boxMeet_eq (d : V3) (a b : Bx) : boxMeet d a b = refMeet d a b := by
  unfold boxMeet refMeet
  by_cases h : chk2 d a b = 0
  · obtain ⟨hd, ha, hb⟩ := chk2_0 h
    rw [Bx.meet_eq hd ha hb]
  · simp [h]
theorem boxWithin_eq (d : V3) (a b : Bx) : boxWithin d a b = refWithin d a b := by
  unfold boxWithin refWithin
  by_cases h : chk2 d a b = 0
  · obtain ⟨hd, ha, hb⟩ := chk2_0 h
    rw [Bx.within_eq hd ha hb]
  · simp [h]
end
end
end Go.Proofs.Ytofoenlhbmammaa
