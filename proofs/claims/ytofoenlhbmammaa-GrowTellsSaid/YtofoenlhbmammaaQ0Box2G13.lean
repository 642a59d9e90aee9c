/- BOX: the error of two boxes. -/
import Derived.Test.YtofoenlhbmammaaProg
import Derived.Test.YtofoenlhbmammaaQ0BaseG13
import Derived.Test.YtofoenlhbmammaaQ0Box1G13
set_option linter.unusedVariables false
set_option linter.unusedSimpArgs false
namespace Go.Proofs.Ytofoenlhbmammaa

section
open Go.RowKit Go.Shelf

/-- The error of two boxes. -/
def chk2 (d : V3) (a b : Bx) : Int := if d.may then okIf (a.may d ∧ b.may d) 2 else 8
theorem chk_eq0 {d : V3} {b : Bx} (h : d.may) (hb : b.may d) : chk d b = 0 := by rw [chk, if_pos h, okIf_yes hb]
theorem chk_eq2 {d : V3} {b : Bx} (h : d.may) (hb : ¬ b.may d) : chk d b = 2 := by rw [chk, if_pos h, okIf_no hb]
theorem chk_eq8 {d : V3} {b : Bx} (h : ¬ d.may) : chk d b = 8 := by rw [chk, if_neg h]
theorem chk2_eq0 {d : V3} {a b : Bx} (h : d.may) (ha : a.may d) (hb : b.may d) : chk2 d a b = 0 := by rw [chk2, if_pos h, okIf_yes ⟨ha, hb⟩]
theorem chk2_eq2 {d : V3} {a b : Bx} (h : d.may) (ha : ¬ a.may d) : chk2 d a b = 2 := by rw [chk2, if_pos h, okIf_no (fun x => ha x.1)]
theorem chk2_eq2' {d : V3} {a b : Bx} (h : d.may) (hb : ¬ b.may d) : chk2 d a b = 2 := by rw [chk2, if_pos h, okIf_no (fun x => hb x.2)]
theorem chk2_eq8 {d : V3} {a b : Bx} (h : ¬ d.may) : chk2 d a b = 8 := by rw [chk2, if_neg h]

/-- Two boxes lie one behind the other. -/
structure Two (w : World) (B : Nat) (a b : Bx) : Prop where
  c0 : w.cell? ⟨B, 0, none⟩ = some (.int .i64 a.b.x)
  c1 : w.cell? ⟨B, 1, none⟩ = some (.int .i64 a.b.y)
  c2 : w.cell? ⟨B, 2, none⟩ = some (.int .i64 a.b.z)
  c3 : w.cell? ⟨B, 3, none⟩ = some (.int .i64 a.s.x)
  c4 : w.cell? ⟨B, 4, none⟩ = some (.int .i64 a.s.y)
  c5 : w.cell? ⟨B, 5, none⟩ = some (.int .i64 a.s.z)
  c6 : w.cell? ⟨B, 6, none⟩ = some (.int .i64 b.b.x)
  c7 : w.cell? ⟨B, 7, none⟩ = some (.int .i64 b.b.y)
  c8 : w.cell? ⟨B, 8, none⟩ = some (.int .i64 b.b.z)
  c9 : w.cell? ⟨B, 9, none⟩ = some (.int .i64 b.s.x)
  c10 : w.cell? ⟨B, 10, none⟩ = some (.int .i64 b.s.y)
  c11 : w.cell? ⟨B, 11, none⟩ = some (.int .i64 b.s.z)
  lt : B < w.heap.size

set_option maxRecDepth 100000 in set_option maxHeartbeats 4000000 in
theorem box_checked (d : V3) (a b : Bx) (w : World) (B : Nat) (h : Two w B a b) : Calls Try.prog 66 #[.agg #[.int .i64 d.x, .int .i64 d.y, .int .i64 d.z], .slice (some ⟨B, 0, none⟩) 2 2] w (RB w (.int .i64 (chk2 d a b))) := by
  obtain ⟨c0, c1, c2, c3, c4, c5, c6, c7, c8, c9, c10, c11, hlt⟩ := h
  by_cases hd : d.may
  · by_cases ha : a.may d
    · by_cases hb : b.may d
      · have h1 := chk_eq0 hd ha
        have h2 := chk_eq0 hd hb
        have h3 := Lib.hid (chk2_eq0 hd ha hb)
        clear hd ha hb
        go_enter Try.func66, Try.ntmps66
        go_wp2_with fail
        refine wp_loop_rounds 3 ?_
        go_wp2_with (first | (rw [rounds_succ]) | (go_at_call 32; refine (box_Check d _ _).mono ?_; rintro e w1 ⟨rfl, hb1⟩; (obtain ⟨hc1, hf1⟩ := bcell hb1; have hz1 := hb1.size; (try simp at hz1); have hB : Below w.heap.size w w1 := (by (repeat (first | (with_reducible exact Below.refl _ _) | (with_reducible assumption) | (with_reducible refine below_alloc ?_ _) | (with_reducible refine below_drewN ?_ _) | (with_reducible refine Below.drew ?_) | (with_reducible refine below_then ?_ (by with_reducible assumption)) | (with_reducible refine Below.setCell ?_ (by go_size) _)))); obtain ⟨hcB, hfB⟩ := bcell hB; (try have z0 : w.heap.size < w1.heap.size := by omega); (try have z1 : w.heap.size + 1 < w1.heap.size := by omega); (try have z2 : w.heap.size + 2 < w1.heap.size := by omega); (try have z3 : w.heap.size + 3 < w1.heap.size := by omega))))
        go_returns
        exact ⟨by rw [h3.out]; rfl, by (repeat (first | (with_reducible exact Below.refl _ _) | (with_reducible assumption) | (with_reducible refine below_alloc ?_ _) | (with_reducible refine below_drewN ?_ _) | (with_reducible refine Below.drew ?_) | (with_reducible refine below_then ?_ (by with_reducible assumption)) | (with_reducible refine Below.setCell ?_ (by go_size) _)))⟩
      · have h1 := chk_eq0 hd ha
        have h2 := chk_eq2 hd hb
        have h3 := Lib.hid (chk2_eq2' (a := a) hd hb)
        clear hd ha hb
        go_enter Try.func66, Try.ntmps66
        go_wp2_with fail
        refine wp_loop_rounds 3 ?_
        go_wp2_with (first | (rw [rounds_succ]) | (go_at_call 32; refine (box_Check d _ _).mono ?_; rintro e w1 ⟨rfl, hb1⟩; (obtain ⟨hc1, hf1⟩ := bcell hb1; have hz1 := hb1.size; (try simp at hz1); have hB : Below w.heap.size w w1 := (by (repeat (first | (with_reducible exact Below.refl _ _) | (with_reducible assumption) | (with_reducible refine below_alloc ?_ _) | (with_reducible refine below_drewN ?_ _) | (with_reducible refine Below.drew ?_) | (with_reducible refine below_then ?_ (by with_reducible assumption)) | (with_reducible refine Below.setCell ?_ (by go_size) _)))); obtain ⟨hcB, hfB⟩ := bcell hB; (try have z0 : w.heap.size < w1.heap.size := by omega); (try have z1 : w.heap.size + 1 < w1.heap.size := by omega); (try have z2 : w.heap.size + 2 < w1.heap.size := by omega); (try have z3 : w.heap.size + 3 < w1.heap.size := by omega))))
        go_returns
        exact ⟨by rw [h3.out]; rfl, by (repeat (first | (with_reducible exact Below.refl _ _) | (with_reducible assumption) | (with_reducible refine below_alloc ?_ _) | (with_reducible refine below_drewN ?_ _) | (with_reducible refine Below.drew ?_) | (with_reducible refine below_then ?_ (by with_reducible assumption)) | (with_reducible refine Below.setCell ?_ (by go_size) _)))⟩
    · have h1 := chk_eq2 hd ha
      have h3 := Lib.hid (chk2_eq2 (b := b) hd ha)
      clear hd ha
      go_enter Try.func66, Try.ntmps66
      go_wp2_with fail
      refine wp_loop_rounds 3 ?_
      go_wp2_with (first | (rw [rounds_succ]) | (go_at_call 32; refine (box_Check d _ _).mono ?_; rintro e w1 ⟨rfl, hb1⟩; (obtain ⟨hc1, hf1⟩ := bcell hb1; have hz1 := hb1.size; (try simp at hz1); have hB : Below w.heap.size w w1 := (by (repeat (first | (with_reducible exact Below.refl _ _) | (with_reducible assumption) | (with_reducible refine below_alloc ?_ _) | (with_reducible refine below_drewN ?_ _) | (with_reducible refine Below.drew ?_) | (with_reducible refine below_then ?_ (by with_reducible assumption)) | (with_reducible refine Below.setCell ?_ (by go_size) _)))); obtain ⟨hcB, hfB⟩ := bcell hB; (try have z0 : w.heap.size < w1.heap.size := by omega); (try have z1 : w.heap.size + 1 < w1.heap.size := by omega); (try have z2 : w.heap.size + 2 < w1.heap.size := by omega); (try have z3 : w.heap.size + 3 < w1.heap.size := by omega))))
      go_returns
      exact ⟨by rw [h3.out]; rfl, by (repeat (first | (with_reducible exact Below.refl _ _) | (with_reducible assumption) | (with_reducible refine below_alloc ?_ _) | (with_reducible refine below_drewN ?_ _) | (with_reducible refine Below.drew ?_) | (with_reducible refine below_then ?_ (by with_reducible assumption)) | (with_reducible refine Below.setCell ?_ (by go_size) _)))⟩
  · have h1 := chk_eq8 (b := a) hd
    have h3 := Lib.hid (chk2_eq8 (a := a) (b := b) hd)
    clear hd
    go_enter Try.func66, Try.ntmps66
    go_wp2_with fail
    refine wp_loop_rounds 3 ?_
    go_wp2_with (first | (rw [rounds_succ]) | (go_at_call 32; refine (box_Check d _ _).mono ?_; rintro e w1 ⟨rfl, hb1⟩; (obtain ⟨hc1, hf1⟩ := bcell hb1; have hz1 := hb1.size; (try simp at hz1); have hB : Below w.heap.size w w1 := (by (repeat (first | (with_reducible exact Below.refl _ _) | (with_reducible assumption) | (with_reducible refine below_alloc ?_ _) | (with_reducible refine below_drewN ?_ _) | (with_reducible refine Below.drew ?_) | (with_reducible refine below_then ?_ (by with_reducible assumption)) | (with_reducible refine Below.setCell ?_ (by go_size) _)))); obtain ⟨hcB, hfB⟩ := bcell hB; (try have z0 : w.heap.size < w1.heap.size := by omega); (try have z1 : w.heap.size + 1 < w1.heap.size := by omega); (try have z2 : w.heap.size + 2 < w1.heap.size := by omega); (try have z3 : w.heap.size + 3 < w1.heap.size := by omega))))
    go_returns
    exact ⟨by rw [h3.out]; rfl, by (repeat (first | (with_reducible exact Below.refl _ _) | (with_reducible assumption) | (with_reducible refine below_alloc ?_ _) | (with_reducible refine below_drewN ?_ _) | (with_reducible refine Below.drew ?_) | (with_reducible refine below_then ?_ (by with_reducible assumption)) | (with_reducible refine Below.setCell ?_ (by go_size) _)))⟩
end
end Go.Proofs.Ytofoenlhbmammaa
