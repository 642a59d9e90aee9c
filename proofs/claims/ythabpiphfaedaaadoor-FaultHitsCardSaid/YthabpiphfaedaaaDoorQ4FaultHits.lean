/- BOX: the error of two boxes. -/
import Derived.Test.YthabpiphfaedaaaDoorProg
import Derived.Test.YthabpiphfaedaaaDoorBase
namespace Go.Proofs.YthabpiphfaedaaaDoor

section
open Go.RowKit Go.Shelf

set_option maxRecDepth 100000 in set_option maxHeartbeats 4000000 in
theorem pos_Check (d : V3) (w : World) : Calls Tryd.prog 45 #[.agg #[.int .i64 d.x, .int .i64 d.y, .int .i64 d.z]] w (RB w (.int .i64 (okIf d.may 8))) := by
  go_enter Tryd.func45, Tryd.ntmps45
  go_wp2
  refine wp_loop_rounds 4 ?_
  go_wp2_with (first | (rw [rounds_succ]) | (refine wp_region_quiet_lit (by kernel_rfl) (by kernel_rfl) ?_; (repeat (any_goals (first | go_big_quiet_step (fail) | quiet_step (fail) | (refine wpQuiet_step (fun K hK => ?_); go_simp; split <;> (refine hK _ ?_; clear hK K))))); all_goals (refine wpQuiet_nil ?_; intro _ hw'; obtain ⟨nq, hw''⟩ := hw'; subst hw'')))
  all_goals
    go_returns
    refine ⟨?_, by (repeat (first | (with_reducible exact Below.refl _ _) | (with_reducible assumption) | (with_reducible refine below_alloc ?_ _) | (with_reducible refine below_drewN ?_ _) | (with_reducible refine Below.drew ?_) | (with_reducible refine below_then ?_ (by with_reducible assumption)) | (with_reducible refine Below.setCell ?_ (by go_size) _)))⟩
    first
      | exact ret_ok (by unfold V3.may; omega)
      | exact ret_err (by unfold V3.may; omega)

set_option maxRecDepth 100000 in set_option maxHeartbeats 4000000 in
theorem ref01_May (d : V3) (w : World) : Calls Tryd.prog 87 #[.agg #[.int .i64 d.x, .int .i64 d.y, .int .i64 d.z]] w (RB w (.bool (decide d.may))) := by
  go_enter Tryd.func87, Tryd.ntmps87
  go_wp2
  refine wp_loop_rounds 4 ?_
  go_wp2_with (first | (rw [rounds_succ]) | (refine wp_region_quiet_lit (by kernel_rfl) (by kernel_rfl) ?_; (repeat (any_goals (first | go_big_quiet_step (fail) | quiet_step (fail) | (refine wpQuiet_step (fun K hK => ?_); go_simp; split <;> (refine hK _ ?_; clear hK K))))); all_goals (refine wpQuiet_nil ?_; intro _ hw'; obtain ⟨nq, hw''⟩ := hw'; subst hw'')))
  all_goals
    go_returns
    refine ⟨?_, by (repeat (first | (with_reducible exact Below.refl _ _) | (with_reducible assumption) | (with_reducible refine below_alloc ?_ _) | (with_reducible refine below_drewN ?_ _) | (with_reducible refine Below.drew ?_) | (with_reducible refine below_then ?_ (by with_reducible assumption)) | (with_reducible refine Below.setCell ?_ (by go_size) _)))⟩
    first
      | exact ret_yes (by unfold V3.may; omega)
      | exact ret_no (by unfold V3.may; omega)

set_option maxRecDepth 100000 in set_option maxHeartbeats 4000000 in
theorem ref02_May (d : V3) (b : Bx) (w : World) : Calls Tryd.prog 122 #[.agg #[.int .i64 d.x, .int .i64 d.y, .int .i64 d.z], .agg #[.int .i64 b.b.x, .int .i64 b.b.y, .int .i64 b.b.z, .int .i64 b.s.x, .int .i64 b.s.y, .int .i64 b.s.z]] w (RB w (.bool (decide (b.may d)))) := by
  go_enter Tryd.func122, Tryd.ntmps122
  go_wp2
  refine wp_loop_rounds 4 ?_
  go_wp2_with (first | (rw [rounds_succ]) | (refine wp_region_quiet_lit (by kernel_rfl) (by kernel_rfl) ?_; (repeat (any_goals (first | go_big_quiet_step (fail) | quiet_step (fail) | (refine wpQuiet_step (fun K hK => ?_); go_simp; split <;> (refine hK _ ?_; clear hK K))))); all_goals (refine wpQuiet_nil ?_; intro _ hw'; obtain ⟨nq, hw''⟩ := hw'; subst hw'')))
  all_goals
    go_returns
    refine ⟨?_, by (repeat (first | (with_reducible exact Below.refl _ _) | (with_reducible assumption) | (with_reducible refine below_alloc ?_ _) | (with_reducible refine below_drewN ?_ _) | (with_reducible refine Below.drew ?_) | (with_reducible refine below_then ?_ (by with_reducible assumption)) | (with_reducible refine Below.setCell ?_ (by go_size) _)))⟩
    first
      | exact ret_yes (by unfold Bx.may; omega)
      | exact ret_no (by unfold Bx.may; omega)
end

section
open Go.RowKit Go.Shelf

/-- The error of a box. -/
def chk (d : V3) (b : Bx) : Int := if d.may then okIf (b.may d) 2 else 8

theorem ret_chk_bad {d : V3} {b : Bx} (h : ¬ d.may) : Ending.returned (.int .i64 8) = .returned (.int .i64 (chk d b)) := by rw [chk, if_neg h]
theorem ret_chk_ok {d : V3} {b : Bx} (h : d.may) (hb : b.may d) : Ending.returned (.int .i64 0) = .returned (.int .i64 (chk d b)) := by rw [chk, if_pos h, okIf_yes hb]
theorem ret_chk_arg {d : V3} {b : Bx} (h : d.may) (hb : ¬ b.may d) : Ending.returned (.int .i64 2) = .returned (.int .i64 (chk d b)) := by rw [chk, if_pos h, okIf_no hb]

set_option maxRecDepth 100000 in set_option maxHeartbeats 4000000 in
theorem box_Check (d : V3) (b : Bx) (w : World) : Calls Tryd.prog 46 #[.agg #[.int .i64 d.x, .int .i64 d.y, .int .i64 d.z], .agg #[.int .i64 b.b.x, .int .i64 b.b.y, .int .i64 b.b.z, .int .i64 b.s.x, .int .i64 b.s.y, .int .i64 b.s.z]] w (RB w (.int .i64 (chk d b))) := by
  by_cases hd : d.may
  · have he : okIf d.may 8 = 0 := okIf_yes hd
    have hd' := hd
    unfold V3.may at hd'
    have HD := Lib.hid hd
    clear hd
    go_enter Tryd.func46, Tryd.ntmps46
    go_wp2_with fail
    refine (pos_Check d _).mono ?_
    rintro e w1 ⟨rfl, hb1⟩
    obtain ⟨hc1, hf1⟩ := bcell hb1
    have hz1 := hb1.size
    go_wp2_with fail
    refine wp_loop_rounds 4 ?_
    go_wp2_with (first | (rw [rounds_succ]) | (refine wp_region_quiet_lit (by kernel_rfl) (by kernel_rfl) ?_; (repeat (any_goals (first | go_big_quiet_step (fail) | quiet_step (fail) | (refine wpQuiet_step (fun K hK => ?_); go_simp; split <;> (refine hK _ ?_; clear hK K))))); all_goals (refine wpQuiet_nil ?_; intro _ hw'; obtain ⟨nq, hw''⟩ := hw'; subst hw'')))
    all_goals
      go_returns
      refine ⟨?_, by (repeat (first | (with_reducible exact Below.refl _ _) | (with_reducible assumption) | (with_reducible refine below_alloc ?_ _) | (with_reducible refine below_drewN ?_ _) | (with_reducible refine Below.drew ?_) | (with_reducible refine below_then ?_ (by with_reducible assumption)) | (with_reducible refine Below.setCell ?_ (by go_size) _)))⟩
      first
        | exact ret_chk_ok HD.out (by unfold Bx.may; omega)
        | exact ret_chk_arg HD.out (by unfold Bx.may; omega)
  · have he : okIf d.may 8 = 8 := okIf_no hd
    have HD := Lib.hid hd
    clear hd
    go_enter Tryd.func46, Tryd.ntmps46
    go_wp2_with fail
    refine (pos_Check d _).mono ?_
    rintro e w1 ⟨rfl, hb1⟩
    go_wp2_with fail
    go_returns
    exact ⟨ret_chk_bad HD.out, by (repeat (first | (with_reducible exact Below.refl _ _) | (with_reducible assumption) | (with_reducible refine below_alloc ?_ _) | (with_reducible refine below_drewN ?_ _) | (with_reducible refine Below.drew ?_) | (with_reducible refine below_then ?_ (by with_reducible assumption)) | (with_reducible refine Below.setCell ?_ (by go_size) _)))⟩
end

section
open Go.RowKit Go.Shelf

/-- The error of two boxes. -/
def chk2 (d : V3) (a b : Bx) : Int := if d.may then okIf (a.may d ∧ b.may d) 2 else 8
theorem chk_eq0 {d : V3} {b : Bx} (h : d.may) (hb : b.may d) : chk d b = 0 := by rw [chk, if_pos h, okIf_yes hb]
theorem chk_eq2 {d : V3} {b : Bx} (h : d.may) (hb : ¬ b.may d) : chk d b = 2 := by rw [chk, if_pos h, okIf_no hb]
theorem chk_eq8 {d : V3} {b : Bx} (h : ¬ d.may) : chk d b = 8 := by rw [chk, if_neg h]
theorem chk2_eq0 {d : V3} {a b : Bx} (h : d.may) (ha : a.may d) (hb : b.may d) : chk2 d a b = 0 := by rw [chk2, if_pos h, okIf_yes ⟨ha, hb⟩]
theorem chk2_eq2 {d : V3} {a b : Bx} (h : d.may) (ha : ¬ a.may d) : chk2 d a b = 2 := by rw [chk2, if_pos h, okIf_no (fun x => ha x.1)]
theorem chk2_eq2' {d : V3} {a b : Bx} (h : d.may) (hb : ¬ b.may d) : chk2 d a b = 2 := by rw [chk2, if_pos h, okIf_no (fun x => hb x.2)]
theorem chk2_eq8 {d : V3} {a b : Bx} (h : ¬ d.may) : chk2 d a b = 8 := by rw [chk2, if_neg h]

/-- Two boxes lie one behind the other. -/
structure Two (w : World) (B : Nat) (a b : Bx) : Prop where
  c0 : w.cell? ⟨B, 0, none⟩ = some (.int .i64 a.b.x)
  c1 : w.cell? ⟨B, 1, none⟩ = some (.int .i64 a.b.y)
  c2 : w.cell? ⟨B, 2, none⟩ = some (.int .i64 a.b.z)
  c3 : w.cell? ⟨B, 3, none⟩ = some (.int .i64 a.s.x)
  c4 : w.cell? ⟨B, 4, none⟩ = some (.int .i64 a.s.y)
  c5 : w.cell? ⟨B, 5, none⟩ = some (.int .i64 a.s.z)
  c6 : w.cell? ⟨B, 6, none⟩ = some (.int .i64 b.b.x)
  c7 : w.cell? ⟨B, 7, none⟩ = some (.int .i64 b.b.y)
  c8 : w.cell? ⟨B, 8, none⟩ = some (.int .i64 b.b.z)
  c9 : w.cell? ⟨B, 9, none⟩ = some (.int .i64 b.s.x)
  c10 : w.cell? ⟨B, 10, none⟩ = some (.int .i64 b.s.y)
  c11 : w.cell? ⟨B, 11, none⟩ = some (.int .i64 b.s.z)
  lt : B < w.heap.size
end
end Go.Proofs.YthabpiphfaedaaaDoor
