/- BOX: the checks of boxes, what is asked along each axis. -/
import Derived.Test.YtofoenlhbmammaaProg
import Derived.Test.YtofoenlhbmammaaQ0BaseG13
import Derived.Test.YtofoenlhbmammaaQ0Pos1G13
set_option linter.unusedVariables false
set_option linter.unusedSimpArgs false
namespace Go.Proofs.Ytofoenlhbmammaa

section
open Go.RowKit Go.Shelf

/-- The error of a box. -/
def chk (d : V3) (b : Bx) : Int := if d.may then okIf (b.may d) 2 else 8

theorem ret_chk_bad {d : V3} {b : Bx} (h : ¬ d.may) : Ending.returned (.int .i64 8) = .returned (.int .i64 (chk d b)) := by rw [chk, if_neg h]
theorem ret_chk_ok {d : V3} {b : Bx} (h : d.may) (hb : b.may d) : Ending.returned (.int .i64 0) = .returned (.int .i64 (chk d b)) := by rw [chk, if_pos h, okIf_yes hb]
theorem ret_chk_arg {d : V3} {b : Bx} (h : d.may) (hb : ¬ b.may d) : Ending.returned (.int .i64 2) = .returned (.int .i64 (chk d b)) := by rw [chk, if_pos h, okIf_no hb]

set_option maxRecDepth 100000 in set_option maxHeartbeats 4000000 in
theorem box_Check (d : V3) (b : Bx) (w : World) : Calls Try.prog 32 #[.agg #[.int .i64 d.x, .int .i64 d.y, .int .i64 d.z], .agg #[.int .i64 b.b.x, .int .i64 b.b.y, .int .i64 b.b.z, .int .i64 b.s.x, .int .i64 b.s.y, .int .i64 b.s.z]] w (RB w (.int .i64 (chk d b))) := by
  by_cases hd : d.may
  · have he : okIf d.may 8 = 0 := okIf_yes hd
    have hd' := hd
    unfold V3.may at hd'
    have HD := Lib.hid hd
    clear hd
    go_enter Try.func32, Try.ntmps32
    go_wp2_with fail
    refine (pos_Check d _).mono ?_
    rintro e w1 ⟨rfl, hb1⟩
    obtain ⟨hc1, hf1⟩ := bcell hb1
    have hz1 := hb1.size
    go_wp2_with fail
    refine wp_loop_rounds 4 ?_
    go_wp2_with (first | (rw [rounds_succ]) | (refine wp_region_quiet_lit (by kernel_rfl) (by kernel_rfl) ?_; (repeat (any_goals (first | go_big_quiet_step (fail) | quiet_step (fail) | (refine wpQuiet_step (fun K hK => ?_); go_simp; split <;> (refine hK _ ?_; clear hK K))))); all_goals (refine wpQuiet_nil ?_; intro _ hw'; obtain ⟨nq, hw''⟩ := hw'; subst hw'')))
    all_goals
      go_returns
      refine ⟨?_, by (repeat (first | (with_reducible exact Below.refl _ _) | (with_reducible assumption) | (with_reducible refine below_alloc ?_ _) | (with_reducible refine below_drewN ?_ _) | (with_reducible refine Below.drew ?_) | (with_reducible refine below_then ?_ (by with_reducible assumption)) | (with_reducible refine Below.setCell ?_ (by go_size) _)))⟩
      first
        | exact ret_chk_ok HD.out (by unfold Bx.may; omega)
        | exact ret_chk_arg HD.out (by unfold Bx.may; omega)
  · have he : okIf d.may 8 = 8 := okIf_no hd
    have HD := Lib.hid hd
    clear hd
    go_enter Try.func32, Try.ntmps32
    go_wp2_with fail
    refine (pos_Check d _).mono ?_
    rintro e w1 ⟨rfl, hb1⟩
    go_wp2_with fail
    go_returns
    exact ⟨ret_chk_bad HD.out, by (repeat (first | (with_reducible exact Below.refl _ _) | (with_reducible assumption) | (with_reducible refine below_alloc ?_ _) | (with_reducible refine below_drewN ?_ _) | (with_reducible refine Below.drew ?_) | (with_reducible refine below_then ?_ (by with_reducible assumption)) | (with_reducible refine Below.setCell ?_ (by go_size) _)))⟩
end
end Go.Proofs.Ytofoenlhbmammaa
