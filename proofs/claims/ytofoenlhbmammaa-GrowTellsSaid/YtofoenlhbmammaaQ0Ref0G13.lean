/- REF: dimensions and coordinates; coordinates looked for. -/
import Derived.Test.YtofoenlhbmammaaProg
import Derived.Test.YtofoenlhbmammaaQ0V3G13
set_option linter.unusedVariables false
set_option linter.unusedSimpArgs false
namespace Go.Proofs.Ytofoenlhbmammaa

section
open Go.RowKit Go.Shelf

set_option maxRecDepth 100000 in set_option maxHeartbeats 4000000 in
theorem ref01_N (d : V3) (w : World) (h : d.may) : Calls Try.prog 44 #[.agg #[.int .i64 d.x, .int .i64 d.y, .int .i64 d.z]] w (RB w (.int .i64 d.n)) := by
  have hxy := V3.xy_le h
  have hn := V3.n_le h
  unfold V3.n at hn
  go_enter Try.func44, Try.ntmps44
  go_wp2_with (refine wp_region_quiet_lit (by kernel_rfl) (by kernel_rfl) ?_; (repeat (any_goals (first | go_big_quiet_step (fail) | quiet_step (fail) | (refine wpQuiet_step (fun K hK => ?_); go_simp; split <;> (refine hK _ ?_; clear hK K))))); all_goals (refine wpQuiet_nil ?_; intro _ hw'; obtain ⟨nq, hw''⟩ := hw'; subst hw''))
  go_returns
  exact ⟨rfl, by (repeat (first | (with_reducible exact Below.refl _ _) | (with_reducible assumption) | (with_reducible refine below_alloc ?_ _) | (with_reducible refine below_drewN ?_ _) | (with_reducible refine Below.drew ?_) | (with_reducible refine below_then ?_ (by with_reducible assumption)) | (with_reducible refine Below.setCell ?_ (by go_size) _)))⟩

set_option maxRecDepth 100000 in set_option maxHeartbeats 4000000 in
theorem ref01_Where (d : V3) (m : Int) (w : World) (h : d.may) (h0 : 0 ≤ m) (h1 : m ≤ 1000000) :
    Calls Try.prog 73 #[.agg #[.int .i64 d.x, .int .i64 d.y, .int .i64 d.z], .int .i64 m] w (RB w (.agg #[.int .i64 (d.pos m).x, .int .i64 (d.pos m).y, .int .i64 (d.pos m).z])) := by
  unfold V3.may at h
  have e1 : 0 ≤ m / d.x := Int.ediv_nonneg h0 (by omega)
  have e2 : m / d.x ≤ m := Int.ediv_le_self _ h0
  go_enter Try.func73, Try.ntmps73
  go_wp2_with (refine wp_region_quiet_lit (by kernel_rfl) (by kernel_rfl) ?_; (repeat (any_goals (first | go_big_quiet_step (fail) | quiet_step (fail) | (refine wpQuiet_step (fun K hK => ?_); go_simp; split <;> (refine hK _ ?_; clear hK K))))); all_goals (refine wpQuiet_nil ?_; intro _ hw'; obtain ⟨nq, hw''⟩ := hw'; subst hw''))
  go_region
  all_goals
    go_wp2
    go_returns
    exact ⟨rfl, by (repeat (first | (with_reducible exact Below.refl _ _) | (with_reducible assumption) | (with_reducible refine below_alloc ?_ _) | (with_reducible refine below_drewN ?_ _) | (with_reducible refine Below.drew ?_) | (with_reducible refine below_then ?_ (by with_reducible assumption)) | (with_reducible refine Below.setCell ?_ (by go_size) _)))⟩
end
end Go.Proofs.Ytofoenlhbmammaa
