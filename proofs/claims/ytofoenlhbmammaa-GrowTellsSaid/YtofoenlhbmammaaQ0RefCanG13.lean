/- REF 02: the canonical box; how many midplanes; whether a box has one; all of them. -/
import Derived.Test.YtofoenlhbmammaaQ0RefAllG13
import Derived.Test.YtofoenlhbmammaaQ0ListsIG13
import Derived.Test.YtofoenlhbmammaaQ0BoxCanG13
set_option linter.unusedVariables false
set_option linter.unusedSimpArgs false
namespace Go.Proofs.Ytofoenlhbmammaa

section
open Go.RowKit Go.Shelf

set_option maxRecDepth 100000 in set_option maxHeartbeats 4000000 in
theorem ref02_Told (d : V3) (b : Bx) (w : World) : Calls Try.prog 50 #[.agg #[.int .i64 d.x, .int .i64 d.y, .int .i64 d.z], .agg #[.int .i64 b.b.x, .int .i64 b.b.y, .int .i64 b.b.z, .int .i64 b.s.x, .int .i64 b.s.y, .int .i64 b.s.z]] w (RB w (.agg #[.int .i64 (b.can d).b.x, .int .i64 (b.can d).b.y, .int .i64 (b.can d).b.z, .int .i64 (b.can d).s.x, .int .i64 (b.can d).s.y, .int .i64 (b.can d).s.z])) := by
  cases g0 : b.s.x == d.x <;> cases g1 : b.s.y == d.y <;> cases g2 : b.s.z == d.z
  all_goals
    have hq := Lib.hid (show b.can d = _ by simp only [Bx.can, g0, g1, g2, cond_true, cond_false]; rfl)
    rw [hq.out]
    go_enter Try.func50, Try.ntmps50
    go_wp2_with fail
    refine wp_loop_rounds 4 ?_
    go_wp2_with (first | (rw [rounds_succ]) | (refine wp_region_quiet_lit (by kernel_rfl) (by kernel_rfl) ?_; (repeat (any_goals (first | go_big_quiet_step (fail) | quiet_step (fail) | (refine wpQuiet_step (fun K hK => ?_); go_simp; split <;> (refine hK _ ?_; clear hK K))))); all_goals (refine wpQuiet_nil ?_; intro _ hw'; obtain ⟨nq, hw''⟩ := hw'; subst hw'')))
    refine bodyPost_ret ?_ rfl ⟨rfl, ?_⟩
    · simp [results, Try.f50, go_sem]
    · (repeat (first | (with_reducible exact Below.refl _ _) | (with_reducible assumption) | (with_reducible refine below_alloc ?_ _) | (with_reducible refine below_drewN ?_ _) | (with_reducible refine Below.drew ?_) | (with_reducible refine below_then ?_ (by with_reducible assumption)) | (with_reducible refine Below.setCell ?_ (by go_size) _)))

/-- All midplanes of a box that may be; none of one that may not. -/
def nodesV (d : V3) (b : Bx) : List Int := if chk d b = 0 then b.all d else []
/-- The error of a box and a midplane; whether the box has it. -/
def hasE (d : V3) (b : Bx) (m : Int) : Int := if chk d b = 0 then if 0 ≤ m ∧ m < d.n then 0 else 2 else chk d b
def hasB (d : V3) (b : Bx) (m : Int) : Bool := if hasE d b m = 0 then b.has d m else false
theorem hasE_0 {d : V3} {b : Bx} {m : Int} (h : hasE d b m = 0) : chk d b = 0 ∧ 0 ≤ m ∧ m < d.n := by
  unfold hasE at h
  by_cases hc : chk d b = 0
  · rw [if_pos hc] at h
    by_cases hm : 0 ≤ m ∧ m < d.n
    · exact ⟨hc, hm⟩
    · rw [if_neg hm] at h; omega
  · rw [if_neg hc] at h; exact absurd h hc
end
end Go.Proofs.Ytofoenlhbmammaa
