/- REF: some steps on along an axis. -/
import Derived.Test.YthabpiphfaedaaaQ3PlaceTells
namespace Go.Proofs.Ythabpiphfaedaaa

section
open Go.RowKit Go.Shelf
set_option maxRecDepth 100000 in set_option maxHeartbeats 4000000 in
theorem ref01_On1 (d p : V3) (m b q1 q2 r : Int) (w : World) (hn : 1 ≤ d.y ∧ d.y ≤ 16) (px : 0 ≤ p.y ∧ p.y < d.y)
    (HO : RowKit.Hid (∀ W, Calls Try.prog 75 #[.agg #[.int .i64 d.x, .int .i64 d.y, .int .i64 d.z], .int .i64 m] W (RB W (.agg #[.int .i64 p.x, .int .i64 p.y, .int .i64 p.z]))))
    (HA : RowKit.Hid (∀ W, Calls Try.prog 77 #[.agg #[.int .i64 d.x, .int .i64 d.y, .int .i64 d.z], .agg #[.int .i64 p.x, .int .i64 q2, .int .i64 p.z]] W (RB W (.int .i64 r))))
    (HR1 : RowKit.Hid (∀ W, Calls Try.prog 76 #[.int .i64 b, .int .i64 d.y] W fun e w' => e = .returned (.int .i64 q1) ∧ w' = W))
    (HR2 : RowKit.Hid (∀ W, Calls Try.prog 76 #[.int .i64 (IntKind.i64.wrap (p.y + q1)), .int .i64 d.y] W fun e w' => e = .returned (.int .i64 q2) ∧ w' = W)) :
    Calls Try.prog 47 #[.agg #[.int .i64 d.x, .int .i64 d.y, .int .i64 d.z], .int .i64 m, .int .i64 1, .int .i64 b] w (RB w (.int .i64 r)) := by
  go_enter Try.func47, Try.ntmps47
  go_wp2_with fail
  refine (HO.out _).mono ?_
  rintro e w1 ⟨rfl, hb1⟩
  have BD := Lib.hid (((Blk.new w 23 #[.int .i64 d.x, .int .i64 d.y, .int .i64 d.z]).below hb1).dims)
  have HB := Lib.hid (below_then (show Below w.heap.size w (w.alloc (.cells #[.int .i64 d.x, .int .i64 d.y, .int .i64 d.z] 23)) by (repeat (first | (with_reducible exact Below.refl _ _) | (with_reducible assumption) | (with_reducible refine below_alloc ?_ _) | (with_reducible refine below_drewN ?_ _) | (with_reducible refine Below.drew ?_) | (with_reducible refine below_then ?_ (by with_reducible assumption)) | (with_reducible refine Below.setCell ?_ (by go_size) _)))) hb1)
  have hlt := BD.out.lt
  obtain ⟨d0, d1, d2⟩ := BD.out
  clear hb1 HO BD
  go_wp2_with fail
  go_region_with (first | ((with_reducible refine (HR1.out _).mono ?_); rintro e w3 ⟨rfl, hw3⟩; have hw3 := hw3.symm; subst hw3) | ((with_reducible refine (HR2.out _).mono ?_); rintro e w3 ⟨rfl, hw3⟩; have hw3 := hw3.symm; subst hw3))
  all_goals
    go_wp2_with fail
    refine (HA.out _).mono ?_
    rintro e w2 ⟨rfl, hb2⟩
    have hBB := below_then (below_then HB.out (show Below w1.heap.size w1 _ by (repeat (first | (with_reducible exact Below.refl _ _) | (with_reducible assumption) | (with_reducible refine below_alloc ?_ _) | (with_reducible refine below_drewN ?_ _) | (with_reducible refine Below.drew ?_) | (with_reducible refine below_then ?_ (by with_reducible assumption)) | (with_reducible refine Below.setCell ?_ (by go_size) _))))) hb2
    go_wp2_with fail
    go_returns
    exact ⟨rfl, hBB⟩
end
end Go.Proofs.Ythabpiphfaedaaa
