/- REF: some steps on along an axis. -/
import Derived.Test.YthabpiphfaedaaaDoorProg
import Derived.Deep.RegionWith
import Derived.Test.YthabpiphfaedaaaDoorQ1ScoreTells
import Derived.Test.YthabpiphfaedaaaDoorQ0WireLaw
import Derived.Test.YthabpiphfaedaaaDoorQ0Wire3
namespace Go.Proofs.YthabpiphfaedaaaDoor

section
open Go.RowKit Go.Shelf

set_option maxRecDepth 100000 in set_option maxHeartbeats 4000000 in
theorem ref01_N (d : V3) (w : World) (h : d.may) : Calls Tryd.prog 89 #[.agg #[.int .i64 d.x, .int .i64 d.y, .int .i64 d.z]] w (RB w (.int .i64 d.n)) := by
  have hxy := V3.xy_le h
  have hn := V3.n_le h
  unfold V3.n at hn
  go_enter Tryd.func89, Tryd.ntmps89
  go_wp2_with (refine wp_region_quiet_lit (by kernel_rfl) (by kernel_rfl) ?_; (repeat (any_goals (first | go_big_quiet_step (fail) | quiet_step (fail) | (refine wpQuiet_step (fun K hK => ?_); go_simp; split <;> (refine hK _ ?_; clear hK K))))); all_goals (refine wpQuiet_nil ?_; intro _ hw'; obtain ⟨nq, hw''⟩ := hw'; subst hw''))
  go_returns
  exact ⟨rfl, by (repeat (first | (with_reducible exact Below.refl _ _) | (with_reducible assumption) | (with_reducible refine below_alloc ?_ _) | (with_reducible refine below_drewN ?_ _) | (with_reducible refine Below.drew ?_) | (with_reducible refine below_then ?_ (by with_reducible assumption)) | (with_reducible refine Below.setCell ?_ (by go_size) _)))⟩

set_option maxRecDepth 100000 in set_option maxHeartbeats 4000000 in
theorem ref01_Where (d : V3) (m : Int) (w : World) (h : d.may) (h0 : 0 ≤ m) (h1 : m ≤ 1000000) :
    Calls Tryd.prog 119 #[.agg #[.int .i64 d.x, .int .i64 d.y, .int .i64 d.z], .int .i64 m] w (RB w (.agg #[.int .i64 (d.pos m).x, .int .i64 (d.pos m).y, .int .i64 (d.pos m).z])) := by
  unfold V3.may at h
  have e1 : 0 ≤ m / d.x := Int.ediv_nonneg h0 (by omega)
  have e2 : m / d.x ≤ m := Int.ediv_le_self _ h0
  go_enter Tryd.func119, Tryd.ntmps119
  go_wp2_with (refine wp_region_quiet_lit (by kernel_rfl) (by kernel_rfl) ?_; (repeat (any_goals (first | go_big_quiet_step (fail) | quiet_step (fail) | (refine wpQuiet_step (fun K hK => ?_); go_simp; split <;> (refine hK _ ?_; clear hK K))))); all_goals (refine wpQuiet_nil ?_; intro _ hw'; obtain ⟨nq, hw''⟩ := hw'; subst hw''))
  go_region
  all_goals
    go_wp2
    go_returns
    exact ⟨rfl, by (repeat (first | (with_reducible exact Below.refl _ _) | (with_reducible assumption) | (with_reducible refine below_alloc ?_ _) | (with_reducible refine below_drewN ?_ _) | (with_reducible refine Below.drew ?_) | (with_reducible refine below_then ?_ (by with_reducible assumption)) | (with_reducible refine Below.setCell ?_ (by go_size) _)))⟩
end

section
open Go.RowKit Go.Shelf

set_option maxRecDepth 100000 in set_option maxHeartbeats 4000000 in
theorem ref01_Round (n b : Int) (w : World) (hn : 0 ≤ n) (hn9 : n ≤ 100000) (hb : 1 ≤ b) (hb9 : b ≤ 100000) :
    Calls Tryd.prog 120 #[.int .i64 n, .int .i64 b] w fun e w' => e = .returned (.int .i64 (n % b)) ∧ w' = w := by
  have hz : b ≠ 0 := by omega
  have h1 : 0 ≤ n % b := Int.emod_nonneg _ hz
  have h2 : decide (n % b < 0) = false := decide_eq_false (by omega)
  have h3 : n % b < b := Int.emod_lt_of_pos _ (by omega)
  go_enter Tryd.func120, Tryd.ntmps120
  go_wp2_with fail
  go_returns
  exact ⟨rfl, rfl⟩
set_option maxRecDepth 100000 in set_option maxHeartbeats 4000000 in
theorem ref01_RoundM (b : Int) (w : World) (hb : 1 ≤ b) (hb9 : b ≤ 100000) :
    Calls Tryd.prog 120 #[.int .i64 (-1), .int .i64 b] w fun e w' => e = .returned (.int .i64 (b - 1)) ∧ w' = w := by
  have hz : b ≠ 0 := by omega
  by_cases h1 : b = 1
  · subst h1
    go_enter Tryd.func120, Tryd.ntmps120
    go_wp2_with fail
    go_returns
    exact ⟨rfl, rfl⟩
  · have hm : Int.tmod (-1) b = -1 := by rw [Int.neg_tmod, Int.tmod_eq_of_lt (by omega) (by omega)]
    have hq : -1 + b = b - 1 := by omega
    go_enter Tryd.func120, Tryd.ntmps120
    go_wp2_with fail
    go_returns
    exact ⟨by rw [← hq]; rfl, rfl⟩
set_option maxRecDepth 100000 in set_option maxHeartbeats 4000000 in
theorem ref01_Number (d p : V3) (w : World) (hd : d.may) (hp : d.inside p) : Calls Tryd.prog 121 #[.agg #[.int .i64 d.x, .int .i64 d.y, .int .i64 d.z], .agg #[.int .i64 p.x, .int .i64 p.y, .int .i64 p.z]] w (RB w (.int .i64 (d.num p))) := by
  have hr := V3.num_lt hd hp
  have HE := Lib.hid (show d.num p = p.x + d.x * (p.y + d.y * p.z) by rfl)
  unfold V3.may at hd
  obtain ⟨hx, hy, hz⟩ := hp
  have e1 : 0 ≤ d.y * p.z := Int.mul_nonneg (by omega) (by omega)
  have e2 : d.y * p.z ≤ 16 * 16 := Int.mul_le_mul (by omega) (by omega) (by omega) (by omega)
  have e3 : 0 ≤ d.x * (p.y + d.y * p.z) := Int.mul_nonneg (by omega) (by omega)
  have e4 : d.x * (p.y + d.y * p.z) ≤ 16 * 300 := Int.mul_le_mul (by omega) (by omega) (by omega) (by omega)
  clear hr
  go_enter Tryd.func121, Tryd.ntmps121
  go_wp2_with fail
  go_returns
  exact ⟨by rw [HE.out]; rfl, by (repeat (first | (with_reducible exact Below.refl _ _) | (with_reducible assumption) | (with_reducible refine below_alloc ?_ _) | (with_reducible refine below_drewN ?_ _) | (with_reducible refine Below.drew ?_) | (with_reducible refine below_then ?_ (by with_reducible assumption)) | (with_reducible refine Below.setCell ?_ (by go_size) _)))⟩
end

section
open Go.RowKit Go.Shelf
set_option maxRecDepth 100000 in set_option maxHeartbeats 4000000 in
theorem ref01_On0 (d p : V3) (m b q1 q2 r : Int) (w : World)
    (HO : RowKit.Hid (∀ W, Calls Tryd.prog 119 #[.agg #[.int .i64 d.x, .int .i64 d.y, .int .i64 d.z], .int .i64 m] W (RB W (.agg #[.int .i64 p.x, .int .i64 p.y, .int .i64 p.z]))))
    (HA : RowKit.Hid (∀ W, Calls Tryd.prog 121 #[.agg #[.int .i64 d.x, .int .i64 d.y, .int .i64 d.z], .agg #[.int .i64 q2, .int .i64 p.y, .int .i64 p.z]] W (RB W (.int .i64 r))))
    (HR1 : RowKit.Hid (∀ W, Calls Tryd.prog 120 #[.int .i64 b, .int .i64 d.x] W fun e w' => e = .returned (.int .i64 q1) ∧ w' = W))
    (HR2 : RowKit.Hid (∀ W, Calls Tryd.prog 120 #[.int .i64 (IntKind.i64.wrap (p.x + q1)), .int .i64 d.x] W fun e w' => e = .returned (.int .i64 q2) ∧ w' = W)) :
    Calls Tryd.prog 90 #[.agg #[.int .i64 d.x, .int .i64 d.y, .int .i64 d.z], .int .i64 m, .int .i64 0, .int .i64 b] w (RB w (.int .i64 r)) := by
  go_enter Tryd.func90, Tryd.ntmps90
  go_wp2_with fail
  refine (HO.out _).mono ?_
  rintro e w1 ⟨rfl, hb1⟩
  have BD := Lib.hid (((Blk.new w 23 #[.int .i64 d.x, .int .i64 d.y, .int .i64 d.z]).below hb1).dims)
  have HB := Lib.hid (below_then (show Below w.heap.size w (w.alloc (.cells #[.int .i64 d.x, .int .i64 d.y, .int .i64 d.z] 23)) by (repeat (first | (with_reducible exact Below.refl _ _) | (with_reducible assumption) | (with_reducible refine below_alloc ?_ _) | (with_reducible refine below_drewN ?_ _) | (with_reducible refine Below.drew ?_) | (with_reducible refine below_then ?_ (by with_reducible assumption)) | (with_reducible refine Below.setCell ?_ (by go_size) _)))) hb1)
  have hlt := BD.out.lt
  obtain ⟨d0, d1, d2⟩ := BD.out
  clear hb1 HO BD
  go_wp2_with fail
  go_region_with (first | ((with_reducible refine (HR1.out _).mono ?_); rintro e w3 ⟨rfl, hw3⟩; have hw3 := hw3.symm; subst hw3) | ((with_reducible refine (HR2.out _).mono ?_); rintro e w3 ⟨rfl, hw3⟩; have hw3 := hw3.symm; subst hw3))
  all_goals
    go_wp2_with fail
    refine (HA.out _).mono ?_
    rintro e w2 ⟨rfl, hb2⟩
    have hBB := below_then (below_then HB.out (show Below w1.heap.size w1 _ by (repeat (first | (with_reducible exact Below.refl _ _) | (with_reducible assumption) | (with_reducible refine below_alloc ?_ _) | (with_reducible refine below_drewN ?_ _) | (with_reducible refine Below.drew ?_) | (with_reducible refine below_then ?_ (by with_reducible assumption)) | (with_reducible refine Below.setCell ?_ (by go_size) _))))) hb2
    go_wp2_with fail
    go_returns
    exact ⟨rfl, hBB⟩
end
end Go.Proofs.YthabpiphfaedaaaDoor
