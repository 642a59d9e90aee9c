/- BOX: the closures of Meet and Within. -/
import Derived.Test.YtilibdhcahdndaaProg
import Derived.Test.YtilibdhcahdndaaBase
import Derived.Test.YtilibdhcahdndaaBox3
namespace Go.Proofs.Ytilibdhcahdndaa
open Go.RowKit Go.Shelf

/-- A box lies in a block of its own. -/
structure BoxAt (w : World) (B : Nat) (b : Bx) : Prop where
  c0 : w.cell? ⟨B, 0, none⟩ = some (.int .i64 b.b.x)
  c1 : w.cell? ⟨B, 1, none⟩ = some (.int .i64 b.b.y)
  c2 : w.cell? ⟨B, 2, none⟩ = some (.int .i64 b.b.z)
  c3 : w.cell? ⟨B, 3, none⟩ = some (.int .i64 b.s.x)
  c4 : w.cell? ⟨B, 4, none⟩ = some (.int .i64 b.s.y)
  c5 : w.cell? ⟨B, 5, none⟩ = some (.int .i64 b.s.z)
  lt : B < w.heap.size

theorem BoxAt.keep {w W : World} {B : Nat} {b : Bx} (h : BoxAt w B b) (hb : Below w.heap.size w W) : BoxAt W B b :=
  ⟨(hb.cell (p := ⟨B, 0, none⟩) h.lt).trans h.c0, (hb.cell (p := ⟨B, 1, none⟩) h.lt).trans h.c1, (hb.cell (p := ⟨B, 2, none⟩) h.lt).trans h.c2,
   (hb.cell (p := ⟨B, 3, none⟩) h.lt).trans h.c3, (hb.cell (p := ⟨B, 4, none⟩) h.lt).trans h.c4, (hb.cell (p := ⟨B, 5, none⟩) h.lt).trans h.c5, Nat.lt_of_lt_of_le h.lt hb.size⟩

def meets1 (a b : Bx) (n : Int) (i : Nat) : Bool := decide (stepsOn (a.b.at i) (b.b.at i) n < a.s.at i) || decide (stepsOn (b.b.at i) (a.b.at i) n < b.s.at i)

set_option maxRecDepth 100000 in set_option maxHeartbeats 4000000 in
theorem meet_ask0 (a b : Bx) (n : Int) (w : World) (A B : Nat) (ha : BoxAt w A a) (hb : BoxAt w B b) (h1 : 1 ≤ n) (h2 : n ≤ 16) (h3 : 0 ≤ a.b.x) (h4 : a.b.x < n) (h5 : 0 ≤ b.b.x) (h6 : b.b.x < n) :
    Calls Try.prog 52 #[.int .i64 0, .int .i64 n, .pointer (some ⟨A, 0, none⟩), .pointer (some ⟨B, 0, none⟩)] w (RB w (.bool (meets1 a b n 0))) := by
  obtain ⟨a0, a1, a2, a3, a4, a5, alt⟩ := ha
  obtain ⟨b0, b1, b2, b3, b4, b5, blt⟩ := hb
  go_enter Try.func52, Try.ntmps52
  go_wp2_with (refine wp_region_quiet_lit (by kernel_rfl) (by kernel_rfl) ?_; (repeat (any_goals (first | go_big_quiet_step (((go_at_call 53; exact Calls.quiet_of_same (box_on _ _ _ _ (by omega) (by omega) (by omega) (by omega) (by omega) (by omega))))) | quiet_step (((go_at_call 53; exact Calls.quiet_of_same (box_on _ _ _ _ (by omega) (by omega) (by omega) (by omega) (by omega) (by omega))))) | (refine wpQuiet_step (fun K hK => ?_); go_simp; split <;> (refine hK _ ?_; clear hK K))))); all_goals (refine wpQuiet_nil ?_; intro _ hw'; obtain ⟨nq, hw''⟩ := hw'; subst hw''))
  all_goals
    go_returns
    refine ⟨?_, by (repeat (first | (with_reducible exact Below.refl _ _) | (with_reducible assumption) | (with_reducible refine below_alloc ?_ _) | (with_reducible refine below_drewN ?_ _) | (with_reducible refine Below.drew ?_) | (with_reducible refine below_then ?_ (by with_reducible assumption)) | (with_reducible refine Below.setCell ?_ (by go_size) _)))⟩
    first | exact rfl | (refine ret_bool ?_; simp [meets1, *]; done)
set_option maxRecDepth 100000 in set_option maxHeartbeats 4000000 in
theorem meet_ask1 (a b : Bx) (n : Int) (w : World) (A B : Nat) (ha : BoxAt w A a) (hb : BoxAt w B b) (h1 : 1 ≤ n) (h2 : n ≤ 16) (h3 : 0 ≤ a.b.y) (h4 : a.b.y < n) (h5 : 0 ≤ b.b.y) (h6 : b.b.y < n) :
    Calls Try.prog 52 #[.int .i64 1, .int .i64 n, .pointer (some ⟨A, 0, none⟩), .pointer (some ⟨B, 0, none⟩)] w (RB w (.bool (meets1 a b n 1))) := by
  obtain ⟨a0, a1, a2, a3, a4, a5, alt⟩ := ha
  obtain ⟨b0, b1, b2, b3, b4, b5, blt⟩ := hb
  go_enter Try.func52, Try.ntmps52
  go_wp2_with (refine wp_region_quiet_lit (by kernel_rfl) (by kernel_rfl) ?_; (repeat (any_goals (first | go_big_quiet_step (((go_at_call 53; exact Calls.quiet_of_same (box_on _ _ _ _ (by omega) (by omega) (by omega) (by omega) (by omega) (by omega))))) | quiet_step (((go_at_call 53; exact Calls.quiet_of_same (box_on _ _ _ _ (by omega) (by omega) (by omega) (by omega) (by omega) (by omega))))) | (refine wpQuiet_step (fun K hK => ?_); go_simp; split <;> (refine hK _ ?_; clear hK K))))); all_goals (refine wpQuiet_nil ?_; intro _ hw'; obtain ⟨nq, hw''⟩ := hw'; subst hw''))
  all_goals
    go_returns
    refine ⟨?_, by (repeat (first | (with_reducible exact Below.refl _ _) | (with_reducible assumption) | (with_reducible refine below_alloc ?_ _) | (with_reducible refine below_drewN ?_ _) | (with_reducible refine Below.drew ?_) | (with_reducible refine below_then ?_ (by with_reducible assumption)) | (with_reducible refine Below.setCell ?_ (by go_size) _)))⟩
    first | exact rfl | (refine ret_bool ?_; simp [meets1, *]; done)
set_option maxRecDepth 100000 in set_option maxHeartbeats 4000000 in
theorem meet_ask2 (a b : Bx) (n : Int) (w : World) (A B : Nat) (ha : BoxAt w A a) (hb : BoxAt w B b) (h1 : 1 ≤ n) (h2 : n ≤ 16) (h3 : 0 ≤ a.b.z) (h4 : a.b.z < n) (h5 : 0 ≤ b.b.z) (h6 : b.b.z < n) :
    Calls Try.prog 52 #[.int .i64 2, .int .i64 n, .pointer (some ⟨A, 0, none⟩), .pointer (some ⟨B, 0, none⟩)] w (RB w (.bool (meets1 a b n 2))) := by
  obtain ⟨a0, a1, a2, a3, a4, a5, alt⟩ := ha
  obtain ⟨b0, b1, b2, b3, b4, b5, blt⟩ := hb
  go_enter Try.func52, Try.ntmps52
  go_wp2_with (refine wp_region_quiet_lit (by kernel_rfl) (by kernel_rfl) ?_; (repeat (any_goals (first | go_big_quiet_step (((go_at_call 53; exact Calls.quiet_of_same (box_on _ _ _ _ (by omega) (by omega) (by omega) (by omega) (by omega) (by omega))))) | quiet_step (((go_at_call 53; exact Calls.quiet_of_same (box_on _ _ _ _ (by omega) (by omega) (by omega) (by omega) (by omega) (by omega))))) | (refine wpQuiet_step (fun K hK => ?_); go_simp; split <;> (refine hK _ ?_; clear hK K))))); all_goals (refine wpQuiet_nil ?_; intro _ hw'; obtain ⟨nq, hw''⟩ := hw'; subst hw''))
  all_goals
    go_returns
    refine ⟨?_, by (repeat (first | (with_reducible exact Below.refl _ _) | (with_reducible assumption) | (with_reducible refine below_alloc ?_ _) | (with_reducible refine below_drewN ?_ _) | (with_reducible refine Below.drew ?_) | (with_reducible refine below_then ?_ (by with_reducible assumption)) | (with_reducible refine Below.setCell ?_ (by go_size) _)))⟩
    first | exact rfl | (refine ret_bool ?_; simp [meets1, *]; done)

def within1 (a b : Bx) (n : Int) (i : Nat) : Bool := decide (b.s.at i = n) || decide (stepsOn (b.b.at i) (a.b.at i) n + a.s.at i ≤ b.s.at i)
set_option maxRecDepth 100000 in set_option maxHeartbeats 4000000 in
theorem within_ask0 (a b : Bx) (n : Int) (w : World) (A B : Nat) (ha : BoxAt w A a) (hb : BoxAt w B b) (h1 : 1 ≤ n) (h2 : n ≤ 16) (h3 : 0 ≤ a.b.x) (h4 : a.b.x < n) (h5 : 0 ≤ b.b.x) (h6 : b.b.x < n) (h7 : 1 ≤ a.s.x) (h8 : a.s.x ≤ n) :
    Calls Try.prog 57 #[.int .i64 0, .int .i64 n, .pointer (some ⟨B, 0, none⟩), .pointer (some ⟨A, 0, none⟩)] w (RB w (.bool (within1 a b n 0))) := by
  have hs0 : 0 ≤ stepsOn b.b.x a.b.x n := by unfold stepsOn; exact Int.emod_nonneg _ (by omega)
  have hs1 : stepsOn b.b.x a.b.x n < n := by unfold stepsOn; exact Int.emod_lt_of_pos _ (by omega)
  obtain ⟨a0, a1, a2, a3, a4, a5, alt⟩ := ha
  obtain ⟨b0, b1, b2, b3, b4, b5, blt⟩ := hb
  go_enter Try.func57, Try.ntmps57
  go_wp2_with (refine wp_region_quiet_lit (by kernel_rfl) (by kernel_rfl) ?_; (repeat (any_goals (first | go_big_quiet_step (((go_at_call 53; exact Calls.quiet_of_same (box_on _ _ _ _ (by omega) (by omega) (by omega) (by omega) (by omega) (by omega))))) | quiet_step (((go_at_call 53; exact Calls.quiet_of_same (box_on _ _ _ _ (by omega) (by omega) (by omega) (by omega) (by omega) (by omega))))) | (refine wpQuiet_step (fun K hK => ?_); go_simp; split <;> (refine hK _ ?_; clear hK K))))); all_goals (refine wpQuiet_nil ?_; intro _ hw'; obtain ⟨nq, hw''⟩ := hw'; subst hw''))
  all_goals
    go_returns
    refine ⟨?_, by (repeat (first | (with_reducible exact Below.refl _ _) | (with_reducible assumption) | (with_reducible refine below_alloc ?_ _) | (with_reducible refine below_drewN ?_ _) | (with_reducible refine Below.drew ?_) | (with_reducible refine below_then ?_ (by with_reducible assumption)) | (with_reducible refine Below.setCell ?_ (by go_size) _)))⟩
    first | exact rfl | (refine ret_bool ?_; simp [within1, *]; done) | trace_state
set_option maxRecDepth 100000 in set_option maxHeartbeats 4000000 in
theorem within_ask1 (a b : Bx) (n : Int) (w : World) (A B : Nat) (ha : BoxAt w A a) (hb : BoxAt w B b) (h1 : 1 ≤ n) (h2 : n ≤ 16) (h3 : 0 ≤ a.b.y) (h4 : a.b.y < n) (h5 : 0 ≤ b.b.y) (h6 : b.b.y < n) (h7 : 1 ≤ a.s.y) (h8 : a.s.y ≤ n) :
    Calls Try.prog 57 #[.int .i64 1, .int .i64 n, .pointer (some ⟨B, 0, none⟩), .pointer (some ⟨A, 0, none⟩)] w (RB w (.bool (within1 a b n 1))) := by
  have hs0 : 0 ≤ stepsOn b.b.y a.b.y n := by unfold stepsOn; exact Int.emod_nonneg _ (by omega)
  have hs1 : stepsOn b.b.y a.b.y n < n := by unfold stepsOn; exact Int.emod_lt_of_pos _ (by omega)
  obtain ⟨a0, a1, a2, a3, a4, a5, alt⟩ := ha
  obtain ⟨b0, b1, b2, b3, b4, b5, blt⟩ := hb
  go_enter Try.func57, Try.ntmps57
  go_wp2_with (refine wp_region_quiet_lit (by kernel_rfl) (by kernel_rfl) ?_; (repeat (any_goals (first | go_big_quiet_step (((go_at_call 53; exact Calls.quiet_of_same (box_on _ _ _ _ (by omega) (by omega) (by omega) (by omega) (by omega) (by omega))))) | quiet_step (((go_at_call 53; exact Calls.quiet_of_same (box_on _ _ _ _ (by omega) (by omega) (by omega) (by omega) (by omega) (by omega))))) | (refine wpQuiet_step (fun K hK => ?_); go_simp; split <;> (refine hK _ ?_; clear hK K))))); all_goals (refine wpQuiet_nil ?_; intro _ hw'; obtain ⟨nq, hw''⟩ := hw'; subst hw''))
  all_goals
    go_returns
    refine ⟨?_, by (repeat (first | (with_reducible exact Below.refl _ _) | (with_reducible assumption) | (with_reducible refine below_alloc ?_ _) | (with_reducible refine below_drewN ?_ _) | (with_reducible refine Below.drew ?_) | (with_reducible refine below_then ?_ (by with_reducible assumption)) | (with_reducible refine Below.setCell ?_ (by go_size) _)))⟩
    first | exact rfl | (refine ret_bool ?_; simp [within1, *]; done) | trace_state
set_option maxRecDepth 100000 in set_option maxHeartbeats 4000000 in
theorem within_ask2 (a b : Bx) (n : Int) (w : World) (A B : Nat) (ha : BoxAt w A a) (hb : BoxAt w B b) (h1 : 1 ≤ n) (h2 : n ≤ 16) (h3 : 0 ≤ a.b.z) (h4 : a.b.z < n) (h5 : 0 ≤ b.b.z) (h6 : b.b.z < n) (h7 : 1 ≤ a.s.z) (h8 : a.s.z ≤ n) :
    Calls Try.prog 57 #[.int .i64 2, .int .i64 n, .pointer (some ⟨B, 0, none⟩), .pointer (some ⟨A, 0, none⟩)] w (RB w (.bool (within1 a b n 2))) := by
  have hs0 : 0 ≤ stepsOn b.b.z a.b.z n := by unfold stepsOn; exact Int.emod_nonneg _ (by omega)
  have hs1 : stepsOn b.b.z a.b.z n < n := by unfold stepsOn; exact Int.emod_lt_of_pos _ (by omega)
  obtain ⟨a0, a1, a2, a3, a4, a5, alt⟩ := ha
  obtain ⟨b0, b1, b2, b3, b4, b5, blt⟩ := hb
  go_enter Try.func57, Try.ntmps57
  go_wp2_with (refine wp_region_quiet_lit (by kernel_rfl) (by kernel_rfl) ?_; (repeat (any_goals (first | go_big_quiet_step (((go_at_call 53; exact Calls.quiet_of_same (box_on _ _ _ _ (by omega) (by omega) (by omega) (by omega) (by omega) (by omega))))) | quiet_step (((go_at_call 53; exact Calls.quiet_of_same (box_on _ _ _ _ (by omega) (by omega) (by omega) (by omega) (by omega) (by omega))))) | (refine wpQuiet_step (fun K hK => ?_); go_simp; split <;> (refine hK _ ?_; clear hK K))))); all_goals (refine wpQuiet_nil ?_; intro _ hw'; obtain ⟨nq, hw''⟩ := hw'; subst hw''))
  all_goals
    go_returns
    refine ⟨?_, by (repeat (first | (with_reducible exact Below.refl _ _) | (with_reducible assumption) | (with_reducible refine below_alloc ?_ _) | (with_reducible refine below_drewN ?_ _) | (with_reducible refine Below.drew ?_) | (with_reducible refine below_then ?_ (by with_reducible assumption)) | (with_reducible refine Below.setCell ?_ (by go_size) _)))⟩
    first | exact rfl | (refine ret_bool ?_; simp [within1, *]; done) | trace_state
end Go.Proofs.Ytilibdhcahdndaa
