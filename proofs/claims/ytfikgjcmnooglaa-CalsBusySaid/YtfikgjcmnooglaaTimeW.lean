/- TIME: whether a span lies in another one. -/
import Derived.Test.YtfikgjcmnooglaaSlots
namespace Go.Proofs.Ytfikgjcmnooglaa
open Go.RowKit Go.Shelf

set_option maxRecDepth 100000 in set_option maxHeartbeats 4000000 in
theorem time_asked (f t g u : Int) (h : Nat) (lb : Array Value) (r : Bool) (w : World) (eg : ∀ args w, (callFunc h args).run Try.prog w = .ok (.enter h args) w) (h1 : spMay f t) (h2 : spMay g u)
    (hask : ∀ W, Below w.heap.size w W → Calls Try.prog h lb W (RB W (.bool r))) :
    Calls Try.prog 117 #[.agg #[.int .i64 f, .int .i64 t], .agg #[.int .i64 g, .int .i64 u], .func (.func h) #[] lb] w (RB w (.tuple #[.bool r, .int .i64 0])) := by
  have M1 := Lib.hid (fun W => Calls.rb_eq (time_Check f t W) (show Value.int .i64 (okIf (spMay f t) 2) = .int .i64 0 by rw [okIf_yes h1]))
  have M2 := Lib.hid (fun W => Calls.rb_eq (time_Check g u W) (show Value.int .i64 (okIf (spMay g u) 2) = .int .i64 0 by rw [okIf_yes h2]))
  have M3 := Lib.hid hask
  clear h1 h2 hask
  go_enter Try.func117, Try.ntmps117
  go_wp2_with fail
  refine wp_loop_rounds 3 ?_
  go_wp2_with (first | (rw [rounds_succ]) | ((with_reducible refine (M1.out _).mono ?_); rintro e w1 ⟨rfl, hb1⟩; (obtain ⟨hc1, hf1⟩ := bcell hb1; have hz1 := hb1.size; (try simp at hz1); have hB : Below w.heap.size w w1 := (by (repeat (first | (with_reducible exact Below.refl _ _) | (with_reducible assumption) | (with_reducible refine below_alloc ?_ _) | (with_reducible refine below_drewN ?_ _) | (with_reducible refine Below.drew ?_) | (with_reducible refine below_then ?_ (by with_reducible assumption)) | (with_reducible refine Below.setCell ?_ (by go_size) _)))); obtain ⟨hcB, hfB⟩ := bcell hB; (try have z0 : w.heap.size < w1.heap.size := by omega); (try have z1 : w.heap.size + 1 < w1.heap.size := by omega); (try have z2 : w.heap.size + 2 < w1.heap.size := by omega); (try have z3 : w.heap.size + 3 < w1.heap.size := by omega))) | ((with_reducible refine (M2.out _).mono ?_); rintro e w1 ⟨rfl, hb1⟩; (obtain ⟨hc1, hf1⟩ := bcell hb1; have hz1 := hb1.size; (try simp at hz1); have hB : Below w.heap.size w w1 := (by (repeat (first | (with_reducible exact Below.refl _ _) | (with_reducible assumption) | (with_reducible refine below_alloc ?_ _) | (with_reducible refine below_drewN ?_ _) | (with_reducible refine Below.drew ?_) | (with_reducible refine below_then ?_ (by with_reducible assumption)) | (with_reducible refine Below.setCell ?_ (by go_size) _)))); obtain ⟨hcB, hfB⟩ := bcell hB; (try have z0 : w.heap.size < w1.heap.size := by omega); (try have z1 : w.heap.size + 1 < w1.heap.size := by omega); (try have z2 : w.heap.size + 2 < w1.heap.size := by omega); (try have z3 : w.heap.size + 3 < w1.heap.size := by omega))) | ((with_reducible refine (M3.out _ (by (repeat (first | (with_reducible exact Below.refl _ _) | (with_reducible assumption) | (with_reducible refine below_alloc ?_ _) | (with_reducible refine below_drewN ?_ _) | (with_reducible refine Below.drew ?_) | (with_reducible refine below_then ?_ (by with_reducible assumption)) | (with_reducible refine Below.setCell ?_ (by go_size) _))))).mono ?_); rintro e w1 ⟨rfl, hb1⟩; (obtain ⟨hc1, hf1⟩ := bcell hb1; have hz1 := hb1.size; (try simp at hz1); have hB : Below w.heap.size w w1 := (by (repeat (first | (with_reducible exact Below.refl _ _) | (with_reducible assumption) | (with_reducible refine below_alloc ?_ _) | (with_reducible refine below_drewN ?_ _) | (with_reducible refine Below.drew ?_) | (with_reducible refine below_then ?_ (by with_reducible assumption)) | (with_reducible refine Below.setCell ?_ (by go_size) _)))); obtain ⟨hcB, hfB⟩ := bcell hB; (try have z0 : w.heap.size < w1.heap.size := by omega); (try have z1 : w.heap.size + 1 < w1.heap.size := by omega); (try have z2 : w.heap.size + 2 < w1.heap.size := by omega); (try have z3 : w.heap.size + 3 < w1.heap.size := by omega))))
  go_returns
  exact ⟨rfl, by (repeat (first | (with_reducible exact Below.refl _ _) | (with_reducible assumption) | (with_reducible refine below_alloc ?_ _) | (with_reducible refine below_drewN ?_ _) | (with_reducible refine Below.drew ?_) | (with_reducible refine below_then ?_ (by with_reducible assumption)) | (with_reducible refine Below.setCell ?_ (by go_size) _)))⟩
set_option maxRecDepth 100000 in set_option maxHeartbeats 4000000 in
theorem within_ask (f t g u : Int) (A B : Nat) (w : World) (a0 : w.cell? ⟨A, 0, none⟩ = some (.int .i64 f)) (a1 : w.cell? ⟨A, 1, none⟩ = some (.int .i64 t)) (b0 : w.cell? ⟨B, 0, none⟩ = some (.int .i64 g)) (b1 : w.cell? ⟨B, 1, none⟩ = some (.int .i64 u)) :
    Calls Try.prog 118 #[.pointer (some ⟨A, 0, none⟩), .pointer (some ⟨B, 0, none⟩)] w (RB w (.bool (decide (g ≤ f) && decide (t ≤ u)))) := by
  by_cases h1 : g ≤ f
  · have h2 := Lib.hid (show (decide (g ≤ f) && decide (t ≤ u)) = decide (t ≤ u) by rw [decide_eq_true h1]; rfl)
    rw [h2.out]
    go_enter Try.func118, Try.ntmps118
    go_wp2_with fail
    go_returns
    exact ⟨rfl, by (repeat (first | (with_reducible exact Below.refl _ _) | (with_reducible assumption) | (with_reducible refine below_alloc ?_ _) | (with_reducible refine below_drewN ?_ _) | (with_reducible refine Below.drew ?_) | (with_reducible refine below_then ?_ (by with_reducible assumption)) | (with_reducible refine Below.setCell ?_ (by go_size) _)))⟩
  · have h2 := Lib.hid (show (decide (g ≤ f) && decide (t ≤ u)) = false by rw [decide_eq_false h1]; rfl)
    rw [h2.out]
    go_enter Try.func118, Try.ntmps118
    go_wp2_with fail
    go_returns
    exact ⟨rfl, by (repeat (first | (with_reducible exact Below.refl _ _) | (with_reducible assumption) | (with_reducible refine below_alloc ?_ _) | (with_reducible refine below_drewN ?_ _) | (with_reducible refine Below.drew ?_) | (with_reducible refine below_then ?_ (by with_reducible assumption)) | (with_reducible refine Below.setCell ?_ (by go_size) _)))⟩
set_option maxRecDepth 100000 in set_option maxHeartbeats 4000000 in
theorem time_Within (f t g u : Int) (w : World) (h1 : spMay f t) (h2 : spMay g u) :
    Calls Try.prog 60 #[.agg #[.int .i64 f, .int .i64 t], .agg #[.int .i64 g, .int .i64 u]] w (RB w (.tuple #[.bool (decide (g ≤ f) && decide (t ≤ u)), .int .i64 0])) := by
  have eg : ∀ args w, (callFunc 118 args).run Try.prog w = .ok (.enter 118 args) w := enters_of Try.func118 (by kernel_rfl) rfl
  have M := Lib.hid (fun W (a0 : W.cell? ⟨w.heap.size, 0, none⟩ = some (.int .i64 f)) (a1 : W.cell? ⟨w.heap.size, 1, none⟩ = some (.int .i64 t)) (b0 : W.cell? ⟨w.heap.size + 1, 0, none⟩ = some (.int .i64 g)) (b1 : W.cell? ⟨w.heap.size + 1, 1, none⟩ = some (.int .i64 u)) =>
    time_asked f t g u 118 #[.pointer (some ⟨w.heap.size, 0, none⟩), .pointer (some ⟨w.heap.size + 1, 0, none⟩)] (decide (g ≤ f) && decide (t ≤ u)) W eg h1 h2 (fun W' hb => within_ask f t g u w.heap.size (w.heap.size + 1) W'
      ((hb.cell (p := ⟨w.heap.size, 0, none⟩) (World.block_lt_of_cell? W _ a0)).trans a0) ((hb.cell (p := ⟨w.heap.size, 1, none⟩) (World.block_lt_of_cell? W _ a1)).trans a1) ((hb.cell (p := ⟨w.heap.size + 1, 0, none⟩) (World.block_lt_of_cell? W _ b0)).trans b0) ((hb.cell (p := ⟨w.heap.size + 1, 1, none⟩) (World.block_lt_of_cell? W _ b1)).trans b1)))
  clear h1 h2 eg
  generalize (decide (g ≤ f) && decide (t ≤ u)) = r at *
  go_enter Try.func60, Try.ntmps60
  go_wp2_with fail
  refine (M.out _ (by simp [go_sem]) (by simp [go_sem]) (by simp [go_sem]) (by simp [go_sem])).mono ?_
  rintro e w1 ⟨rfl, hb1⟩
  (obtain ⟨hc1, hf1⟩ := bcell hb1; have hz1 := hb1.size; (try simp at hz1); have hB : Below w.heap.size w w1 := (by (repeat (first | (with_reducible exact Below.refl _ _) | (with_reducible assumption) | (with_reducible refine below_alloc ?_ _) | (with_reducible refine below_drewN ?_ _) | (with_reducible refine Below.drew ?_) | (with_reducible refine below_then ?_ (by with_reducible assumption)) | (with_reducible refine Below.setCell ?_ (by go_size) _)))); obtain ⟨hcB, hfB⟩ := bcell hB; (try have z0 : w.heap.size < w1.heap.size := by omega); (try have z1 : w.heap.size + 1 < w1.heap.size := by omega); (try have z2 : w.heap.size + 2 < w1.heap.size := by omega); (try have z3 : w.heap.size + 3 < w1.heap.size := by omega))
  go_wp2_with fail
  go_returns
  exact ⟨rfl, by (repeat (first | (with_reducible exact Below.refl _ _) | (with_reducible assumption) | (with_reducible refine below_alloc ?_ _) | (with_reducible refine below_drewN ?_ _) | (with_reducible refine Below.drew ?_) | (with_reducible refine below_then ?_ (by with_reducible assumption)) | (with_reducible refine Below.setCell ?_ (by go_size) _)))⟩
end Go.Proofs.Ytfikgjcmnooglaa
