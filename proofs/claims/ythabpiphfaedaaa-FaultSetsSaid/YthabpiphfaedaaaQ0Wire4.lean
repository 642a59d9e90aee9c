/- WIRES: a cable's ends. -/
import Derived.Test.YthabpiphfaedaaaQ0Wire3
import Derived.Test.YthabpiphfaedaaaQ0WireA
namespace Go.Proofs.Ythabpiphfaedaaa

section
open Go.RowKit Go.Shelf

set_option maxRecDepth 100000 in set_option maxHeartbeats 4000000 in
theorem wire_Ends0a (d : V3) (n l : Int) (w : World) (hn : 1 ≤ n ∧ n ≤ 4096) (l0 : 0 ≤ l) (l1 : l < 3 * n) (hq : l / n = 0) (heq : (d.x == 1) = true)
    (HM : RowKit.Hid (∀ W, Calls Try.prog 39 #[.agg #[.int .i64 d.x, .int .i64 d.y, .int .i64 d.z]] W (RB W (.tuple #[.int .i64 n, .int .i64 0])))) :
    Calls Try.prog 30 #[.agg #[.int .i64 d.x, .int .i64 d.y, .int .i64 d.z], .int .i64 l] w (RB w (.tuple #[.int .i64 0, .int .i64 0, .int .i64 0, .int .i64 6])) := by
  have hnz : n ≠ 0 := by omega
  (go_enter Try.func30, Try.ntmps30; go_wp2_with fail; refine (HM.out _).mono ?_; rintro e w1 ⟨rfl, hb1⟩; have BD := Lib.hid (((Blk.new w 23 #[.int .i64 d.x, .int .i64 d.y, .int .i64 d.z]).below hb1).dims); have HB := Lib.hid (below_then (show Below w.heap.size w (w.alloc (.cells #[.int .i64 d.x, .int .i64 d.y, .int .i64 d.z] 23)) by (repeat (first | (with_reducible exact Below.refl _ _) | (with_reducible assumption) | (with_reducible refine below_alloc ?_ _) | (with_reducible refine below_drewN ?_ _) | (with_reducible refine Below.drew ?_) | (with_reducible refine below_then ?_ (by with_reducible assumption)) | (with_reducible refine Below.setCell ?_ (by go_size) _)))) hb1); clear hb1; (have hlt := BD.out.lt; obtain ⟨d0, d1, d2⟩ := BD.out; go_wp2_with fail; clear d0 d1 d2 hlt))
  go_returns
  exact ⟨rfl, HB.out⟩
set_option maxRecDepth 100000 in set_option maxHeartbeats 4000000 in
theorem wire_Ends0b (d : V3) (n l t : Int) (w : World) (hn : 1 ≤ n ∧ n ≤ 4096) (l0 : 0 ≤ l) (l1 : l < 3 * n) (hq : l / n = 0) (heq : (d.x == 1) = false)
    (HM : RowKit.Hid (∀ W, Calls Try.prog 39 #[.agg #[.int .i64 d.x, .int .i64 d.y, .int .i64 d.z]] W (RB W (.tuple #[.int .i64 n, .int .i64 0]))))
    (HS : RowKit.Hid (∀ W, Calls Try.prog 61 #[.agg #[.int .i64 d.x, .int .i64 d.y, .int .i64 d.z], .int .i64 (l % n), .int .i64 0, .int .i64 1] W (RB W (.tuple #[.int .i64 t, .int .i64 0])))) :
    Calls Try.prog 30 #[.agg #[.int .i64 d.x, .int .i64 d.y, .int .i64 d.z], .int .i64 l] w (RB w (.tuple #[.int .i64 0, .int .i64 (l % n), .int .i64 t, .int .i64 0])) := by
  have hnz : n ≠ 0 := by omega
  (go_enter Try.func30, Try.ntmps30; go_wp2_with fail; refine (HM.out _).mono ?_; rintro e w1 ⟨rfl, hb1⟩; have BD := Lib.hid (((Blk.new w 23 #[.int .i64 d.x, .int .i64 d.y, .int .i64 d.z]).below hb1).dims); have HB := Lib.hid (below_then (show Below w.heap.size w (w.alloc (.cells #[.int .i64 d.x, .int .i64 d.y, .int .i64 d.z] 23)) by (repeat (first | (with_reducible exact Below.refl _ _) | (with_reducible assumption) | (with_reducible refine below_alloc ?_ _) | (with_reducible refine below_drewN ?_ _) | (with_reducible refine Below.drew ?_) | (with_reducible refine below_then ?_ (by with_reducible assumption)) | (with_reducible refine Below.setCell ?_ (by go_size) _)))) hb1); clear hb1; (have hlt := BD.out.lt; obtain ⟨d0, d1, d2⟩ := BD.out; go_wp2_with fail; clear d0 d1 d2 hlt))
  have hlt := BD.out.lt
  obtain ⟨d0, d1, d2⟩ := BD.out
  go_region
  all_goals
    go_wp2_with fail
    refine (HS.out _).mono ?_
    rintro e w2 ⟨rfl, hb2⟩
    have hBB := below_then (show Below w.heap.size w _ from HB.out.drew) hb2
    go_wp2_with fail
    go_returns
    exact ⟨rfl, hBB⟩
set_option maxRecDepth 100000 in set_option maxHeartbeats 4000000 in
theorem wire_Ends1a (d : V3) (n l : Int) (w : World) (hn : 1 ≤ n ∧ n ≤ 4096) (l0 : 0 ≤ l) (l1 : l < 3 * n) (hq : l / n = 1) (heq : (d.y == 1) = true)
    (HM : RowKit.Hid (∀ W, Calls Try.prog 39 #[.agg #[.int .i64 d.x, .int .i64 d.y, .int .i64 d.z]] W (RB W (.tuple #[.int .i64 n, .int .i64 0])))) :
    Calls Try.prog 30 #[.agg #[.int .i64 d.x, .int .i64 d.y, .int .i64 d.z], .int .i64 l] w (RB w (.tuple #[.int .i64 0, .int .i64 0, .int .i64 0, .int .i64 6])) := by
  have hnz : n ≠ 0 := by omega
  (go_enter Try.func30, Try.ntmps30; go_wp2_with fail; refine (HM.out _).mono ?_; rintro e w1 ⟨rfl, hb1⟩; have BD := Lib.hid (((Blk.new w 23 #[.int .i64 d.x, .int .i64 d.y, .int .i64 d.z]).below hb1).dims); have HB := Lib.hid (below_then (show Below w.heap.size w (w.alloc (.cells #[.int .i64 d.x, .int .i64 d.y, .int .i64 d.z] 23)) by (repeat (first | (with_reducible exact Below.refl _ _) | (with_reducible assumption) | (with_reducible refine below_alloc ?_ _) | (with_reducible refine below_drewN ?_ _) | (with_reducible refine Below.drew ?_) | (with_reducible refine below_then ?_ (by with_reducible assumption)) | (with_reducible refine Below.setCell ?_ (by go_size) _)))) hb1); clear hb1; (have hlt := BD.out.lt; obtain ⟨d0, d1, d2⟩ := BD.out; go_wp2_with fail; clear d0 d1 d2 hlt))
  go_returns
  exact ⟨rfl, HB.out⟩
set_option maxRecDepth 100000 in set_option maxHeartbeats 4000000 in
theorem wire_Ends1b (d : V3) (n l t : Int) (w : World) (hn : 1 ≤ n ∧ n ≤ 4096) (l0 : 0 ≤ l) (l1 : l < 3 * n) (hq : l / n = 1) (heq : (d.y == 1) = false)
    (HM : RowKit.Hid (∀ W, Calls Try.prog 39 #[.agg #[.int .i64 d.x, .int .i64 d.y, .int .i64 d.z]] W (RB W (.tuple #[.int .i64 n, .int .i64 0]))))
    (HS : RowKit.Hid (∀ W, Calls Try.prog 61 #[.agg #[.int .i64 d.x, .int .i64 d.y, .int .i64 d.z], .int .i64 (l % n), .int .i64 1, .int .i64 1] W (RB W (.tuple #[.int .i64 t, .int .i64 0])))) :
    Calls Try.prog 30 #[.agg #[.int .i64 d.x, .int .i64 d.y, .int .i64 d.z], .int .i64 l] w (RB w (.tuple #[.int .i64 1, .int .i64 (l % n), .int .i64 t, .int .i64 0])) := by
  have hnz : n ≠ 0 := by omega
  (go_enter Try.func30, Try.ntmps30; go_wp2_with fail; refine (HM.out _).mono ?_; rintro e w1 ⟨rfl, hb1⟩; have BD := Lib.hid (((Blk.new w 23 #[.int .i64 d.x, .int .i64 d.y, .int .i64 d.z]).below hb1).dims); have HB := Lib.hid (below_then (show Below w.heap.size w (w.alloc (.cells #[.int .i64 d.x, .int .i64 d.y, .int .i64 d.z] 23)) by (repeat (first | (with_reducible exact Below.refl _ _) | (with_reducible assumption) | (with_reducible refine below_alloc ?_ _) | (with_reducible refine below_drewN ?_ _) | (with_reducible refine Below.drew ?_) | (with_reducible refine below_then ?_ (by with_reducible assumption)) | (with_reducible refine Below.setCell ?_ (by go_size) _)))) hb1); clear hb1; (have hlt := BD.out.lt; obtain ⟨d0, d1, d2⟩ := BD.out; go_wp2_with fail; clear d0 d1 d2 hlt))
  have hlt := BD.out.lt
  obtain ⟨d0, d1, d2⟩ := BD.out
  go_region
  all_goals
    go_wp2_with fail
    refine (HS.out _).mono ?_
    rintro e w2 ⟨rfl, hb2⟩
    have hBB := below_then (show Below w.heap.size w _ from HB.out.drew) hb2
    go_wp2_with fail
    go_returns
    exact ⟨rfl, hBB⟩
set_option maxRecDepth 100000 in set_option maxHeartbeats 4000000 in
theorem wire_Ends2a (d : V3) (n l : Int) (w : World) (hn : 1 ≤ n ∧ n ≤ 4096) (l0 : 0 ≤ l) (l1 : l < 3 * n) (hq : l / n = 2) (heq : (d.z == 1) = true)
    (HM : RowKit.Hid (∀ W, Calls Try.prog 39 #[.agg #[.int .i64 d.x, .int .i64 d.y, .int .i64 d.z]] W (RB W (.tuple #[.int .i64 n, .int .i64 0])))) :
    Calls Try.prog 30 #[.agg #[.int .i64 d.x, .int .i64 d.y, .int .i64 d.z], .int .i64 l] w (RB w (.tuple #[.int .i64 0, .int .i64 0, .int .i64 0, .int .i64 6])) := by
  have hnz : n ≠ 0 := by omega
  (go_enter Try.func30, Try.ntmps30; go_wp2_with fail; refine (HM.out _).mono ?_; rintro e w1 ⟨rfl, hb1⟩; have BD := Lib.hid (((Blk.new w 23 #[.int .i64 d.x, .int .i64 d.y, .int .i64 d.z]).below hb1).dims); have HB := Lib.hid (below_then (show Below w.heap.size w (w.alloc (.cells #[.int .i64 d.x, .int .i64 d.y, .int .i64 d.z] 23)) by (repeat (first | (with_reducible exact Below.refl _ _) | (with_reducible assumption) | (with_reducible refine below_alloc ?_ _) | (with_reducible refine below_drewN ?_ _) | (with_reducible refine Below.drew ?_) | (with_reducible refine below_then ?_ (by with_reducible assumption)) | (with_reducible refine Below.setCell ?_ (by go_size) _)))) hb1); clear hb1; (have hlt := BD.out.lt; obtain ⟨d0, d1, d2⟩ := BD.out; go_wp2_with fail; clear d0 d1 d2 hlt))
  go_returns
  exact ⟨rfl, HB.out⟩
set_option maxRecDepth 100000 in set_option maxHeartbeats 4000000 in
theorem wire_Ends2b (d : V3) (n l t : Int) (w : World) (hn : 1 ≤ n ∧ n ≤ 4096) (l0 : 0 ≤ l) (l1 : l < 3 * n) (hq : l / n = 2) (heq : (d.z == 1) = false)
    (HM : RowKit.Hid (∀ W, Calls Try.prog 39 #[.agg #[.int .i64 d.x, .int .i64 d.y, .int .i64 d.z]] W (RB W (.tuple #[.int .i64 n, .int .i64 0]))))
    (HS : RowKit.Hid (∀ W, Calls Try.prog 61 #[.agg #[.int .i64 d.x, .int .i64 d.y, .int .i64 d.z], .int .i64 (l % n), .int .i64 2, .int .i64 1] W (RB W (.tuple #[.int .i64 t, .int .i64 0])))) :
    Calls Try.prog 30 #[.agg #[.int .i64 d.x, .int .i64 d.y, .int .i64 d.z], .int .i64 l] w (RB w (.tuple #[.int .i64 2, .int .i64 (l % n), .int .i64 t, .int .i64 0])) := by
  have hnz : n ≠ 0 := by omega
  (go_enter Try.func30, Try.ntmps30; go_wp2_with fail; refine (HM.out _).mono ?_; rintro e w1 ⟨rfl, hb1⟩; have BD := Lib.hid (((Blk.new w 23 #[.int .i64 d.x, .int .i64 d.y, .int .i64 d.z]).below hb1).dims); have HB := Lib.hid (below_then (show Below w.heap.size w (w.alloc (.cells #[.int .i64 d.x, .int .i64 d.y, .int .i64 d.z] 23)) by (repeat (first | (with_reducible exact Below.refl _ _) | (with_reducible assumption) | (with_reducible refine below_alloc ?_ _) | (with_reducible refine below_drewN ?_ _) | (with_reducible refine Below.drew ?_) | (with_reducible refine below_then ?_ (by with_reducible assumption)) | (with_reducible refine Below.setCell ?_ (by go_size) _)))) hb1); clear hb1; (have hlt := BD.out.lt; obtain ⟨d0, d1, d2⟩ := BD.out; go_wp2_with fail; clear d0 d1 d2 hlt))
  have hlt := BD.out.lt
  obtain ⟨d0, d1, d2⟩ := BD.out
  go_region
  all_goals
    go_wp2_with fail
    refine (HS.out _).mono ?_
    rintro e w2 ⟨rfl, hb2⟩
    have hBB := below_then (show Below w.heap.size w _ from HB.out.drew) hb2
    go_wp2_with fail
    go_returns
    exact ⟨rfl, hBB⟩
set_option maxRecDepth 100000 in set_option maxHeartbeats 4000000 in
theorem wire_Ends_no (d : V3) (n l : Int) (w : World) (hn : 1 ≤ n ∧ n ≤ 4096) (hl : ¬ (0 ≤ l ∧ l < 3 * n))
    (HM : RowKit.Hid (∀ W, Calls Try.prog 39 #[.agg #[.int .i64 d.x, .int .i64 d.y, .int .i64 d.z]] W (RB W (.tuple #[.int .i64 n, .int .i64 0])))) :
    Calls Try.prog 30 #[.agg #[.int .i64 d.x, .int .i64 d.y, .int .i64 d.z], .int .i64 l] w (RB w (.tuple #[.int .i64 0, .int .i64 0, .int .i64 0, .int .i64 2])) := by
  rcases Int.lt_or_le l 0 with h | h
  · have h1 : decide (l < 0) = true := decide_eq_true h
    clear hl
    (go_enter Try.func30, Try.ntmps30; go_wp2_with fail; refine (HM.out _).mono ?_; rintro e w1 ⟨rfl, hb1⟩; have BD := Lib.hid (((Blk.new w 23 #[.int .i64 d.x, .int .i64 d.y, .int .i64 d.z]).below hb1).dims); have HB := Lib.hid (below_then (show Below w.heap.size w (w.alloc (.cells #[.int .i64 d.x, .int .i64 d.y, .int .i64 d.z] 23)) by (repeat (first | (with_reducible exact Below.refl _ _) | (with_reducible assumption) | (with_reducible refine below_alloc ?_ _) | (with_reducible refine below_drewN ?_ _) | (with_reducible refine Below.drew ?_) | (with_reducible refine below_then ?_ (by with_reducible assumption)) | (with_reducible refine Below.setCell ?_ (by go_size) _)))) hb1); clear hb1; (have hlt := BD.out.lt; obtain ⟨d0, d1, d2⟩ := BD.out; go_wp2_with fail; clear d0 d1 d2 hlt))
    go_returns
    exact ⟨rfl, HB.out⟩
  · have h1 : decide (l < 0) = false := decide_eq_false (by omega)
    have h2 : decide (3 * n ≤ l) = true := decide_eq_true (by omega)
    clear hl
    (go_enter Try.func30, Try.ntmps30; go_wp2_with fail; refine (HM.out _).mono ?_; rintro e w1 ⟨rfl, hb1⟩; have BD := Lib.hid (((Blk.new w 23 #[.int .i64 d.x, .int .i64 d.y, .int .i64 d.z]).below hb1).dims); have HB := Lib.hid (below_then (show Below w.heap.size w (w.alloc (.cells #[.int .i64 d.x, .int .i64 d.y, .int .i64 d.z] 23)) by (repeat (first | (with_reducible exact Below.refl _ _) | (with_reducible assumption) | (with_reducible refine below_alloc ?_ _) | (with_reducible refine below_drewN ?_ _) | (with_reducible refine Below.drew ?_) | (with_reducible refine below_then ?_ (by with_reducible assumption)) | (with_reducible refine Below.setCell ?_ (by go_size) _)))) hb1); clear hb1; (have hlt := BD.out.lt; obtain ⟨d0, d1, d2⟩ := BD.out; go_wp2_with fail; clear d0 d1 d2 hlt))
    go_returns
    exact ⟨rfl, HB.out⟩
set_option maxRecDepth 100000 in set_option maxHeartbeats 4000000 in
theorem wire_Ends_bad (d : V3) (l : Int) (w : World)
    (HM : RowKit.Hid (∀ W, Calls Try.prog 39 #[.agg #[.int .i64 d.x, .int .i64 d.y, .int .i64 d.z]] W (RB W (.tuple #[.int .i64 0, .int .i64 8])))) :
    Calls Try.prog 30 #[.agg #[.int .i64 d.x, .int .i64 d.y, .int .i64 d.z], .int .i64 l] w (RB w (.tuple #[.int .i64 0, .int .i64 0, .int .i64 0, .int .i64 8])) := by
  (go_enter Try.func30, Try.ntmps30; go_wp2_with fail; refine (HM.out _).mono ?_; rintro e w1 ⟨rfl, hb1⟩; have BD := Lib.hid (((Blk.new w 23 #[.int .i64 d.x, .int .i64 d.y, .int .i64 d.z]).below hb1).dims); have HB := Lib.hid (below_then (show Below w.heap.size w (w.alloc (.cells #[.int .i64 d.x, .int .i64 d.y, .int .i64 d.z] 23)) by (repeat (first | (with_reducible exact Below.refl _ _) | (with_reducible assumption) | (with_reducible refine below_alloc ?_ _) | (with_reducible refine below_drewN ?_ _) | (with_reducible refine Below.drew ?_) | (with_reducible refine below_then ?_ (by with_reducible assumption)) | (with_reducible refine Below.setCell ?_ (by go_size) _)))) hb1); clear hb1; (have hlt := BD.out.lt; obtain ⟨d0, d1, d2⟩ := BD.out; go_wp2_with fail; clear d0 d1 d2 hlt))
  go_returns
  exact ⟨rfl, HB.out⟩
theorem wire_Ends (d : V3) (l : Int) (w : World) : Calls Try.prog 30 #[.agg #[.int .i64 d.x, .int .i64 d.y, .int .i64 d.z], .int .i64 l] w (RB w (.tuple #[.int .i64 (d.endA l), .int .i64 (d.endM l), .int .i64 (d.endT l), .int .i64 (d.endE l)])) := by
  by_cases hd : d.may
  · have HM := Lib.hid (fun W => by have := pos_Many d W; rw [V3.many_ok hd, V3.err_ok hd] at this; exact this)
    have hn := V3.n_le hd
    by_cases hl : 0 ≤ l ∧ l < 3 * d.n
    · have a0 : 0 ≤ l / d.n := Int.ediv_nonneg hl.1 (by omega)
      have a1 : l / d.n < 3 := Int.ediv_lt_of_lt_mul (by omega) (by omega)
      have m0 : 0 ≤ l % d.n := Int.emod_nonneg _ (by omega)
      have m1 : l % d.n < d.n := Int.emod_lt_of_pos _ (by omega)
      have hE : d.endE l = if d.at (l / d.n).toNat = 1 then 6 else 0 := by rw [V3.endE, if_pos hd, if_pos hl]
      have hq : l / d.n = 0 ∨ l / d.n = 1 ∨ l / d.n = 2 := by omega
      by_cases h1 : d.at (l / d.n).toNat = 1
      · have e6 : d.endE l = 6 := hE.trans (if_pos h1)
        rw [show d.endA l = 0 from if_neg (by omega), show d.endM l = 0 from if_neg (by omega), show d.endT l = 0 from if_neg (by omega), e6]
        rcases hq with hq | hq | hq
        · exact wire_Ends0a d d.n l w hn hl.1 hl.2 hq (by rw [hq] at h1; simpa using h1) HM
        · exact wire_Ends1a d d.n l w hn hl.1 hl.2 hq (by rw [hq] at h1; simpa using h1) HM
        · exact wire_Ends2a d d.n l w hn hl.1 hl.2 hq (by rw [hq] at h1; simpa using h1) HM
      · have e0 : d.endE l = 0 := hE.trans (if_neg h1)
        rw [show d.endA l = l / d.n from if_pos e0, show d.endM l = l % d.n from if_pos e0, show d.endT l = d.step (l % d.n) (l / d.n).toNat 1 from if_pos e0, e0]
        rcases hq with hq | hq | hq
        · rw [hq] at h1 ⊢
          exact wire_Ends0b d d.n l _ w hn hl.1 hl.2 hq (by simpa using h1) HM (Lib.hid (fun W => pos_Step d (l % d.n) 0 1 W hd m0 m1 (by decide) (by decide) (by decide)))
        · rw [hq] at h1 ⊢
          exact wire_Ends1b d d.n l _ w hn hl.1 hl.2 hq (by simpa using h1) HM (Lib.hid (fun W => pos_Step d (l % d.n) 1 1 W hd m0 m1 (by decide) (by decide) (by decide)))
        · rw [hq] at h1 ⊢
          exact wire_Ends2b d d.n l _ w hn hl.1 hl.2 hq (by simpa using h1) HM (Lib.hid (fun W => pos_Step d (l % d.n) 2 1 W hd m0 m1 (by decide) (by decide) (by decide)))
    · have e2 : d.endE l = 2 := by rw [V3.endE, if_pos hd, if_neg hl]
      rw [show d.endA l = 0 from if_neg (by omega), show d.endM l = 0 from if_neg (by omega), show d.endT l = 0 from if_neg (by omega), e2]
      exact wire_Ends_no d d.n l w hn hl HM
  · have HM := Lib.hid (fun W => by have := pos_Many d W; rw [V3.many_no hd, V3.err_no hd] at this; exact this)
    have e8 : d.endE l = 8 := by rw [V3.endE, if_neg hd]
    rw [show d.endA l = 0 from if_neg (by omega), show d.endM l = 0 from if_neg (by omega), show d.endT l = 0 from if_neg (by omega), e8]
    exact wire_Ends_bad d l w HM
end
end Go.Proofs.Ythabpiphfaedaaa
