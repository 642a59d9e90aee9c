/- REF: wires: a cable's ends. -/
import Derived.Test.YtpooieghlceefaaRef05a
namespace Go.Proofs.Ytpooieghlceefaa
open Go.RowKit Go.Shelf

theorem ret_4 {a b c e a' b' c' e' : Int} (h1 : a = a') (h2 : b = b') (h3 : c = c') (h4 : e = e') : Ending.returned (.tuple #[.int .i64 a, .int .i64 b, .int .i64 c, .int .i64 e]) = .returned (.tuple #[.int .i64 a', .int .i64 b', .int .i64 c', .int .i64 e']) := by rw [h1, h2, h3, h4]
set_option maxRecDepth 100000 in set_option maxHeartbeats 4000000 in
theorem ref05_Ends_0 (d : V3) (n l t : Int) (w : World) (hn : 1 ≤ n ∧ n ≤ 4096) (l0 : 0 ≤ l) (l1 : l < 3 * n) (hq : l / n = 0)
    (HM : RowKit.Hid (∀ W, Calls Try.prog 41 #[.agg #[.int .i64 d.x, .int .i64 d.y, .int .i64 d.z]] W (RB W (.bool true))))
    (HN : RowKit.Hid (∀ W, Calls Try.prog 42 #[.agg #[.int .i64 d.x, .int .i64 d.y, .int .i64 d.z]] W (RB W (.int .i64 n))))
    (HS : RowKit.Hid (∀ W, Calls Try.prog 44 #[.agg #[.int .i64 d.x, .int .i64 d.y, .int .i64 d.z], .int .i64 (l - 0 * n), .int .i64 0, .int .i64 1] W (RB W (.int .i64 t)))) :
    Calls Try.prog 24 #[.agg #[.int .i64 d.x, .int .i64 d.y, .int .i64 d.z], .int .i64 l] w (RB w (if d.x = 1 then .tuple #[.int .i64 0, .int .i64 0, .int .i64 0, .int .i64 6] else .tuple #[.int .i64 0, .int .i64 (l - 0 * n), .int .i64 t, .int .i64 0])) := by
  have q1 := Int.mul_ediv_add_emod l n
  have q2 := Int.emod_nonneg l (show n ≠ 0 by omega)
  have q3 := Int.emod_lt_of_pos l (show 0 < n by omega)
  rw [hq] at q1
  have g1 : decide (l < 0) = false := decide_eq_false (by omega)
  have g2 : decide (3 * n ≤ l) = false := decide_eq_false (by omega)
  have g3 : decide (n ≤ l) = false := decide_eq_false (by omega)
  have HS := Lib.hid (fun W => by have := HS.out W; rw [show l - 0 * n = l by omega] at this; exact this)
  clear q1 q2 q3 hq
  by_cases hx : d.x = 1
  · rw [if_pos hx]
    have heq : (d.x == 1) = true := by simpa using hx
    clear hx
    (have HB := Lib.hid (show Below w.heap.size w (w.alloc (.cells #[.int .i64 d.x, .int .i64 d.y, .int .i64 d.z] 23)) by (repeat (first | (with_reducible exact Below.refl _ _) | (with_reducible assumption) | (with_reducible refine below_alloc ?_ _) | (with_reducible refine below_drewN ?_ _) | (with_reducible refine Below.drew ?_) | (with_reducible refine below_then ?_ (by with_reducible assumption)) | (with_reducible refine Below.setCell ?_ (by go_size) _)))); have BD := Lib.hid (Blk.new w 23 #[.int .i64 d.x, .int .i64 d.y, .int .i64 d.z]).dims)
    go_enter Try.func24, Try.ntmps24
    go_wp2_with fail
    (refine (HM.out _).mono ?_; rintro e w1 ⟨rfl, hb1⟩; (have BD := Lib.hid (BD.out.keep hb1 BD.out.lt); have HB := Lib.hid (below_then HB.out hb1)); clear hb1; (have hlt := BD.out.lt; obtain ⟨d0, d1, d2⟩ := BD.out; go_wp2_with fail; clear d0 d1 d2 hlt))
    refine (HN.out _).mono ?_
    rintro e w1 ⟨rfl, hb1⟩
    (have BD := Lib.hid (BD.out.keep hb1 BD.out.lt); have HB := Lib.hid (below_then HB.out hb1))
    have hlt := BD.out.lt
    obtain ⟨d0, d1, d2⟩ := BD.out
    clear hb1
    go_wp2_with fail
    refine wp_loop_rounds 4 ?_
    go_wp2_with (rw [rounds_succ])
    go_returns
    exact ⟨rfl, HB.out⟩
  · rw [if_neg hx]
    have heq : (d.x == 1) = false := by simpa using hx
    clear hx
    (have HB := Lib.hid (show Below w.heap.size w (w.alloc (.cells #[.int .i64 d.x, .int .i64 d.y, .int .i64 d.z] 23)) by (repeat (first | (with_reducible exact Below.refl _ _) | (with_reducible assumption) | (with_reducible refine below_alloc ?_ _) | (with_reducible refine below_drewN ?_ _) | (with_reducible refine Below.drew ?_) | (with_reducible refine below_then ?_ (by with_reducible assumption)) | (with_reducible refine Below.setCell ?_ (by go_size) _)))); have BD := Lib.hid (Blk.new w 23 #[.int .i64 d.x, .int .i64 d.y, .int .i64 d.z]).dims)
    go_enter Try.func24, Try.ntmps24
    go_wp2_with fail
    (refine (HM.out _).mono ?_; rintro e w1 ⟨rfl, hb1⟩; (have BD := Lib.hid (BD.out.keep hb1 BD.out.lt); have HB := Lib.hid (below_then HB.out hb1)); clear hb1; (have hlt := BD.out.lt; obtain ⟨d0, d1, d2⟩ := BD.out; go_wp2_with fail; clear d0 d1 d2 hlt))
    refine (HN.out _).mono ?_
    rintro e w1 ⟨rfl, hb1⟩
    (have BD := Lib.hid (BD.out.keep hb1 BD.out.lt); have HB := Lib.hid (below_then HB.out hb1))
    have hlt := BD.out.lt
    obtain ⟨d0, d1, d2⟩ := BD.out
    clear hb1
    go_wp2_with fail
    refine wp_loop_rounds 4 ?_
    go_wp2_with (rw [rounds_succ])
    refine (HS.out _).mono ?_
    rintro e w2 ⟨rfl, hb2⟩
    (have BD := Lib.hid (BD.out.keep hb2 BD.out.lt); have HB := Lib.hid (below_then HB.out hb2))
    clear hb2
    go_wp2_with fail
    go_returns
    exact ⟨ret_4 rfl (by omega) rfl rfl, HB.out⟩
set_option maxRecDepth 100000 in set_option maxHeartbeats 4000000 in
theorem ref05_Ends_1 (d : V3) (n l t : Int) (w : World) (hn : 1 ≤ n ∧ n ≤ 4096) (l0 : 0 ≤ l) (l1 : l < 3 * n) (hq : l / n = 1)
    (HM : RowKit.Hid (∀ W, Calls Try.prog 41 #[.agg #[.int .i64 d.x, .int .i64 d.y, .int .i64 d.z]] W (RB W (.bool true))))
    (HN : RowKit.Hid (∀ W, Calls Try.prog 42 #[.agg #[.int .i64 d.x, .int .i64 d.y, .int .i64 d.z]] W (RB W (.int .i64 n))))
    (HS : RowKit.Hid (∀ W, Calls Try.prog 44 #[.agg #[.int .i64 d.x, .int .i64 d.y, .int .i64 d.z], .int .i64 (l - 1 * n), .int .i64 1, .int .i64 1] W (RB W (.int .i64 t)))) :
    Calls Try.prog 24 #[.agg #[.int .i64 d.x, .int .i64 d.y, .int .i64 d.z], .int .i64 l] w (RB w (if d.y = 1 then .tuple #[.int .i64 0, .int .i64 0, .int .i64 0, .int .i64 6] else .tuple #[.int .i64 1, .int .i64 (l - 1 * n), .int .i64 t, .int .i64 0])) := by
  have q1 := Int.mul_ediv_add_emod l n
  have q2 := Int.emod_nonneg l (show n ≠ 0 by omega)
  have q3 := Int.emod_lt_of_pos l (show 0 < n by omega)
  rw [hq] at q1
  have g1 : decide (l < 0) = false := decide_eq_false (by omega)
  have g2 : decide (3 * n ≤ l) = false := decide_eq_false (by omega)
  have g3 : decide (n ≤ l) = true := decide_eq_true (by omega)
  have g4 : decide (n ≤ l - n) = false := decide_eq_false (by omega)
  have HS := Lib.hid (fun W => by have := HS.out W; rw [show l - 1 * n = l - n by omega] at this; exact this)
  clear q1 q2 q3 hq
  by_cases hx : d.y = 1
  · rw [if_pos hx]
    have heq : (d.y == 1) = true := by simpa using hx
    clear hx
    (have HB := Lib.hid (show Below w.heap.size w (w.alloc (.cells #[.int .i64 d.x, .int .i64 d.y, .int .i64 d.z] 23)) by (repeat (first | (with_reducible exact Below.refl _ _) | (with_reducible assumption) | (with_reducible refine below_alloc ?_ _) | (with_reducible refine below_drewN ?_ _) | (with_reducible refine Below.drew ?_) | (with_reducible refine below_then ?_ (by with_reducible assumption)) | (with_reducible refine Below.setCell ?_ (by go_size) _)))); have BD := Lib.hid (Blk.new w 23 #[.int .i64 d.x, .int .i64 d.y, .int .i64 d.z]).dims)
    go_enter Try.func24, Try.ntmps24
    go_wp2_with fail
    (refine (HM.out _).mono ?_; rintro e w1 ⟨rfl, hb1⟩; (have BD := Lib.hid (BD.out.keep hb1 BD.out.lt); have HB := Lib.hid (below_then HB.out hb1)); clear hb1; (have hlt := BD.out.lt; obtain ⟨d0, d1, d2⟩ := BD.out; go_wp2_with fail; clear d0 d1 d2 hlt))
    refine (HN.out _).mono ?_
    rintro e w1 ⟨rfl, hb1⟩
    (have BD := Lib.hid (BD.out.keep hb1 BD.out.lt); have HB := Lib.hid (below_then HB.out hb1))
    have hlt := BD.out.lt
    obtain ⟨d0, d1, d2⟩ := BD.out
    clear hb1
    go_wp2_with fail
    refine wp_loop_rounds 4 ?_
    go_wp2_with (rw [rounds_succ])
    go_returns
    exact ⟨rfl, HB.out⟩
  · rw [if_neg hx]
    have heq : (d.y == 1) = false := by simpa using hx
    clear hx
    (have HB := Lib.hid (show Below w.heap.size w (w.alloc (.cells #[.int .i64 d.x, .int .i64 d.y, .int .i64 d.z] 23)) by (repeat (first | (with_reducible exact Below.refl _ _) | (with_reducible assumption) | (with_reducible refine below_alloc ?_ _) | (with_reducible refine below_drewN ?_ _) | (with_reducible refine Below.drew ?_) | (with_reducible refine below_then ?_ (by with_reducible assumption)) | (with_reducible refine Below.setCell ?_ (by go_size) _)))); have BD := Lib.hid (Blk.new w 23 #[.int .i64 d.x, .int .i64 d.y, .int .i64 d.z]).dims)
    go_enter Try.func24, Try.ntmps24
    go_wp2_with fail
    (refine (HM.out _).mono ?_; rintro e w1 ⟨rfl, hb1⟩; (have BD := Lib.hid (BD.out.keep hb1 BD.out.lt); have HB := Lib.hid (below_then HB.out hb1)); clear hb1; (have hlt := BD.out.lt; obtain ⟨d0, d1, d2⟩ := BD.out; go_wp2_with fail; clear d0 d1 d2 hlt))
    refine (HN.out _).mono ?_
    rintro e w1 ⟨rfl, hb1⟩
    (have BD := Lib.hid (BD.out.keep hb1 BD.out.lt); have HB := Lib.hid (below_then HB.out hb1))
    have hlt := BD.out.lt
    obtain ⟨d0, d1, d2⟩ := BD.out
    clear hb1
    go_wp2_with fail
    refine wp_loop_rounds 4 ?_
    go_wp2_with (rw [rounds_succ])
    refine (HS.out _).mono ?_
    rintro e w2 ⟨rfl, hb2⟩
    (have BD := Lib.hid (BD.out.keep hb2 BD.out.lt); have HB := Lib.hid (below_then HB.out hb2))
    clear hb2
    go_wp2_with fail
    go_returns
    exact ⟨ret_4 rfl (by omega) rfl rfl, HB.out⟩
set_option maxRecDepth 100000 in set_option maxHeartbeats 4000000 in
theorem ref05_Ends_2 (d : V3) (n l t : Int) (w : World) (hn : 1 ≤ n ∧ n ≤ 4096) (l0 : 0 ≤ l) (l1 : l < 3 * n) (hq : l / n = 2)
    (HM : RowKit.Hid (∀ W, Calls Try.prog 41 #[.agg #[.int .i64 d.x, .int .i64 d.y, .int .i64 d.z]] W (RB W (.bool true))))
    (HN : RowKit.Hid (∀ W, Calls Try.prog 42 #[.agg #[.int .i64 d.x, .int .i64 d.y, .int .i64 d.z]] W (RB W (.int .i64 n))))
    (HS : RowKit.Hid (∀ W, Calls Try.prog 44 #[.agg #[.int .i64 d.x, .int .i64 d.y, .int .i64 d.z], .int .i64 (l - 2 * n), .int .i64 2, .int .i64 1] W (RB W (.int .i64 t)))) :
    Calls Try.prog 24 #[.agg #[.int .i64 d.x, .int .i64 d.y, .int .i64 d.z], .int .i64 l] w (RB w (if d.z = 1 then .tuple #[.int .i64 0, .int .i64 0, .int .i64 0, .int .i64 6] else .tuple #[.int .i64 2, .int .i64 (l - 2 * n), .int .i64 t, .int .i64 0])) := by
  have q1 := Int.mul_ediv_add_emod l n
  have q2 := Int.emod_nonneg l (show n ≠ 0 by omega)
  have q3 := Int.emod_lt_of_pos l (show 0 < n by omega)
  rw [hq] at q1
  have g1 : decide (l < 0) = false := decide_eq_false (by omega)
  have g2 : decide (3 * n ≤ l) = false := decide_eq_false (by omega)
  have g3 : decide (n ≤ l) = true := decide_eq_true (by omega)
  have g4 : decide (n ≤ l - n) = true := decide_eq_true (by omega)
  have g5 : decide (n ≤ l - n - n) = false := decide_eq_false (by omega)
  have HS := Lib.hid (fun W => by have := HS.out W; rw [show l - 2 * n = l - n - n by omega] at this; exact this)
  clear q1 q2 q3 hq
  by_cases hx : d.z = 1
  · rw [if_pos hx]
    have heq : (d.z == 1) = true := by simpa using hx
    clear hx
    (have HB := Lib.hid (show Below w.heap.size w (w.alloc (.cells #[.int .i64 d.x, .int .i64 d.y, .int .i64 d.z] 23)) by (repeat (first | (with_reducible exact Below.refl _ _) | (with_reducible assumption) | (with_reducible refine below_alloc ?_ _) | (with_reducible refine below_drewN ?_ _) | (with_reducible refine Below.drew ?_) | (with_reducible refine below_then ?_ (by with_reducible assumption)) | (with_reducible refine Below.setCell ?_ (by go_size) _)))); have BD := Lib.hid (Blk.new w 23 #[.int .i64 d.x, .int .i64 d.y, .int .i64 d.z]).dims)
    go_enter Try.func24, Try.ntmps24
    go_wp2_with fail
    (refine (HM.out _).mono ?_; rintro e w1 ⟨rfl, hb1⟩; (have BD := Lib.hid (BD.out.keep hb1 BD.out.lt); have HB := Lib.hid (below_then HB.out hb1)); clear hb1; (have hlt := BD.out.lt; obtain ⟨d0, d1, d2⟩ := BD.out; go_wp2_with fail; clear d0 d1 d2 hlt))
    refine (HN.out _).mono ?_
    rintro e w1 ⟨rfl, hb1⟩
    (have BD := Lib.hid (BD.out.keep hb1 BD.out.lt); have HB := Lib.hid (below_then HB.out hb1))
    have hlt := BD.out.lt
    obtain ⟨d0, d1, d2⟩ := BD.out
    clear hb1
    go_wp2_with fail
    refine wp_loop_rounds 4 ?_
    go_wp2_with (rw [rounds_succ])
    go_returns
    exact ⟨rfl, HB.out⟩
  · rw [if_neg hx]
    have heq : (d.z == 1) = false := by simpa using hx
    clear hx
    (have HB := Lib.hid (show Below w.heap.size w (w.alloc (.cells #[.int .i64 d.x, .int .i64 d.y, .int .i64 d.z] 23)) by (repeat (first | (with_reducible exact Below.refl _ _) | (with_reducible assumption) | (with_reducible refine below_alloc ?_ _) | (with_reducible refine below_drewN ?_ _) | (with_reducible refine Below.drew ?_) | (with_reducible refine below_then ?_ (by with_reducible assumption)) | (with_reducible refine Below.setCell ?_ (by go_size) _)))); have BD := Lib.hid (Blk.new w 23 #[.int .i64 d.x, .int .i64 d.y, .int .i64 d.z]).dims)
    go_enter Try.func24, Try.ntmps24
    go_wp2_with fail
    (refine (HM.out _).mono ?_; rintro e w1 ⟨rfl, hb1⟩; (have BD := Lib.hid (BD.out.keep hb1 BD.out.lt); have HB := Lib.hid (below_then HB.out hb1)); clear hb1; (have hlt := BD.out.lt; obtain ⟨d0, d1, d2⟩ := BD.out; go_wp2_with fail; clear d0 d1 d2 hlt))
    refine (HN.out _).mono ?_
    rintro e w1 ⟨rfl, hb1⟩
    (have BD := Lib.hid (BD.out.keep hb1 BD.out.lt); have HB := Lib.hid (below_then HB.out hb1))
    have hlt := BD.out.lt
    obtain ⟨d0, d1, d2⟩ := BD.out
    clear hb1
    go_wp2_with fail
    refine wp_loop_rounds 4 ?_
    go_wp2_with (rw [rounds_succ])
    refine (HS.out _).mono ?_
    rintro e w2 ⟨rfl, hb2⟩
    (have BD := Lib.hid (BD.out.keep hb2 BD.out.lt); have HB := Lib.hid (below_then HB.out hb2))
    clear hb2
    go_wp2_with fail
    go_returns
    exact ⟨ret_4 rfl (by omega) rfl rfl, HB.out⟩
set_option maxRecDepth 100000 in set_option maxHeartbeats 4000000 in
theorem ref05_Ends_no (d : V3) (n l : Int) (w : World) (hn : 1 ≤ n ∧ n ≤ 4096) (hl : ¬ (0 ≤ l ∧ l < 3 * n))
    (HM : RowKit.Hid (∀ W, Calls Try.prog 41 #[.agg #[.int .i64 d.x, .int .i64 d.y, .int .i64 d.z]] W (RB W (.bool true))))
    (HN : RowKit.Hid (∀ W, Calls Try.prog 42 #[.agg #[.int .i64 d.x, .int .i64 d.y, .int .i64 d.z]] W (RB W (.int .i64 n)))) :
    Calls Try.prog 24 #[.agg #[.int .i64 d.x, .int .i64 d.y, .int .i64 d.z], .int .i64 l] w (RB w (.tuple #[.int .i64 0, .int .i64 0, .int .i64 0, .int .i64 2])) := by
  rcases Int.lt_or_le l 0 with h | h
  · have h1 : decide (l < 0) = true := decide_eq_true h
    clear hl
    (have HB := Lib.hid (show Below w.heap.size w (w.alloc (.cells #[.int .i64 d.x, .int .i64 d.y, .int .i64 d.z] 23)) by (repeat (first | (with_reducible exact Below.refl _ _) | (with_reducible assumption) | (with_reducible refine below_alloc ?_ _) | (with_reducible refine below_drewN ?_ _) | (with_reducible refine Below.drew ?_) | (with_reducible refine below_then ?_ (by with_reducible assumption)) | (with_reducible refine Below.setCell ?_ (by go_size) _)))); have BD := Lib.hid (Blk.new w 23 #[.int .i64 d.x, .int .i64 d.y, .int .i64 d.z]).dims)
    go_enter Try.func24, Try.ntmps24
    go_wp2_with fail
    (refine (HM.out _).mono ?_; rintro e w1 ⟨rfl, hb1⟩; (have BD := Lib.hid (BD.out.keep hb1 BD.out.lt); have HB := Lib.hid (below_then HB.out hb1)); clear hb1; (have hlt := BD.out.lt; obtain ⟨d0, d1, d2⟩ := BD.out; go_wp2_with fail; clear d0 d1 d2 hlt))
    (refine (HN.out _).mono ?_; rintro e w1 ⟨rfl, hb1⟩; (have BD := Lib.hid (BD.out.keep hb1 BD.out.lt); have HB := Lib.hid (below_then HB.out hb1)); clear hb1; (have hlt := BD.out.lt; obtain ⟨d0, d1, d2⟩ := BD.out; go_wp2_with fail; clear d0 d1 d2 hlt))
    go_returns
    exact ⟨rfl, HB.out⟩
  · have h1 : decide (l < 0) = false := decide_eq_false (by omega)
    have h2 : decide (3 * n ≤ l) = true := decide_eq_true (by omega)
    clear hl
    (have HB := Lib.hid (show Below w.heap.size w (w.alloc (.cells #[.int .i64 d.x, .int .i64 d.y, .int .i64 d.z] 23)) by (repeat (first | (with_reducible exact Below.refl _ _) | (with_reducible assumption) | (with_reducible refine below_alloc ?_ _) | (with_reducible refine below_drewN ?_ _) | (with_reducible refine Below.drew ?_) | (with_reducible refine below_then ?_ (by with_reducible assumption)) | (with_reducible refine Below.setCell ?_ (by go_size) _)))); have BD := Lib.hid (Blk.new w 23 #[.int .i64 d.x, .int .i64 d.y, .int .i64 d.z]).dims)
    go_enter Try.func24, Try.ntmps24
    go_wp2_with fail
    (refine (HM.out _).mono ?_; rintro e w1 ⟨rfl, hb1⟩; (have BD := Lib.hid (BD.out.keep hb1 BD.out.lt); have HB := Lib.hid (below_then HB.out hb1)); clear hb1; (have hlt := BD.out.lt; obtain ⟨d0, d1, d2⟩ := BD.out; go_wp2_with fail; clear d0 d1 d2 hlt))
    (refine (HN.out _).mono ?_; rintro e w1 ⟨rfl, hb1⟩; (have BD := Lib.hid (BD.out.keep hb1 BD.out.lt); have HB := Lib.hid (below_then HB.out hb1)); clear hb1; (have hlt := BD.out.lt; obtain ⟨d0, d1, d2⟩ := BD.out; go_wp2_with fail; clear d0 d1 d2 hlt))
    go_returns
    exact ⟨rfl, HB.out⟩
set_option maxRecDepth 100000 in set_option maxHeartbeats 4000000 in
theorem ref05_Ends_bad (d : V3) (l : Int) (w : World)
    (HM : RowKit.Hid (∀ W, Calls Try.prog 41 #[.agg #[.int .i64 d.x, .int .i64 d.y, .int .i64 d.z]] W (RB W (.bool false)))) :
    Calls Try.prog 24 #[.agg #[.int .i64 d.x, .int .i64 d.y, .int .i64 d.z], .int .i64 l] w (RB w (.tuple #[.int .i64 0, .int .i64 0, .int .i64 0, .int .i64 8])) := by
  (have HB := Lib.hid (show Below w.heap.size w (w.alloc (.cells #[.int .i64 d.x, .int .i64 d.y, .int .i64 d.z] 23)) by (repeat (first | (with_reducible exact Below.refl _ _) | (with_reducible assumption) | (with_reducible refine below_alloc ?_ _) | (with_reducible refine below_drewN ?_ _) | (with_reducible refine Below.drew ?_) | (with_reducible refine below_then ?_ (by with_reducible assumption)) | (with_reducible refine Below.setCell ?_ (by go_size) _)))); have BD := Lib.hid (Blk.new w 23 #[.int .i64 d.x, .int .i64 d.y, .int .i64 d.z]).dims)
  go_enter Try.func24, Try.ntmps24
  go_wp2_with fail
  (refine (HM.out _).mono ?_; rintro e w1 ⟨rfl, hb1⟩; (have BD := Lib.hid (BD.out.keep hb1 BD.out.lt); have HB := Lib.hid (below_then HB.out hb1)); clear hb1; (have hlt := BD.out.lt; obtain ⟨d0, d1, d2⟩ := BD.out; go_wp2_with fail; clear d0 d1 d2 hlt))
  go_returns
  exact ⟨rfl, HB.out⟩
theorem ref05_Ends (d : V3) (l : Int) (w : World) : Calls Try.prog 24 #[.agg #[.int .i64 d.x, .int .i64 d.y, .int .i64 d.z], .int .i64 l] w (RB w (.tuple #[.int .i64 (d.endA l), .int .i64 (d.endM l), .int .i64 (d.endT l), .int .i64 (d.endE l)])) := by
  by_cases hd : d.may
  · have HM := Lib.hid (fun W => Calls.rb_eq (ref01_May d W) (show Value.bool _ = .bool true by rw [decide_eq_true hd]))
    have HN := Lib.hid (fun W => ref01_N d W hd)
    have hn := V3.n_le hd
    by_cases hl : 0 ≤ l ∧ l < 3 * d.n
    · have a0 : 0 ≤ l / d.n := Int.ediv_nonneg hl.1 (by omega)
      have a1 : l / d.n < 3 := Int.ediv_lt_of_lt_mul (by omega) (by omega)
      have m0 : 0 ≤ l % d.n := Int.emod_nonneg _ (by omega)
      have m1 : l % d.n < d.n := Int.emod_lt_of_pos _ (by omega)
      have hE : d.endE l = if d.at (l / d.n).toNat = 1 then 6 else 0 := by rw [V3.endE, if_pos hd, if_pos hl]
      have hq : l / d.n = 0 ∨ l / d.n = 1 ∨ l / d.n = 2 := by omega
      have hm := Int.mul_ediv_add_emod l d.n
      have key : ∀ (k : Nat), l / d.n = k → Value.tuple #[.int .i64 (d.endA l), .int .i64 (d.endM l), .int .i64 (d.endT l), .int .i64 (d.endE l)] = if d.at k = 1 then .tuple #[.int .i64 0, .int .i64 0, .int .i64 0, .int .i64 6] else .tuple #[.int .i64 k, .int .i64 (l % d.n), .int .i64 (d.step (l % d.n) k 1), .int .i64 0] := by
        intro k hk
        rw [show (l / d.n).toNat = k by omega] at hE
        by_cases h1 : d.at k = 1
        · rw [if_pos h1] at hE ⊢
          rw [show d.endA l = 0 from if_neg (by omega), show d.endM l = 0 from if_neg (by omega), show d.endT l = 0 from if_neg (by omega), hE]
        · rw [if_neg h1] at hE ⊢
          rw [show d.endA l = l / d.n from if_pos hE, show d.endM l = l % d.n from if_pos hE, show d.endT l = d.step (l % d.n) (l / d.n).toNat 1 from if_pos hE, hE, show (l / d.n).toNat = k by omega, hk]
      rcases hq with hq | hq | hq
      · rw [key 0 hq]
        have hmk : l % d.n = l - 0 * d.n := by rw [hq] at hm; omega
        rw [hmk]
        exact ref05_Ends_0 d d.n l _ w hn hl.1 hl.2 hq HM HN (Lib.hid (fun W => by have := ref01_On d (l - 0 * d.n) 0 1 W hd (by omega) (by omega) (by decide) (by decide) (by decide); exact this))
      · rw [key 1 hq]
        have hmk : l % d.n = l - 1 * d.n := by rw [hq] at hm; omega
        rw [hmk]
        exact ref05_Ends_1 d d.n l _ w hn hl.1 hl.2 hq HM HN (Lib.hid (fun W => by have := ref01_On d (l - 1 * d.n) 1 1 W hd (by omega) (by omega) (by decide) (by decide) (by decide); exact this))
      · rw [key 2 hq]
        have hmk : l % d.n = l - 2 * d.n := by rw [hq] at hm; omega
        rw [hmk]
        exact ref05_Ends_2 d d.n l _ w hn hl.1 hl.2 hq HM HN (Lib.hid (fun W => by have := ref01_On d (l - 2 * d.n) 2 1 W hd (by omega) (by omega) (by decide) (by decide) (by decide); exact this))
    · have e2 : d.endE l = 2 := by rw [V3.endE, if_pos hd, if_neg hl]
      rw [show d.endA l = 0 from if_neg (by omega), show d.endM l = 0 from if_neg (by omega), show d.endT l = 0 from if_neg (by omega), e2]
      exact ref05_Ends_no d d.n l w hn hl HM HN
  · have e8 : d.endE l = 8 := by rw [V3.endE, if_neg hd]
    rw [show d.endA l = 0 from if_neg (by omega), show d.endM l = 0 from if_neg (by omega), show d.endT l = 0 from if_neg (by omega), e8]
    exact ref05_Ends_bad d l w (Lib.hid (fun W => Calls.rb_eq (ref01_May d W) (show Value.bool _ = .bool false by rw [decide_eq_false hd])))
end Go.Proofs.Ytpooieghlceefaa
