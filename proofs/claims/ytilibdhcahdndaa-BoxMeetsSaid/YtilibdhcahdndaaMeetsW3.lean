/- BoxMeets, walked: boxes that do not meet. -/
import Derived.Test.YtilibdhcahdndaaMeetsSays
namespace Go.Proofs.Ytilibdhcahdndaa
open Go.ChangeShapes Go.WideShapes Go.ChangeAt Go.RowKit Go.Shelf


set_option maxRecDepth 100000 in set_option maxHeartbeats 4000000 in
theorem law02_BoxMeets_f0 (d : V3) (a b p q : Bx) (n m : Int) (z1 z2 : Bool) (w : World) (h1 : SaysMeet d a b false 0) (h2 : SaysMeet d b a false 0) (h3 : SaysWithin d a b false 0) (h4 : SaysWithin d b a false 0) (h5 : SaysVol d a n 0) (h6 : SaysVol d b m 0) (h7 : SaysCanM d a p 0) (h8 : SaysCanM d b q 0)
    (g0 : SaysAx0 d a b false) (g1 : SaysAx1 d a b z1) (g2 : SaysAx2 d a b z2)  (hr : decide (p = q) = false) :
    Calls Try.prog 8 #[.agg #[.int .i64 d.x, .int .i64 d.y, .int .i64 d.z], .agg #[.int .i64 a.b.x, .int .i64 a.b.y, .int .i64 a.b.z, .int .i64 a.s.x, .int .i64 a.s.y, .int .i64 a.s.z], .agg #[.int .i64 b.b.x, .int .i64 b.b.y, .int .i64 b.b.z, .int .i64 b.s.x, .int .i64 b.s.y, .int .i64 b.s.z]] w (RB w (.bool true)) := by
  have H1 := Lib.hid h1
  have H2 := Lib.hid h2
  have H3 := Lib.hid h3
  have H4 := Lib.hid h4
  have H5 := Lib.hid h5
  have H6 := Lib.hid h6
  have H7 := Lib.hid h7
  have H8 := Lib.hid h8
  have G0 := Lib.hid g0
  have G1 := Lib.hid g1
  have G2 := Lib.hid g2
  have heq : ∀ w, (binOp .eql 39 (.agg #[.int .i64 p.b.x, .int .i64 p.b.y, .int .i64 p.b.z, .int .i64 p.s.x, .int .i64 p.s.y, .int .i64 p.s.z]) (.agg #[.int .i64 q.b.x, .int .i64 q.b.y, .int .i64 q.b.z, .int .i64 q.s.x, .int .i64 q.s.y, .int .i64 q.s.z])).run Try.prog w = .ok (.bool false) w := fun w => by rw [run_eql_box, hr]
  have hgd : Try.prog.eqGuardType Try.prog.depth 39 = false := by kernel_rfl
  clear h1 h2 h3 h4 h5 h6 h7 h8 g0 g1 g2 hr
  have HW : Below w.heap.size w (((w.alloc (.cells #[.int .i64 d.x, .int .i64 d.y, .int .i64 d.z] 37)).alloc (.cells #[.int .i64 a.b.x, .int .i64 a.b.y, .int .i64 a.b.z, .int .i64 a.s.x, .int .i64 a.s.y, .int .i64 a.s.z] 39)).alloc (.cells #[.int .i64 b.b.x, .int .i64 b.b.y, .int .i64 b.b.z, .int .i64 b.s.x, .int .i64 b.s.y, .int .i64 b.s.z] 39)) := by (repeat (first | (with_reducible exact Below.refl _ _) | (with_reducible assumption) | (with_reducible refine below_alloc ?_ _) | (with_reducible refine below_drewN ?_ _) | (with_reducible refine Below.drew ?_) | (with_reducible refine below_then ?_ (by with_reducible assumption)) | (with_reducible refine Below.setCell ?_ (by go_size) _)))
  have HF := Lib.hid HW
  have DD := Lib.hid ((((Blk.new w 37 #[.int .i64 d.x, .int .i64 d.y, .int .i64 d.z]).alloc (.cells #[.int .i64 a.b.x, .int .i64 a.b.y, .int .i64 a.b.z, .int .i64 a.s.x, .int .i64 a.s.y, .int .i64 a.s.z] 39)).alloc (.cells #[.int .i64 b.b.x, .int .i64 b.b.y, .int .i64 b.b.z, .int .i64 b.s.x, .int .i64 b.s.y, .int .i64 b.s.z] 39)).dims)
  have AA0 := ((Blk.new (w.alloc (.cells #[.int .i64 d.x, .int .i64 d.y, .int .i64 d.z] 37)) 39 #[.int .i64 a.b.x, .int .i64 a.b.y, .int .i64 a.b.z, .int .i64 a.s.x, .int .i64 a.s.y, .int .i64 a.s.z]).alloc (.cells #[.int .i64 b.b.x, .int .i64 b.b.y, .int .i64 b.b.z, .int .i64 b.s.x, .int .i64 b.s.y, .int .i64 b.s.z] 39)).box
  rw [World.size_alloc] at AA0
  have AA := Lib.hid AA0
  have BB0 := (Blk.new ((w.alloc (.cells #[.int .i64 d.x, .int .i64 d.y, .int .i64 d.z] 37)).alloc (.cells #[.int .i64 a.b.x, .int .i64 a.b.y, .int .i64 a.b.z, .int .i64 a.s.x, .int .i64 a.s.y, .int .i64 a.s.z] 39)) 39 #[.int .i64 b.b.x, .int .i64 b.b.y, .int .i64 b.b.z, .int .i64 b.s.x, .int .i64 b.s.y, .int .i64 b.s.z]).box
  rw [World.size_alloc, World.size_alloc] at BB0
  have BB := Lib.hid BB0
  clear HW AA0 BB0
  go_enter Try.func8, Try.ntmps8
  go_wp2_with fail
  refine (law02_alive _).mono ?_
  rintro e w0 ⟨rfl, hb1⟩
  (have HF := Lib.hid (below_then HF.out hb1); have DD := Lib.hid (DD.out.keep hb1 DD.out.lt); have AA := Lib.hid (AA.out.keep hb1 AA.out.lt); have BB := Lib.hid (BB.out.keep hb1 BB.out.lt))
  clear hb1
  (obtain ⟨d0, d1, d2⟩ := DD.out; obtain ⟨a0, a1, a2, a3, a4, a5⟩ := AA.out; obtain ⟨b0, b1, b2, b3, b4, b5⟩ := BB.out; have t0 := DD.out.lt; have t1 := AA.out.lt; have t2 := BB.out.lt)
  go_wp2_with fail
  (clear d0 d1 d2 a0 a1 a2 a3 a4 a5 b0 b1 b2 b3 b4 b5 t0 t1 t2)
  refine (H1.out _).mono ?_
  rintro e w1 ⟨rfl, hb1⟩
  (have HF := Lib.hid (below_then HF.out hb1); have DD := Lib.hid (DD.out.keep hb1 DD.out.lt); have AA := Lib.hid (AA.out.keep hb1 AA.out.lt); have BB := Lib.hid (BB.out.keep hb1 BB.out.lt))
  clear hb1
  (obtain ⟨d0, d1, d2⟩ := DD.out; obtain ⟨a0, a1, a2, a3, a4, a5⟩ := AA.out; obtain ⟨b0, b1, b2, b3, b4, b5⟩ := BB.out; have t0 := DD.out.lt; have t1 := AA.out.lt; have t2 := BB.out.lt)
  go_wp2_with fail
  (clear d0 d1 d2 a0 a1 a2 a3 a4 a5 b0 b1 b2 b3 b4 b5 t0 t1 t2)
  refine (H2.out _).mono ?_
  rintro e w2 ⟨rfl, hb1⟩
  (have HF := Lib.hid (below_then HF.out hb1); have DD := Lib.hid (DD.out.keep hb1 DD.out.lt); have AA := Lib.hid (AA.out.keep hb1 AA.out.lt); have BB := Lib.hid (BB.out.keep hb1 BB.out.lt))
  clear hb1
  (obtain ⟨d0, d1, d2⟩ := DD.out; obtain ⟨a0, a1, a2, a3, a4, a5⟩ := AA.out; obtain ⟨b0, b1, b2, b3, b4, b5⟩ := BB.out; have t0 := DD.out.lt; have t1 := AA.out.lt; have t2 := BB.out.lt)
  go_wp2_with fail
  (clear d0 d1 d2 a0 a1 a2 a3 a4 a5 b0 b1 b2 b3 b4 b5 t0 t1 t2)
  refine (H3.out _).mono ?_
  rintro e w3 ⟨rfl, hb1⟩
  (have HF := Lib.hid (below_then HF.out hb1); have DD := Lib.hid (DD.out.keep hb1 DD.out.lt); have AA := Lib.hid (AA.out.keep hb1 AA.out.lt); have BB := Lib.hid (BB.out.keep hb1 BB.out.lt))
  clear hb1
  (obtain ⟨d0, d1, d2⟩ := DD.out; obtain ⟨a0, a1, a2, a3, a4, a5⟩ := AA.out; obtain ⟨b0, b1, b2, b3, b4, b5⟩ := BB.out; have t0 := DD.out.lt; have t1 := AA.out.lt; have t2 := BB.out.lt)
  go_wp2_with fail
  (clear d0 d1 d2 a0 a1 a2 a3 a4 a5 b0 b1 b2 b3 b4 b5 t0 t1 t2)
  refine (H4.out _).mono ?_
  rintro e w4 ⟨rfl, hb1⟩
  (have HF := Lib.hid (below_then HF.out hb1); have DD := Lib.hid (DD.out.keep hb1 DD.out.lt); have AA := Lib.hid (AA.out.keep hb1 AA.out.lt); have BB := Lib.hid (BB.out.keep hb1 BB.out.lt))
  clear hb1
  (obtain ⟨d0, d1, d2⟩ := DD.out; obtain ⟨a0, a1, a2, a3, a4, a5⟩ := AA.out; obtain ⟨b0, b1, b2, b3, b4, b5⟩ := BB.out; have t0 := DD.out.lt; have t1 := AA.out.lt; have t2 := BB.out.lt)
  go_wp2_with fail
  (clear d0 d1 d2 a0 a1 a2 a3 a4 a5 b0 b1 b2 b3 b4 b5 t0 t1 t2)
  refine (H5.out _).mono ?_
  rintro e w5 ⟨rfl, hb1⟩
  (have HF := Lib.hid (below_then HF.out hb1); have DD := Lib.hid (DD.out.keep hb1 DD.out.lt); have AA := Lib.hid (AA.out.keep hb1 AA.out.lt); have BB := Lib.hid (BB.out.keep hb1 BB.out.lt))
  clear hb1
  (obtain ⟨d0, d1, d2⟩ := DD.out; obtain ⟨a0, a1, a2, a3, a4, a5⟩ := AA.out; obtain ⟨b0, b1, b2, b3, b4, b5⟩ := BB.out; have t0 := DD.out.lt; have t1 := AA.out.lt; have t2 := BB.out.lt)
  go_wp2_with fail
  (clear d0 d1 d2 a0 a1 a2 a3 a4 a5 b0 b1 b2 b3 b4 b5 t0 t1 t2)
  refine (H6.out _).mono ?_
  rintro e w6 ⟨rfl, hb1⟩
  (have HF := Lib.hid (below_then HF.out hb1); have DD := Lib.hid (DD.out.keep hb1 DD.out.lt); have AA := Lib.hid (AA.out.keep hb1 AA.out.lt); have BB := Lib.hid (BB.out.keep hb1 BB.out.lt))
  clear hb1
  (obtain ⟨d0, d1, d2⟩ := DD.out; obtain ⟨a0, a1, a2, a3, a4, a5⟩ := AA.out; obtain ⟨b0, b1, b2, b3, b4, b5⟩ := BB.out; have t0 := DD.out.lt; have t1 := AA.out.lt; have t2 := BB.out.lt)
  go_wp2_with fail
  (clear d0 d1 d2 a0 a1 a2 a3 a4 a5 b0 b1 b2 b3 b4 b5 t0 t1 t2)
  refine (H7.out _).mono ?_
  rintro e w7 ⟨rfl, hb1⟩
  (have HF := Lib.hid (below_then HF.out hb1); have DD := Lib.hid (DD.out.keep hb1 DD.out.lt); have AA := Lib.hid (AA.out.keep hb1 AA.out.lt); have BB := Lib.hid (BB.out.keep hb1 BB.out.lt))
  clear hb1
  have hb1 := below_alloc (Below.refl w7.heap.size w7) (.cells #[.int .i64 p.b.x, .int .i64 p.b.y, .int .i64 p.b.z, .int .i64 p.s.x, .int .i64 p.s.y, .int .i64 p.s.z] 39)
  (have HF := Lib.hid (below_then HF.out hb1); have DD := Lib.hid (DD.out.keep hb1 DD.out.lt); have AA := Lib.hid (AA.out.keep hb1 AA.out.lt); have BB := Lib.hid (BB.out.keep hb1 BB.out.lt))
  have CP := Lib.hid ((Blk.new w7 39 #[.int .i64 p.b.x, .int .i64 p.b.y, .int .i64 p.b.z, .int .i64 p.s.x, .int .i64 p.s.y, .int .i64 p.s.z]).box)
  clear hb1
  (obtain ⟨d0, d1, d2⟩ := DD.out; obtain ⟨a0, a1, a2, a3, a4, a5⟩ := AA.out; obtain ⟨b0, b1, b2, b3, b4, b5⟩ := BB.out; have t0 := DD.out.lt; have t1 := AA.out.lt; have t2 := BB.out.lt)
  go_wp2_with fail
  (clear d0 d1 d2 a0 a1 a2 a3 a4 a5 b0 b1 b2 b3 b4 b5 t0 t1 t2)
  refine (H8.out _).mono ?_
  rintro e w8 ⟨rfl, hb1⟩
  (have HF := Lib.hid (below_then HF.out hb1); have DD := Lib.hid (DD.out.keep hb1 DD.out.lt); have AA := Lib.hid (AA.out.keep hb1 AA.out.lt); have BB := Lib.hid (BB.out.keep hb1 BB.out.lt))
  (have CP := Lib.hid (CP.out.keep hb1 CP.out.lt))
  clear hb1
  have hb1 := below_alloc (Below.refl w8.heap.size w8) (.cells #[.int .i64 q.b.x, .int .i64 q.b.y, .int .i64 q.b.z, .int .i64 q.s.x, .int .i64 q.s.y, .int .i64 q.s.z] 39)
  (have HF := Lib.hid (below_then HF.out hb1); have DD := Lib.hid (DD.out.keep hb1 DD.out.lt); have AA := Lib.hid (AA.out.keep hb1 AA.out.lt); have BB := Lib.hid (BB.out.keep hb1 BB.out.lt))
  (have CP := Lib.hid (CP.out.keep hb1 CP.out.lt))
  have CQ := Lib.hid ((Blk.new w8 39 #[.int .i64 q.b.x, .int .i64 q.b.y, .int .i64 q.b.z, .int .i64 q.s.x, .int .i64 q.s.y, .int .i64 q.s.z]).box)
  clear hb1
  go_wp2_with fail
  generalize w8.alloc (.cells #[.int .i64 q.b.x, .int .i64 q.b.y, .int .i64 q.b.z, .int .i64 q.s.x, .int .i64 q.s.y, .int .i64 q.s.z] 39) = W8 at *
  refine wp_loop_rounds 4 ?_
  rw [rounds_succ]
  (obtain ⟨d0, d1, d2⟩ := DD.out; obtain ⟨a0, a1, a2, a3, a4, a5⟩ := AA.out; obtain ⟨b0, b1, b2, b3, b4, b5⟩ := BB.out; have t0 := DD.out.lt; have t1 := AA.out.lt; have t2 := BB.out.lt)
  (have t00 := Nat.lt_succ_of_lt t0; have t10 := Nat.lt_succ_of_lt t1; have t20 := Nat.lt_succ_of_lt t2; have t01 := Nat.lt_succ_of_lt t00; have t11 := Nat.lt_succ_of_lt t10; have t21 := Nat.lt_succ_of_lt t20; simp only [Nat.succ_eq_add_one] at t00 t10 t20 t01 t11 t21)
  go_wp2_with fail
  (clear d0 d1 d2 a0 a1 a2 a3 a4 a5 b0 b1 b2 b3 b4 b5 t0 t1 t2)
  clear t00 t10 t20 t01 t11 t21
  refine (G0.out _).mono ?_
  rintro e w9 ⟨rfl, hb1⟩
  have hb1 := below_then (w := W8) (below_alloc (below_alloc (below_alloc (Below.refl _ _) _) _) _) hb1
  (have HF := Lib.hid (below_then HF.out hb1); have DD := Lib.hid (DD.out.keep hb1 DD.out.lt); have AA := Lib.hid (AA.out.keep hb1 AA.out.lt); have BB := Lib.hid (BB.out.keep hb1 BB.out.lt))
  (have CP := Lib.hid (CP.out.keep hb1 CP.out.lt)); (have CQ := Lib.hid (CQ.out.keep hb1 CQ.out.lt))
  clear hb1
  (obtain ⟨d0, d1, d2⟩ := DD.out; obtain ⟨a0, a1, a2, a3, a4, a5⟩ := AA.out; obtain ⟨b0, b1, b2, b3, b4, b5⟩ := BB.out; have t0 := DD.out.lt; have t1 := AA.out.lt; have t2 := BB.out.lt)
  (have t00 := Nat.lt_succ_of_lt t0; have t10 := Nat.lt_succ_of_lt t1; have t20 := Nat.lt_succ_of_lt t2; have t01 := Nat.lt_succ_of_lt t00; have t11 := Nat.lt_succ_of_lt t10; have t21 := Nat.lt_succ_of_lt t20; simp only [Nat.succ_eq_add_one] at t00 t10 t20 t01 t11 t21)
  go_wp2_with fail
  rw [rounds_succ]
  go_wp2_with fail
  (clear d0 d1 d2 a0 a1 a2 a3 a4 a5 b0 b1 b2 b3 b4 b5 t0 t1 t2)
  clear t00 t10 t20 t01 t11 t21
  refine (G1.out _).mono ?_
  rintro e w10 ⟨rfl, hb1⟩
  have hb1 := below_then (w := w9) (below_alloc (below_alloc (below_alloc (Below.refl _ _) _) _) _) hb1
  (have HF := Lib.hid (below_then HF.out hb1); have DD := Lib.hid (DD.out.keep hb1 DD.out.lt); have AA := Lib.hid (AA.out.keep hb1 AA.out.lt); have BB := Lib.hid (BB.out.keep hb1 BB.out.lt))
  (have CP := Lib.hid (CP.out.keep hb1 CP.out.lt)); (have CQ := Lib.hid (CQ.out.keep hb1 CQ.out.lt))
  clear hb1
  (obtain ⟨d0, d1, d2⟩ := DD.out; obtain ⟨a0, a1, a2, a3, a4, a5⟩ := AA.out; obtain ⟨b0, b1, b2, b3, b4, b5⟩ := BB.out; have t0 := DD.out.lt; have t1 := AA.out.lt; have t2 := BB.out.lt)
  (have t00 := Nat.lt_succ_of_lt t0; have t10 := Nat.lt_succ_of_lt t1; have t20 := Nat.lt_succ_of_lt t2; have t01 := Nat.lt_succ_of_lt t00; have t11 := Nat.lt_succ_of_lt t10; have t21 := Nat.lt_succ_of_lt t20; simp only [Nat.succ_eq_add_one] at t00 t10 t20 t01 t11 t21)
  go_wp2_with fail
  rw [rounds_succ]
  go_wp2_with fail
  (clear d0 d1 d2 a0 a1 a2 a3 a4 a5 b0 b1 b2 b3 b4 b5 t0 t1 t2)
  clear t00 t10 t20 t01 t11 t21
  refine (G2.out _).mono ?_
  rintro e w11 ⟨rfl, hb1⟩
  have hb1 := below_then (w := w10) (below_alloc (below_alloc (below_alloc (Below.refl _ _) _) _) _) hb1
  (have HF := Lib.hid (below_then HF.out hb1); have DD := Lib.hid (DD.out.keep hb1 DD.out.lt); have AA := Lib.hid (AA.out.keep hb1 AA.out.lt); have BB := Lib.hid (BB.out.keep hb1 BB.out.lt))
  (have CP := Lib.hid (CP.out.keep hb1 CP.out.lt)); (have CQ := Lib.hid (CQ.out.keep hb1 CQ.out.lt))
  clear hb1
  (obtain ⟨d0, d1, d2⟩ := DD.out; obtain ⟨a0, a1, a2, a3, a4, a5⟩ := AA.out; obtain ⟨b0, b1, b2, b3, b4, b5⟩ := BB.out; have t0 := DD.out.lt; have t1 := AA.out.lt; have t2 := BB.out.lt)
  (have t00 := Nat.lt_succ_of_lt t0; have t10 := Nat.lt_succ_of_lt t1; have t20 := Nat.lt_succ_of_lt t2; have t01 := Nat.lt_succ_of_lt t00; have t11 := Nat.lt_succ_of_lt t10; have t21 := Nat.lt_succ_of_lt t20; simp only [Nat.succ_eq_add_one] at t00 t10 t20 t01 t11 t21)
  go_wp2_with fail
  rw [rounds_succ]
  (clear d0 d1 d2 a0 a1 a2 a3 a4 a5 b0 b1 b2 b3 b4 b5 t0 t1 t2)
  clear t00 t10 t20 t01 t11 t21
  obtain ⟨x0, x1, x2, x3, x4, x5⟩ := CP.out
  obtain ⟨y0, y1, y2, y3, y4, y5⟩ := CQ.out
  have t3 := CP.out.lt
  have t4 := CQ.out.lt
  go_wp2_with (first | (refine wp_region_quiet_lit (by kernel_rfl) (by kernel_rfl) ?_; (repeat (any_goals (first | go_big_quiet_step (fail) | quiet_step (fail) | (refine wpQuiet_step (fun K hK => ?_); go_simp; split <;> (refine hK _ ?_; clear hK K))))); all_goals (refine wpQuiet_nil ?_; intro _ hw'; obtain ⟨nq, hw''⟩ := hw'; subst hw'')))
  all_goals
    go_returns
    exact ⟨by first | rfl | simp, by first | exact HF.out | exact below_drewN HF.out _⟩

set_option maxRecDepth 100000 in set_option maxHeartbeats 4000000 in
theorem law02_BoxMeets_f1 (d : V3) (a b p q : Bx) (n m : Int) (z2 : Bool) (w : World) (h1 : SaysMeet d a b false 0) (h2 : SaysMeet d b a false 0) (h3 : SaysWithin d a b false 0) (h4 : SaysWithin d b a false 0) (h5 : SaysVol d a n 0) (h6 : SaysVol d b m 0) (h7 : SaysCanM d a p 0) (h8 : SaysCanM d b q 0)
    (g0 : SaysAx0 d a b true) (g1 : SaysAx1 d a b false) (g2 : SaysAx2 d a b z2)  (hr : decide (p = q) = false) :
    Calls Try.prog 8 #[.agg #[.int .i64 d.x, .int .i64 d.y, .int .i64 d.z], .agg #[.int .i64 a.b.x, .int .i64 a.b.y, .int .i64 a.b.z, .int .i64 a.s.x, .int .i64 a.s.y, .int .i64 a.s.z], .agg #[.int .i64 b.b.x, .int .i64 b.b.y, .int .i64 b.b.z, .int .i64 b.s.x, .int .i64 b.s.y, .int .i64 b.s.z]] w (RB w (.bool true)) := by
  have H1 := Lib.hid h1
  have H2 := Lib.hid h2
  have H3 := Lib.hid h3
  have H4 := Lib.hid h4
  have H5 := Lib.hid h5
  have H6 := Lib.hid h6
  have H7 := Lib.hid h7
  have H8 := Lib.hid h8
  have G0 := Lib.hid g0
  have G1 := Lib.hid g1
  have G2 := Lib.hid g2
  have heq : ∀ w, (binOp .eql 39 (.agg #[.int .i64 p.b.x, .int .i64 p.b.y, .int .i64 p.b.z, .int .i64 p.s.x, .int .i64 p.s.y, .int .i64 p.s.z]) (.agg #[.int .i64 q.b.x, .int .i64 q.b.y, .int .i64 q.b.z, .int .i64 q.s.x, .int .i64 q.s.y, .int .i64 q.s.z])).run Try.prog w = .ok (.bool false) w := fun w => by rw [run_eql_box, hr]
  have hgd : Try.prog.eqGuardType Try.prog.depth 39 = false := by kernel_rfl
  clear h1 h2 h3 h4 h5 h6 h7 h8 g0 g1 g2 hr
  have HW : Below w.heap.size w (((w.alloc (.cells #[.int .i64 d.x, .int .i64 d.y, .int .i64 d.z] 37)).alloc (.cells #[.int .i64 a.b.x, .int .i64 a.b.y, .int .i64 a.b.z, .int .i64 a.s.x, .int .i64 a.s.y, .int .i64 a.s.z] 39)).alloc (.cells #[.int .i64 b.b.x, .int .i64 b.b.y, .int .i64 b.b.z, .int .i64 b.s.x, .int .i64 b.s.y, .int .i64 b.s.z] 39)) := by (repeat (first | (with_reducible exact Below.refl _ _) | (with_reducible assumption) | (with_reducible refine below_alloc ?_ _) | (with_reducible refine below_drewN ?_ _) | (with_reducible refine Below.drew ?_) | (with_reducible refine below_then ?_ (by with_reducible assumption)) | (with_reducible refine Below.setCell ?_ (by go_size) _)))
  have HF := Lib.hid HW
  have DD := Lib.hid ((((Blk.new w 37 #[.int .i64 d.x, .int .i64 d.y, .int .i64 d.z]).alloc (.cells #[.int .i64 a.b.x, .int .i64 a.b.y, .int .i64 a.b.z, .int .i64 a.s.x, .int .i64 a.s.y, .int .i64 a.s.z] 39)).alloc (.cells #[.int .i64 b.b.x, .int .i64 b.b.y, .int .i64 b.b.z, .int .i64 b.s.x, .int .i64 b.s.y, .int .i64 b.s.z] 39)).dims)
  have AA0 := ((Blk.new (w.alloc (.cells #[.int .i64 d.x, .int .i64 d.y, .int .i64 d.z] 37)) 39 #[.int .i64 a.b.x, .int .i64 a.b.y, .int .i64 a.b.z, .int .i64 a.s.x, .int .i64 a.s.y, .int .i64 a.s.z]).alloc (.cells #[.int .i64 b.b.x, .int .i64 b.b.y, .int .i64 b.b.z, .int .i64 b.s.x, .int .i64 b.s.y, .int .i64 b.s.z] 39)).box
  rw [World.size_alloc] at AA0
  have AA := Lib.hid AA0
  have BB0 := (Blk.new ((w.alloc (.cells #[.int .i64 d.x, .int .i64 d.y, .int .i64 d.z] 37)).alloc (.cells #[.int .i64 a.b.x, .int .i64 a.b.y, .int .i64 a.b.z, .int .i64 a.s.x, .int .i64 a.s.y, .int .i64 a.s.z] 39)) 39 #[.int .i64 b.b.x, .int .i64 b.b.y, .int .i64 b.b.z, .int .i64 b.s.x, .int .i64 b.s.y, .int .i64 b.s.z]).box
  rw [World.size_alloc, World.size_alloc] at BB0
  have BB := Lib.hid BB0
  clear HW AA0 BB0
  go_enter Try.func8, Try.ntmps8
  go_wp2_with fail
  refine (law02_alive _).mono ?_
  rintro e w0 ⟨rfl, hb1⟩
  (have HF := Lib.hid (below_then HF.out hb1); have DD := Lib.hid (DD.out.keep hb1 DD.out.lt); have AA := Lib.hid (AA.out.keep hb1 AA.out.lt); have BB := Lib.hid (BB.out.keep hb1 BB.out.lt))
  clear hb1
  (obtain ⟨d0, d1, d2⟩ := DD.out; obtain ⟨a0, a1, a2, a3, a4, a5⟩ := AA.out; obtain ⟨b0, b1, b2, b3, b4, b5⟩ := BB.out; have t0 := DD.out.lt; have t1 := AA.out.lt; have t2 := BB.out.lt)
  go_wp2_with fail
  (clear d0 d1 d2 a0 a1 a2 a3 a4 a5 b0 b1 b2 b3 b4 b5 t0 t1 t2)
  refine (H1.out _).mono ?_
  rintro e w1 ⟨rfl, hb1⟩
  (have HF := Lib.hid (below_then HF.out hb1); have DD := Lib.hid (DD.out.keep hb1 DD.out.lt); have AA := Lib.hid (AA.out.keep hb1 AA.out.lt); have BB := Lib.hid (BB.out.keep hb1 BB.out.lt))
  clear hb1
  (obtain ⟨d0, d1, d2⟩ := DD.out; obtain ⟨a0, a1, a2, a3, a4, a5⟩ := AA.out; obtain ⟨b0, b1, b2, b3, b4, b5⟩ := BB.out; have t0 := DD.out.lt; have t1 := AA.out.lt; have t2 := BB.out.lt)
  go_wp2_with fail
  (clear d0 d1 d2 a0 a1 a2 a3 a4 a5 b0 b1 b2 b3 b4 b5 t0 t1 t2)
  refine (H2.out _).mono ?_
  rintro e w2 ⟨rfl, hb1⟩
  (have HF := Lib.hid (below_then HF.out hb1); have DD := Lib.hid (DD.out.keep hb1 DD.out.lt); have AA := Lib.hid (AA.out.keep hb1 AA.out.lt); have BB := Lib.hid (BB.out.keep hb1 BB.out.lt))
  clear hb1
  (obtain ⟨d0, d1, d2⟩ := DD.out; obtain ⟨a0, a1, a2, a3, a4, a5⟩ := AA.out; obtain ⟨b0, b1, b2, b3, b4, b5⟩ := BB.out; have t0 := DD.out.lt; have t1 := AA.out.lt; have t2 := BB.out.lt)
  go_wp2_with fail
  (clear d0 d1 d2 a0 a1 a2 a3 a4 a5 b0 b1 b2 b3 b4 b5 t0 t1 t2)
  refine (H3.out _).mono ?_
  rintro e w3 ⟨rfl, hb1⟩
  (have HF := Lib.hid (below_then HF.out hb1); have DD := Lib.hid (DD.out.keep hb1 DD.out.lt); have AA := Lib.hid (AA.out.keep hb1 AA.out.lt); have BB := Lib.hid (BB.out.keep hb1 BB.out.lt))
  clear hb1
  (obtain ⟨d0, d1, d2⟩ := DD.out; obtain ⟨a0, a1, a2, a3, a4, a5⟩ := AA.out; obtain ⟨b0, b1, b2, b3, b4, b5⟩ := BB.out; have t0 := DD.out.lt; have t1 := AA.out.lt; have t2 := BB.out.lt)
  go_wp2_with fail
  (clear d0 d1 d2 a0 a1 a2 a3 a4 a5 b0 b1 b2 b3 b4 b5 t0 t1 t2)
  refine (H4.out _).mono ?_
  rintro e w4 ⟨rfl, hb1⟩
  (have HF := Lib.hid (below_then HF.out hb1); have DD := Lib.hid (DD.out.keep hb1 DD.out.lt); have AA := Lib.hid (AA.out.keep hb1 AA.out.lt); have BB := Lib.hid (BB.out.keep hb1 BB.out.lt))
  clear hb1
  (obtain ⟨d0, d1, d2⟩ := DD.out; obtain ⟨a0, a1, a2, a3, a4, a5⟩ := AA.out; obtain ⟨b0, b1, b2, b3, b4, b5⟩ := BB.out; have t0 := DD.out.lt; have t1 := AA.out.lt; have t2 := BB.out.lt)
  go_wp2_with fail
  (clear d0 d1 d2 a0 a1 a2 a3 a4 a5 b0 b1 b2 b3 b4 b5 t0 t1 t2)
  refine (H5.out _).mono ?_
  rintro e w5 ⟨rfl, hb1⟩
  (have HF := Lib.hid (below_then HF.out hb1); have DD := Lib.hid (DD.out.keep hb1 DD.out.lt); have AA := Lib.hid (AA.out.keep hb1 AA.out.lt); have BB := Lib.hid (BB.out.keep hb1 BB.out.lt))
  clear hb1
  (obtain ⟨d0, d1, d2⟩ := DD.out; obtain ⟨a0, a1, a2, a3, a4, a5⟩ := AA.out; obtain ⟨b0, b1, b2, b3, b4, b5⟩ := BB.out; have t0 := DD.out.lt; have t1 := AA.out.lt; have t2 := BB.out.lt)
  go_wp2_with fail
  (clear d0 d1 d2 a0 a1 a2 a3 a4 a5 b0 b1 b2 b3 b4 b5 t0 t1 t2)
  refine (H6.out _).mono ?_
  rintro e w6 ⟨rfl, hb1⟩
  (have HF := Lib.hid (below_then HF.out hb1); have DD := Lib.hid (DD.out.keep hb1 DD.out.lt); have AA := Lib.hid (AA.out.keep hb1 AA.out.lt); have BB := Lib.hid (BB.out.keep hb1 BB.out.lt))
  clear hb1
  (obtain ⟨d0, d1, d2⟩ := DD.out; obtain ⟨a0, a1, a2, a3, a4, a5⟩ := AA.out; obtain ⟨b0, b1, b2, b3, b4, b5⟩ := BB.out; have t0 := DD.out.lt; have t1 := AA.out.lt; have t2 := BB.out.lt)
  go_wp2_with fail
  (clear d0 d1 d2 a0 a1 a2 a3 a4 a5 b0 b1 b2 b3 b4 b5 t0 t1 t2)
  refine (H7.out _).mono ?_
  rintro e w7 ⟨rfl, hb1⟩
  (have HF := Lib.hid (below_then HF.out hb1); have DD := Lib.hid (DD.out.keep hb1 DD.out.lt); have AA := Lib.hid (AA.out.keep hb1 AA.out.lt); have BB := Lib.hid (BB.out.keep hb1 BB.out.lt))
  clear hb1
  have hb1 := below_alloc (Below.refl w7.heap.size w7) (.cells #[.int .i64 p.b.x, .int .i64 p.b.y, .int .i64 p.b.z, .int .i64 p.s.x, .int .i64 p.s.y, .int .i64 p.s.z] 39)
  (have HF := Lib.hid (below_then HF.out hb1); have DD := Lib.hid (DD.out.keep hb1 DD.out.lt); have AA := Lib.hid (AA.out.keep hb1 AA.out.lt); have BB := Lib.hid (BB.out.keep hb1 BB.out.lt))
  have CP := Lib.hid ((Blk.new w7 39 #[.int .i64 p.b.x, .int .i64 p.b.y, .int .i64 p.b.z, .int .i64 p.s.x, .int .i64 p.s.y, .int .i64 p.s.z]).box)
  clear hb1
  (obtain ⟨d0, d1, d2⟩ := DD.out; obtain ⟨a0, a1, a2, a3, a4, a5⟩ := AA.out; obtain ⟨b0, b1, b2, b3, b4, b5⟩ := BB.out; have t0 := DD.out.lt; have t1 := AA.out.lt; have t2 := BB.out.lt)
  go_wp2_with fail
  (clear d0 d1 d2 a0 a1 a2 a3 a4 a5 b0 b1 b2 b3 b4 b5 t0 t1 t2)
  refine (H8.out _).mono ?_
  rintro e w8 ⟨rfl, hb1⟩
  (have HF := Lib.hid (below_then HF.out hb1); have DD := Lib.hid (DD.out.keep hb1 DD.out.lt); have AA := Lib.hid (AA.out.keep hb1 AA.out.lt); have BB := Lib.hid (BB.out.keep hb1 BB.out.lt))
  (have CP := Lib.hid (CP.out.keep hb1 CP.out.lt))
  clear hb1
  have hb1 := below_alloc (Below.refl w8.heap.size w8) (.cells #[.int .i64 q.b.x, .int .i64 q.b.y, .int .i64 q.b.z, .int .i64 q.s.x, .int .i64 q.s.y, .int .i64 q.s.z] 39)
  (have HF := Lib.hid (below_then HF.out hb1); have DD := Lib.hid (DD.out.keep hb1 DD.out.lt); have AA := Lib.hid (AA.out.keep hb1 AA.out.lt); have BB := Lib.hid (BB.out.keep hb1 BB.out.lt))
  (have CP := Lib.hid (CP.out.keep hb1 CP.out.lt))
  have CQ := Lib.hid ((Blk.new w8 39 #[.int .i64 q.b.x, .int .i64 q.b.y, .int .i64 q.b.z, .int .i64 q.s.x, .int .i64 q.s.y, .int .i64 q.s.z]).box)
  clear hb1
  go_wp2_with fail
  generalize w8.alloc (.cells #[.int .i64 q.b.x, .int .i64 q.b.y, .int .i64 q.b.z, .int .i64 q.s.x, .int .i64 q.s.y, .int .i64 q.s.z] 39) = W8 at *
  refine wp_loop_rounds 4 ?_
  rw [rounds_succ]
  (obtain ⟨d0, d1, d2⟩ := DD.out; obtain ⟨a0, a1, a2, a3, a4, a5⟩ := AA.out; obtain ⟨b0, b1, b2, b3, b4, b5⟩ := BB.out; have t0 := DD.out.lt; have t1 := AA.out.lt; have t2 := BB.out.lt)
  (have t00 := Nat.lt_succ_of_lt t0; have t10 := Nat.lt_succ_of_lt t1; have t20 := Nat.lt_succ_of_lt t2; have t01 := Nat.lt_succ_of_lt t00; have t11 := Nat.lt_succ_of_lt t10; have t21 := Nat.lt_succ_of_lt t20; simp only [Nat.succ_eq_add_one] at t00 t10 t20 t01 t11 t21)
  go_wp2_with fail
  (clear d0 d1 d2 a0 a1 a2 a3 a4 a5 b0 b1 b2 b3 b4 b5 t0 t1 t2)
  clear t00 t10 t20 t01 t11 t21
  refine (G0.out _).mono ?_
  rintro e w9 ⟨rfl, hb1⟩
  have hb1 := below_then (w := W8) (below_alloc (below_alloc (below_alloc (Below.refl _ _) _) _) _) hb1
  (have HF := Lib.hid (below_then HF.out hb1); have DD := Lib.hid (DD.out.keep hb1 DD.out.lt); have AA := Lib.hid (AA.out.keep hb1 AA.out.lt); have BB := Lib.hid (BB.out.keep hb1 BB.out.lt))
  (have CP := Lib.hid (CP.out.keep hb1 CP.out.lt)); (have CQ := Lib.hid (CQ.out.keep hb1 CQ.out.lt))
  clear hb1
  (obtain ⟨d0, d1, d2⟩ := DD.out; obtain ⟨a0, a1, a2, a3, a4, a5⟩ := AA.out; obtain ⟨b0, b1, b2, b3, b4, b5⟩ := BB.out; have t0 := DD.out.lt; have t1 := AA.out.lt; have t2 := BB.out.lt)
  (have t00 := Nat.lt_succ_of_lt t0; have t10 := Nat.lt_succ_of_lt t1; have t20 := Nat.lt_succ_of_lt t2; have t01 := Nat.lt_succ_of_lt t00; have t11 := Nat.lt_succ_of_lt t10; have t21 := Nat.lt_succ_of_lt t20; simp only [Nat.succ_eq_add_one] at t00 t10 t20 t01 t11 t21)
  go_wp2_with fail
  rw [rounds_succ]
  go_wp2_with fail
  (clear d0 d1 d2 a0 a1 a2 a3 a4 a5 b0 b1 b2 b3 b4 b5 t0 t1 t2)
  clear t00 t10 t20 t01 t11 t21
  refine (G1.out _).mono ?_
  rintro e w10 ⟨rfl, hb1⟩
  have hb1 := below_then (w := w9) (below_alloc (below_alloc (below_alloc (Below.refl _ _) _) _) _) hb1
  (have HF := Lib.hid (below_then HF.out hb1); have DD := Lib.hid (DD.out.keep hb1 DD.out.lt); have AA := Lib.hid (AA.out.keep hb1 AA.out.lt); have BB := Lib.hid (BB.out.keep hb1 BB.out.lt))
  (have CP := Lib.hid (CP.out.keep hb1 CP.out.lt)); (have CQ := Lib.hid (CQ.out.keep hb1 CQ.out.lt))
  clear hb1
  (obtain ⟨d0, d1, d2⟩ := DD.out; obtain ⟨a0, a1, a2, a3, a4, a5⟩ := AA.out; obtain ⟨b0, b1, b2, b3, b4, b5⟩ := BB.out; have t0 := DD.out.lt; have t1 := AA.out.lt; have t2 := BB.out.lt)
  (have t00 := Nat.lt_succ_of_lt t0; have t10 := Nat.lt_succ_of_lt t1; have t20 := Nat.lt_succ_of_lt t2; have t01 := Nat.lt_succ_of_lt t00; have t11 := Nat.lt_succ_of_lt t10; have t21 := Nat.lt_succ_of_lt t20; simp only [Nat.succ_eq_add_one] at t00 t10 t20 t01 t11 t21)
  go_wp2_with fail
  rw [rounds_succ]
  go_wp2_with fail
  (clear d0 d1 d2 a0 a1 a2 a3 a4 a5 b0 b1 b2 b3 b4 b5 t0 t1 t2)
  clear t00 t10 t20 t01 t11 t21
  refine (G2.out _).mono ?_
  rintro e w11 ⟨rfl, hb1⟩
  have hb1 := below_then (w := w10) (below_alloc (below_alloc (below_alloc (Below.refl _ _) _) _) _) hb1
  (have HF := Lib.hid (below_then HF.out hb1); have DD := Lib.hid (DD.out.keep hb1 DD.out.lt); have AA := Lib.hid (AA.out.keep hb1 AA.out.lt); have BB := Lib.hid (BB.out.keep hb1 BB.out.lt))
  (have CP := Lib.hid (CP.out.keep hb1 CP.out.lt)); (have CQ := Lib.hid (CQ.out.keep hb1 CQ.out.lt))
  clear hb1
  (obtain ⟨d0, d1, d2⟩ := DD.out; obtain ⟨a0, a1, a2, a3, a4, a5⟩ := AA.out; obtain ⟨b0, b1, b2, b3, b4, b5⟩ := BB.out; have t0 := DD.out.lt; have t1 := AA.out.lt; have t2 := BB.out.lt)
  (have t00 := Nat.lt_succ_of_lt t0; have t10 := Nat.lt_succ_of_lt t1; have t20 := Nat.lt_succ_of_lt t2; have t01 := Nat.lt_succ_of_lt t00; have t11 := Nat.lt_succ_of_lt t10; have t21 := Nat.lt_succ_of_lt t20; simp only [Nat.succ_eq_add_one] at t00 t10 t20 t01 t11 t21)
  go_wp2_with fail
  rw [rounds_succ]
  (clear d0 d1 d2 a0 a1 a2 a3 a4 a5 b0 b1 b2 b3 b4 b5 t0 t1 t2)
  clear t00 t10 t20 t01 t11 t21
  obtain ⟨x0, x1, x2, x3, x4, x5⟩ := CP.out
  obtain ⟨y0, y1, y2, y3, y4, y5⟩ := CQ.out
  have t3 := CP.out.lt
  have t4 := CQ.out.lt
  go_wp2_with (first | (refine wp_region_quiet_lit (by kernel_rfl) (by kernel_rfl) ?_; (repeat (any_goals (first | go_big_quiet_step (fail) | quiet_step (fail) | (refine wpQuiet_step (fun K hK => ?_); go_simp; split <;> (refine hK _ ?_; clear hK K))))); all_goals (refine wpQuiet_nil ?_; intro _ hw'; obtain ⟨nq, hw''⟩ := hw'; subst hw'')))
  all_goals
    go_returns
    exact ⟨by first | rfl | simp, by first | exact HF.out | exact below_drewN HF.out _⟩

set_option maxRecDepth 100000 in set_option maxHeartbeats 4000000 in
theorem law02_BoxMeets_f2 (d : V3) (a b p q : Bx) (n m : Int) (w : World) (h1 : SaysMeet d a b false 0) (h2 : SaysMeet d b a false 0) (h3 : SaysWithin d a b false 0) (h4 : SaysWithin d b a false 0) (h5 : SaysVol d a n 0) (h6 : SaysVol d b m 0) (h7 : SaysCanM d a p 0) (h8 : SaysCanM d b q 0)
    (g0 : SaysAx0 d a b true) (g1 : SaysAx1 d a b true) (g2 : SaysAx2 d a b false)  (hr : decide (p = q) = false) :
    Calls Try.prog 8 #[.agg #[.int .i64 d.x, .int .i64 d.y, .int .i64 d.z], .agg #[.int .i64 a.b.x, .int .i64 a.b.y, .int .i64 a.b.z, .int .i64 a.s.x, .int .i64 a.s.y, .int .i64 a.s.z], .agg #[.int .i64 b.b.x, .int .i64 b.b.y, .int .i64 b.b.z, .int .i64 b.s.x, .int .i64 b.s.y, .int .i64 b.s.z]] w (RB w (.bool true)) := by
  have H1 := Lib.hid h1
  have H2 := Lib.hid h2
  have H3 := Lib.hid h3
  have H4 := Lib.hid h4
  have H5 := Lib.hid h5
  have H6 := Lib.hid h6
  have H7 := Lib.hid h7
  have H8 := Lib.hid h8
  have G0 := Lib.hid g0
  have G1 := Lib.hid g1
  have G2 := Lib.hid g2
  have heq : ∀ w, (binOp .eql 39 (.agg #[.int .i64 p.b.x, .int .i64 p.b.y, .int .i64 p.b.z, .int .i64 p.s.x, .int .i64 p.s.y, .int .i64 p.s.z]) (.agg #[.int .i64 q.b.x, .int .i64 q.b.y, .int .i64 q.b.z, .int .i64 q.s.x, .int .i64 q.s.y, .int .i64 q.s.z])).run Try.prog w = .ok (.bool false) w := fun w => by rw [run_eql_box, hr]
  have hgd : Try.prog.eqGuardType Try.prog.depth 39 = false := by kernel_rfl
  clear h1 h2 h3 h4 h5 h6 h7 h8 g0 g1 g2 hr
  have HW : Below w.heap.size w (((w.alloc (.cells #[.int .i64 d.x, .int .i64 d.y, .int .i64 d.z] 37)).alloc (.cells #[.int .i64 a.b.x, .int .i64 a.b.y, .int .i64 a.b.z, .int .i64 a.s.x, .int .i64 a.s.y, .int .i64 a.s.z] 39)).alloc (.cells #[.int .i64 b.b.x, .int .i64 b.b.y, .int .i64 b.b.z, .int .i64 b.s.x, .int .i64 b.s.y, .int .i64 b.s.z] 39)) := by (repeat (first | (with_reducible exact Below.refl _ _) | (with_reducible assumption) | (with_reducible refine below_alloc ?_ _) | (with_reducible refine below_drewN ?_ _) | (with_reducible refine Below.drew ?_) | (with_reducible refine below_then ?_ (by with_reducible assumption)) | (with_reducible refine Below.setCell ?_ (by go_size) _)))
  have HF := Lib.hid HW
  have DD := Lib.hid ((((Blk.new w 37 #[.int .i64 d.x, .int .i64 d.y, .int .i64 d.z]).alloc (.cells #[.int .i64 a.b.x, .int .i64 a.b.y, .int .i64 a.b.z, .int .i64 a.s.x, .int .i64 a.s.y, .int .i64 a.s.z] 39)).alloc (.cells #[.int .i64 b.b.x, .int .i64 b.b.y, .int .i64 b.b.z, .int .i64 b.s.x, .int .i64 b.s.y, .int .i64 b.s.z] 39)).dims)
  have AA0 := ((Blk.new (w.alloc (.cells #[.int .i64 d.x, .int .i64 d.y, .int .i64 d.z] 37)) 39 #[.int .i64 a.b.x, .int .i64 a.b.y, .int .i64 a.b.z, .int .i64 a.s.x, .int .i64 a.s.y, .int .i64 a.s.z]).alloc (.cells #[.int .i64 b.b.x, .int .i64 b.b.y, .int .i64 b.b.z, .int .i64 b.s.x, .int .i64 b.s.y, .int .i64 b.s.z] 39)).box
  rw [World.size_alloc] at AA0
  have AA := Lib.hid AA0
  have BB0 := (Blk.new ((w.alloc (.cells #[.int .i64 d.x, .int .i64 d.y, .int .i64 d.z] 37)).alloc (.cells #[.int .i64 a.b.x, .int .i64 a.b.y, .int .i64 a.b.z, .int .i64 a.s.x, .int .i64 a.s.y, .int .i64 a.s.z] 39)) 39 #[.int .i64 b.b.x, .int .i64 b.b.y, .int .i64 b.b.z, .int .i64 b.s.x, .int .i64 b.s.y, .int .i64 b.s.z]).box
  rw [World.size_alloc, World.size_alloc] at BB0
  have BB := Lib.hid BB0
  clear HW AA0 BB0
  go_enter Try.func8, Try.ntmps8
  go_wp2_with fail
  refine (law02_alive _).mono ?_
  rintro e w0 ⟨rfl, hb1⟩
  (have HF := Lib.hid (below_then HF.out hb1); have DD := Lib.hid (DD.out.keep hb1 DD.out.lt); have AA := Lib.hid (AA.out.keep hb1 AA.out.lt); have BB := Lib.hid (BB.out.keep hb1 BB.out.lt))
  clear hb1
  (obtain ⟨d0, d1, d2⟩ := DD.out; obtain ⟨a0, a1, a2, a3, a4, a5⟩ := AA.out; obtain ⟨b0, b1, b2, b3, b4, b5⟩ := BB.out; have t0 := DD.out.lt; have t1 := AA.out.lt; have t2 := BB.out.lt)
  go_wp2_with fail
  (clear d0 d1 d2 a0 a1 a2 a3 a4 a5 b0 b1 b2 b3 b4 b5 t0 t1 t2)
  refine (H1.out _).mono ?_
  rintro e w1 ⟨rfl, hb1⟩
  (have HF := Lib.hid (below_then HF.out hb1); have DD := Lib.hid (DD.out.keep hb1 DD.out.lt); have AA := Lib.hid (AA.out.keep hb1 AA.out.lt); have BB := Lib.hid (BB.out.keep hb1 BB.out.lt))
  clear hb1
  (obtain ⟨d0, d1, d2⟩ := DD.out; obtain ⟨a0, a1, a2, a3, a4, a5⟩ := AA.out; obtain ⟨b0, b1, b2, b3, b4, b5⟩ := BB.out; have t0 := DD.out.lt; have t1 := AA.out.lt; have t2 := BB.out.lt)
  go_wp2_with fail
  (clear d0 d1 d2 a0 a1 a2 a3 a4 a5 b0 b1 b2 b3 b4 b5 t0 t1 t2)
  refine (H2.out _).mono ?_
  rintro e w2 ⟨rfl, hb1⟩
  (have HF := Lib.hid (below_then HF.out hb1); have DD := Lib.hid (DD.out.keep hb1 DD.out.lt); have AA := Lib.hid (AA.out.keep hb1 AA.out.lt); have BB := Lib.hid (BB.out.keep hb1 BB.out.lt))
  clear hb1
  (obtain ⟨d0, d1, d2⟩ := DD.out; obtain ⟨a0, a1, a2, a3, a4, a5⟩ := AA.out; obtain ⟨b0, b1, b2, b3, b4, b5⟩ := BB.out; have t0 := DD.out.lt; have t1 := AA.out.lt; have t2 := BB.out.lt)
  go_wp2_with fail
  (clear d0 d1 d2 a0 a1 a2 a3 a4 a5 b0 b1 b2 b3 b4 b5 t0 t1 t2)
  refine (H3.out _).mono ?_
  rintro e w3 ⟨rfl, hb1⟩
  (have HF := Lib.hid (below_then HF.out hb1); have DD := Lib.hid (DD.out.keep hb1 DD.out.lt); have AA := Lib.hid (AA.out.keep hb1 AA.out.lt); have BB := Lib.hid (BB.out.keep hb1 BB.out.lt))
  clear hb1
  (obtain ⟨d0, d1, d2⟩ := DD.out; obtain ⟨a0, a1, a2, a3, a4, a5⟩ := AA.out; obtain ⟨b0, b1, b2, b3, b4, b5⟩ := BB.out; have t0 := DD.out.lt; have t1 := AA.out.lt; have t2 := BB.out.lt)
  go_wp2_with fail
  (clear d0 d1 d2 a0 a1 a2 a3 a4 a5 b0 b1 b2 b3 b4 b5 t0 t1 t2)
  refine (H4.out _).mono ?_
  rintro e w4 ⟨rfl, hb1⟩
  (have HF := Lib.hid (below_then HF.out hb1); have DD := Lib.hid (DD.out.keep hb1 DD.out.lt); have AA := Lib.hid (AA.out.keep hb1 AA.out.lt); have BB := Lib.hid (BB.out.keep hb1 BB.out.lt))
  clear hb1
  (obtain ⟨d0, d1, d2⟩ := DD.out; obtain ⟨a0, a1, a2, a3, a4, a5⟩ := AA.out; obtain ⟨b0, b1, b2, b3, b4, b5⟩ := BB.out; have t0 := DD.out.lt; have t1 := AA.out.lt; have t2 := BB.out.lt)
  go_wp2_with fail
  (clear d0 d1 d2 a0 a1 a2 a3 a4 a5 b0 b1 b2 b3 b4 b5 t0 t1 t2)
  refine (H5.out _).mono ?_
  rintro e w5 ⟨rfl, hb1⟩
  (have HF := Lib.hid (below_then HF.out hb1); have DD := Lib.hid (DD.out.keep hb1 DD.out.lt); have AA := Lib.hid (AA.out.keep hb1 AA.out.lt); have BB := Lib.hid (BB.out.keep hb1 BB.out.lt))
  clear hb1
  (obtain ⟨d0, d1, d2⟩ := DD.out; obtain ⟨a0, a1, a2, a3, a4, a5⟩ := AA.out; obtain ⟨b0, b1, b2, b3, b4, b5⟩ := BB.out; have t0 := DD.out.lt; have t1 := AA.out.lt; have t2 := BB.out.lt)
  go_wp2_with fail
  (clear d0 d1 d2 a0 a1 a2 a3 a4 a5 b0 b1 b2 b3 b4 b5 t0 t1 t2)
  refine (H6.out _).mono ?_
  rintro e w6 ⟨rfl, hb1⟩
  (have HF := Lib.hid (below_then HF.out hb1); have DD := Lib.hid (DD.out.keep hb1 DD.out.lt); have AA := Lib.hid (AA.out.keep hb1 AA.out.lt); have BB := Lib.hid (BB.out.keep hb1 BB.out.lt))
  clear hb1
  (obtain ⟨d0, d1, d2⟩ := DD.out; obtain ⟨a0, a1, a2, a3, a4, a5⟩ := AA.out; obtain ⟨b0, b1, b2, b3, b4, b5⟩ := BB.out; have t0 := DD.out.lt; have t1 := AA.out.lt; have t2 := BB.out.lt)
  go_wp2_with fail
  (clear d0 d1 d2 a0 a1 a2 a3 a4 a5 b0 b1 b2 b3 b4 b5 t0 t1 t2)
  refine (H7.out _).mono ?_
  rintro e w7 ⟨rfl, hb1⟩
  (have HF := Lib.hid (below_then HF.out hb1); have DD := Lib.hid (DD.out.keep hb1 DD.out.lt); have AA := Lib.hid (AA.out.keep hb1 AA.out.lt); have BB := Lib.hid (BB.out.keep hb1 BB.out.lt))
  clear hb1
  have hb1 := below_alloc (Below.refl w7.heap.size w7) (.cells #[.int .i64 p.b.x, .int .i64 p.b.y, .int .i64 p.b.z, .int .i64 p.s.x, .int .i64 p.s.y, .int .i64 p.s.z] 39)
  (have HF := Lib.hid (below_then HF.out hb1); have DD := Lib.hid (DD.out.keep hb1 DD.out.lt); have AA := Lib.hid (AA.out.keep hb1 AA.out.lt); have BB := Lib.hid (BB.out.keep hb1 BB.out.lt))
  have CP := Lib.hid ((Blk.new w7 39 #[.int .i64 p.b.x, .int .i64 p.b.y, .int .i64 p.b.z, .int .i64 p.s.x, .int .i64 p.s.y, .int .i64 p.s.z]).box)
  clear hb1
  (obtain ⟨d0, d1, d2⟩ := DD.out; obtain ⟨a0, a1, a2, a3, a4, a5⟩ := AA.out; obtain ⟨b0, b1, b2, b3, b4, b5⟩ := BB.out; have t0 := DD.out.lt; have t1 := AA.out.lt; have t2 := BB.out.lt)
  go_wp2_with fail
  (clear d0 d1 d2 a0 a1 a2 a3 a4 a5 b0 b1 b2 b3 b4 b5 t0 t1 t2)
  refine (H8.out _).mono ?_
  rintro e w8 ⟨rfl, hb1⟩
  (have HF := Lib.hid (below_then HF.out hb1); have DD := Lib.hid (DD.out.keep hb1 DD.out.lt); have AA := Lib.hid (AA.out.keep hb1 AA.out.lt); have BB := Lib.hid (BB.out.keep hb1 BB.out.lt))
  (have CP := Lib.hid (CP.out.keep hb1 CP.out.lt))
  clear hb1
  have hb1 := below_alloc (Below.refl w8.heap.size w8) (.cells #[.int .i64 q.b.x, .int .i64 q.b.y, .int .i64 q.b.z, .int .i64 q.s.x, .int .i64 q.s.y, .int .i64 q.s.z] 39)
  (have HF := Lib.hid (below_then HF.out hb1); have DD := Lib.hid (DD.out.keep hb1 DD.out.lt); have AA := Lib.hid (AA.out.keep hb1 AA.out.lt); have BB := Lib.hid (BB.out.keep hb1 BB.out.lt))
  (have CP := Lib.hid (CP.out.keep hb1 CP.out.lt))
  have CQ := Lib.hid ((Blk.new w8 39 #[.int .i64 q.b.x, .int .i64 q.b.y, .int .i64 q.b.z, .int .i64 q.s.x, .int .i64 q.s.y, .int .i64 q.s.z]).box)
  clear hb1
  go_wp2_with fail
  generalize w8.alloc (.cells #[.int .i64 q.b.x, .int .i64 q.b.y, .int .i64 q.b.z, .int .i64 q.s.x, .int .i64 q.s.y, .int .i64 q.s.z] 39) = W8 at *
  refine wp_loop_rounds 4 ?_
  rw [rounds_succ]
  (obtain ⟨d0, d1, d2⟩ := DD.out; obtain ⟨a0, a1, a2, a3, a4, a5⟩ := AA.out; obtain ⟨b0, b1, b2, b3, b4, b5⟩ := BB.out; have t0 := DD.out.lt; have t1 := AA.out.lt; have t2 := BB.out.lt)
  (have t00 := Nat.lt_succ_of_lt t0; have t10 := Nat.lt_succ_of_lt t1; have t20 := Nat.lt_succ_of_lt t2; have t01 := Nat.lt_succ_of_lt t00; have t11 := Nat.lt_succ_of_lt t10; have t21 := Nat.lt_succ_of_lt t20; simp only [Nat.succ_eq_add_one] at t00 t10 t20 t01 t11 t21)
  go_wp2_with fail
  (clear d0 d1 d2 a0 a1 a2 a3 a4 a5 b0 b1 b2 b3 b4 b5 t0 t1 t2)
  clear t00 t10 t20 t01 t11 t21
  refine (G0.out _).mono ?_
  rintro e w9 ⟨rfl, hb1⟩
  have hb1 := below_then (w := W8) (below_alloc (below_alloc (below_alloc (Below.refl _ _) _) _) _) hb1
  (have HF := Lib.hid (below_then HF.out hb1); have DD := Lib.hid (DD.out.keep hb1 DD.out.lt); have AA := Lib.hid (AA.out.keep hb1 AA.out.lt); have BB := Lib.hid (BB.out.keep hb1 BB.out.lt))
  (have CP := Lib.hid (CP.out.keep hb1 CP.out.lt)); (have CQ := Lib.hid (CQ.out.keep hb1 CQ.out.lt))
  clear hb1
  (obtain ⟨d0, d1, d2⟩ := DD.out; obtain ⟨a0, a1, a2, a3, a4, a5⟩ := AA.out; obtain ⟨b0, b1, b2, b3, b4, b5⟩ := BB.out; have t0 := DD.out.lt; have t1 := AA.out.lt; have t2 := BB.out.lt)
  (have t00 := Nat.lt_succ_of_lt t0; have t10 := Nat.lt_succ_of_lt t1; have t20 := Nat.lt_succ_of_lt t2; have t01 := Nat.lt_succ_of_lt t00; have t11 := Nat.lt_succ_of_lt t10; have t21 := Nat.lt_succ_of_lt t20; simp only [Nat.succ_eq_add_one] at t00 t10 t20 t01 t11 t21)
  go_wp2_with fail
  rw [rounds_succ]
  go_wp2_with fail
  (clear d0 d1 d2 a0 a1 a2 a3 a4 a5 b0 b1 b2 b3 b4 b5 t0 t1 t2)
  clear t00 t10 t20 t01 t11 t21
  refine (G1.out _).mono ?_
  rintro e w10 ⟨rfl, hb1⟩
  have hb1 := below_then (w := w9) (below_alloc (below_alloc (below_alloc (Below.refl _ _) _) _) _) hb1
  (have HF := Lib.hid (below_then HF.out hb1); have DD := Lib.hid (DD.out.keep hb1 DD.out.lt); have AA := Lib.hid (AA.out.keep hb1 AA.out.lt); have BB := Lib.hid (BB.out.keep hb1 BB.out.lt))
  (have CP := Lib.hid (CP.out.keep hb1 CP.out.lt)); (have CQ := Lib.hid (CQ.out.keep hb1 CQ.out.lt))
  clear hb1
  (obtain ⟨d0, d1, d2⟩ := DD.out; obtain ⟨a0, a1, a2, a3, a4, a5⟩ := AA.out; obtain ⟨b0, b1, b2, b3, b4, b5⟩ := BB.out; have t0 := DD.out.lt; have t1 := AA.out.lt; have t2 := BB.out.lt)
  (have t00 := Nat.lt_succ_of_lt t0; have t10 := Nat.lt_succ_of_lt t1; have t20 := Nat.lt_succ_of_lt t2; have t01 := Nat.lt_succ_of_lt t00; have t11 := Nat.lt_succ_of_lt t10; have t21 := Nat.lt_succ_of_lt t20; simp only [Nat.succ_eq_add_one] at t00 t10 t20 t01 t11 t21)
  go_wp2_with fail
  rw [rounds_succ]
  go_wp2_with fail
  (clear d0 d1 d2 a0 a1 a2 a3 a4 a5 b0 b1 b2 b3 b4 b5 t0 t1 t2)
  clear t00 t10 t20 t01 t11 t21
  refine (G2.out _).mono ?_
  rintro e w11 ⟨rfl, hb1⟩
  have hb1 := below_then (w := w10) (below_alloc (below_alloc (below_alloc (Below.refl _ _) _) _) _) hb1
  (have HF := Lib.hid (below_then HF.out hb1); have DD := Lib.hid (DD.out.keep hb1 DD.out.lt); have AA := Lib.hid (AA.out.keep hb1 AA.out.lt); have BB := Lib.hid (BB.out.keep hb1 BB.out.lt))
  (have CP := Lib.hid (CP.out.keep hb1 CP.out.lt)); (have CQ := Lib.hid (CQ.out.keep hb1 CQ.out.lt))
  clear hb1
  (obtain ⟨d0, d1, d2⟩ := DD.out; obtain ⟨a0, a1, a2, a3, a4, a5⟩ := AA.out; obtain ⟨b0, b1, b2, b3, b4, b5⟩ := BB.out; have t0 := DD.out.lt; have t1 := AA.out.lt; have t2 := BB.out.lt)
  (have t00 := Nat.lt_succ_of_lt t0; have t10 := Nat.lt_succ_of_lt t1; have t20 := Nat.lt_succ_of_lt t2; have t01 := Nat.lt_succ_of_lt t00; have t11 := Nat.lt_succ_of_lt t10; have t21 := Nat.lt_succ_of_lt t20; simp only [Nat.succ_eq_add_one] at t00 t10 t20 t01 t11 t21)
  go_wp2_with fail
  rw [rounds_succ]
  (clear d0 d1 d2 a0 a1 a2 a3 a4 a5 b0 b1 b2 b3 b4 b5 t0 t1 t2)
  clear t00 t10 t20 t01 t11 t21
  obtain ⟨x0, x1, x2, x3, x4, x5⟩ := CP.out
  obtain ⟨y0, y1, y2, y3, y4, y5⟩ := CQ.out
  have t3 := CP.out.lt
  have t4 := CQ.out.lt
  go_wp2_with (first | (refine wp_region_quiet_lit (by kernel_rfl) (by kernel_rfl) ?_; (repeat (any_goals (first | go_big_quiet_step (fail) | quiet_step (fail) | (refine wpQuiet_step (fun K hK => ?_); go_simp; split <;> (refine hK _ ?_; clear hK K))))); all_goals (refine wpQuiet_nil ?_; intro _ hw'; obtain ⟨nq, hw''⟩ := hw'; subst hw'')))
  all_goals
    go_returns
    exact ⟨by first | rfl | simp, by first | exact HF.out | exact below_drewN HF.out _⟩
end Go.Proofs.Ytilibdhcahdndaa
