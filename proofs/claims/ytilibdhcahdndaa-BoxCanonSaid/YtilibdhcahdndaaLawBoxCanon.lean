/- BoxCanon: two boxes have the same midplanes just if their canonical boxes are the same; a canonical box is its own: the call returns true. -/
import Derived.Test.YtilibdhcahdndaaBoxCanLaw
import Derived.Test.YtilibdhcahdndaaBoxAlive
import Derived.Test.YtilibdhcahdndaaEqBox
import Derived.Test.YtilibdhcahdndaaRow
namespace Go.Proofs.Ytilibdhcahdndaa
open Go.ChangeShapes Go.WideShapes Go.ChangeAt Go.RowKit Go.Shelf

theorem Bx.all_lenC (d : V3) (b : Bx) (hd : d.may) : (b.all d).length ≤ 4096 := by
  have := V3.n_le hd
  have := List.length_filter_le (b.has d) ((List.range d.n.toNat).map (fun (j : Nat) => (j : Int)))
  simp only [List.length_map, List.length_range] at this
  unfold Bx.all Bx.upto
  omega

/-- What a call of Canon, of Nodes says of a box. -/
def SaysCan (d : V3) (b c : Bx) (e : Int) : Prop := ∀ W, Calls Try.prog 26 #[.agg #[.int .i64 d.x, .int .i64 d.y, .int .i64 d.z], .agg #[.int .i64 b.b.x, .int .i64 b.b.y, .int .i64 b.b.z, .int .i64 b.s.x, .int .i64 b.s.y, .int .i64 b.s.z]] W (RB W (.tuple #[.agg #[.int .i64 c.b.x, .int .i64 c.b.y, .int .i64 c.b.z, .int .i64 c.s.x, .int .i64 c.s.y, .int .i64 c.s.z], .int .i64 e]))
def SaysNodes (d : V3) (b : Bx) (l : List Int) (e : Int) : Prop := ∀ W, Calls Try.prog 27 #[.agg #[.int .i64 d.x, .int .i64 d.y, .int .i64 d.z], .agg #[.int .i64 b.b.x, .int .i64 b.b.y, .int .i64 b.b.z, .int .i64 b.s.x, .int .i64 b.s.y, .int .i64 b.s.z]] W (RIE W l e)

set_option maxRecDepth 100000 in set_option maxHeartbeats 4000000 in
theorem law02_BoxCanon_ok (d : V3) (a b x y : Bx) (l m : List Int) (r : Bool) (w : World) (h1 : SaysCan d a x 0) (h2 : SaysCan d b y 0) (h3 : SaysNodes d a l 0) (h4 : SaysNodes d b m 0) (h5 : SaysNodes d x l 0) (h6 : SaysCan d x x 0)
    (hl : l.length ≤ 4096) (hm : m.length ≤ 4096) (hr : decide (l = m) = r) (hr2 : decide (x = y) = r) :
    Calls Try.prog 5 #[.agg #[.int .i64 d.x, .int .i64 d.y, .int .i64 d.z], .agg #[.int .i64 a.b.x, .int .i64 a.b.y, .int .i64 a.b.z, .int .i64 a.s.x, .int .i64 a.s.y, .int .i64 a.s.z], .agg #[.int .i64 b.b.x, .int .i64 b.b.y, .int .i64 b.b.z, .int .i64 b.s.x, .int .i64 b.s.y, .int .i64 b.s.z]] w (RB w (.bool true)) := by
  have H1 := Lib.hid h1
  have H2 := Lib.hid h2
  have H3 := Lib.hid h3
  have H4 := Lib.hid h4
  have H5 := Lib.hid h5
  have H6 := Lib.hid h6
  have HR := Lib.hid hr
  have heq1 : ∀ w, (binOp .eql 39 (.agg #[.int .i64 x.b.x, .int .i64 x.b.y, .int .i64 x.b.z, .int .i64 x.s.x, .int .i64 x.s.y, .int .i64 x.s.z]) (.agg #[.int .i64 y.b.x, .int .i64 y.b.y, .int .i64 y.b.z, .int .i64 y.s.x, .int .i64 y.s.y, .int .i64 y.s.z])).run Try.prog w = .ok (.bool r) w := fun w => by rw [run_eql_box, hr2]
  have heq2 : ∀ w, (binOp .eql 39 (.agg #[.int .i64 x.b.x, .int .i64 x.b.y, .int .i64 x.b.z, .int .i64 x.s.x, .int .i64 x.s.y, .int .i64 x.s.z]) (.agg #[.int .i64 x.b.x, .int .i64 x.b.y, .int .i64 x.b.z, .int .i64 x.s.x, .int .i64 x.s.y, .int .i64 x.s.z])).run Try.prog w = .ok (.bool true) w := fun w => by rw [run_eql_box]; simp
  have hgd : Try.prog.eqGuardType Try.prog.depth 39 = false := by kernel_rfl
  clear h1 h2 h3 h4 h5 h6 hr hr2
  have HW : Below w.heap.size w (((w.alloc (.cells #[.int .i64 d.x, .int .i64 d.y, .int .i64 d.z] 37)).alloc (.cells #[.int .i64 a.b.x, .int .i64 a.b.y, .int .i64 a.b.z, .int .i64 a.s.x, .int .i64 a.s.y, .int .i64 a.s.z] 39)).alloc (.cells #[.int .i64 b.b.x, .int .i64 b.b.y, .int .i64 b.b.z, .int .i64 b.s.x, .int .i64 b.s.y, .int .i64 b.s.z] 39)) := by (repeat (first | (with_reducible exact Below.refl _ _) | (with_reducible assumption) | (with_reducible refine below_alloc ?_ _) | (with_reducible refine below_drewN ?_ _) | (with_reducible refine Below.drew ?_) | (with_reducible refine below_then ?_ (by with_reducible assumption)) | (with_reducible refine Below.setCell ?_ (by go_size) _)))
  have HF := Lib.hid HW
  have DD := Lib.hid ((((Blk.new w 37 #[.int .i64 d.x, .int .i64 d.y, .int .i64 d.z]).alloc (.cells #[.int .i64 a.b.x, .int .i64 a.b.y, .int .i64 a.b.z, .int .i64 a.s.x, .int .i64 a.s.y, .int .i64 a.s.z] 39)).alloc (.cells #[.int .i64 b.b.x, .int .i64 b.b.y, .int .i64 b.b.z, .int .i64 b.s.x, .int .i64 b.s.y, .int .i64 b.s.z] 39)).dims)
  have AA0 := ((Blk.new (w.alloc (.cells #[.int .i64 d.x, .int .i64 d.y, .int .i64 d.z] 37)) 39 #[.int .i64 a.b.x, .int .i64 a.b.y, .int .i64 a.b.z, .int .i64 a.s.x, .int .i64 a.s.y, .int .i64 a.s.z]).alloc (.cells #[.int .i64 b.b.x, .int .i64 b.b.y, .int .i64 b.b.z, .int .i64 b.s.x, .int .i64 b.s.y, .int .i64 b.s.z] 39)).box
  rw [World.size_alloc] at AA0
  have AA := Lib.hid AA0
  have BB0 := (Blk.new ((w.alloc (.cells #[.int .i64 d.x, .int .i64 d.y, .int .i64 d.z] 37)).alloc (.cells #[.int .i64 a.b.x, .int .i64 a.b.y, .int .i64 a.b.z, .int .i64 a.s.x, .int .i64 a.s.y, .int .i64 a.s.z] 39)) 39 #[.int .i64 b.b.x, .int .i64 b.b.y, .int .i64 b.b.z, .int .i64 b.s.x, .int .i64 b.s.y, .int .i64 b.s.z]).box
  rw [World.size_alloc, World.size_alloc] at BB0
  have BB := Lib.hid BB0
  clear HW AA0 BB0
  go_enter Try.func5, Try.ntmps5
  go_wp2_with fail
  refine (law02_alive _).mono ?_
  rintro e w0 ⟨rfl, hb1⟩
  (have HF := Lib.hid (below_then HF.out hb1); have DD := Lib.hid (DD.out.keep hb1 DD.out.lt); have AA := Lib.hid (AA.out.keep hb1 AA.out.lt); have BB := Lib.hid (BB.out.keep hb1 BB.out.lt))
  clear hb1
  (obtain ⟨d0, d1, d2⟩ := DD.out; obtain ⟨a0, a1, a2, a3, a4, a5⟩ := AA.out; obtain ⟨b0, b1, b2, b3, b4, b5⟩ := BB.out; have t0 := DD.out.lt; have t1 := AA.out.lt; have t2 := BB.out.lt)
  go_wp2_with fail
  (clear d0 d1 d2 a0 a1 a2 a3 a4 a5 b0 b1 b2 b3 b4 b5 t0 t1 t2)
  refine (H1.out _).mono ?_
  rintro e w1 ⟨rfl, hb1⟩
  (have HF := Lib.hid (below_then HF.out hb1); have DD := Lib.hid (DD.out.keep hb1 DD.out.lt); have AA := Lib.hid (AA.out.keep hb1 AA.out.lt); have BB := Lib.hid (BB.out.keep hb1 BB.out.lt))
  clear hb1
  have hb1 := below_alloc (Below.refl w1.heap.size w1) (.cells #[.int .i64 x.b.x, .int .i64 x.b.y, .int .i64 x.b.z, .int .i64 x.s.x, .int .i64 x.s.y, .int .i64 x.s.z] 39)
  (have HF := Lib.hid (below_then HF.out hb1); have DD := Lib.hid (DD.out.keep hb1 DD.out.lt); have AA := Lib.hid (AA.out.keep hb1 AA.out.lt); have BB := Lib.hid (BB.out.keep hb1 BB.out.lt))
  have CX := Lib.hid ((Blk.new w1 39 #[.int .i64 x.b.x, .int .i64 x.b.y, .int .i64 x.b.z, .int .i64 x.s.x, .int .i64 x.s.y, .int .i64 x.s.z]).box)
  clear hb1
  (obtain ⟨d0, d1, d2⟩ := DD.out; obtain ⟨a0, a1, a2, a3, a4, a5⟩ := AA.out; obtain ⟨b0, b1, b2, b3, b4, b5⟩ := BB.out; have t0 := DD.out.lt; have t1 := AA.out.lt; have t2 := BB.out.lt)
  go_wp2_with fail
  (clear d0 d1 d2 a0 a1 a2 a3 a4 a5 b0 b1 b2 b3 b4 b5 t0 t1 t2)
  refine (H2.out _).mono ?_
  rintro e w2 ⟨rfl, hb1⟩
  (have HF := Lib.hid (below_then HF.out hb1); have DD := Lib.hid (DD.out.keep hb1 DD.out.lt); have AA := Lib.hid (AA.out.keep hb1 AA.out.lt); have BB := Lib.hid (BB.out.keep hb1 BB.out.lt))
  (have CX := Lib.hid (CX.out.keep hb1 CX.out.lt))
  clear hb1
  have hb1 := below_alloc (Below.refl w2.heap.size w2) (.cells #[.int .i64 y.b.x, .int .i64 y.b.y, .int .i64 y.b.z, .int .i64 y.s.x, .int .i64 y.s.y, .int .i64 y.s.z] 39)
  (have HF := Lib.hid (below_then HF.out hb1); have DD := Lib.hid (DD.out.keep hb1 DD.out.lt); have AA := Lib.hid (AA.out.keep hb1 AA.out.lt); have BB := Lib.hid (BB.out.keep hb1 BB.out.lt))
  (have CX := Lib.hid (CX.out.keep hb1 CX.out.lt))
  have CY := Lib.hid ((Blk.new w2 39 #[.int .i64 y.b.x, .int .i64 y.b.y, .int .i64 y.b.z, .int .i64 y.s.x, .int .i64 y.s.y, .int .i64 y.s.z]).box)
  clear hb1
  (obtain ⟨d0, d1, d2⟩ := DD.out; obtain ⟨a0, a1, a2, a3, a4, a5⟩ := AA.out; obtain ⟨b0, b1, b2, b3, b4, b5⟩ := BB.out; have t0 := DD.out.lt; have t1 := AA.out.lt; have t2 := BB.out.lt)
  go_wp2_with fail
  (clear d0 d1 d2 a0 a1 a2 a3 a4 a5 b0 b1 b2 b3 b4 b5 t0 t1 t2)
  refine (H3.out _).mono ?_
  rintro e w3 ⟨v3, rfl, q3, hb1⟩
  obtain ⟨b3, k3, rfl, s3, _⟩ := list_of_own q3 (by omega)
  have L1 := Lib.hid s3
  (have HF := Lib.hid (below_then HF.out hb1); have DD := Lib.hid (DD.out.keep hb1 DD.out.lt); have AA := Lib.hid (AA.out.keep hb1 AA.out.lt); have BB := Lib.hid (BB.out.keep hb1 BB.out.lt))
  (have CX := Lib.hid (CX.out.keep hb1 CX.out.lt)); (have CY := Lib.hid (CY.out.keep hb1 CY.out.lt))
  clear hb1 q3 s3
  (obtain ⟨d0, d1, d2⟩ := DD.out; obtain ⟨a0, a1, a2, a3, a4, a5⟩ := AA.out; obtain ⟨b0, b1, b2, b3, b4, b5⟩ := BB.out; have t0 := DD.out.lt; have t1 := AA.out.lt; have t2 := BB.out.lt)
  go_wp2_with fail
  (clear d0 d1 d2 a0 a1 a2 a3 a4 a5 b0 b1 b2 b3 b4 b5 t0 t1 t2)
  refine (H4.out _).mono ?_
  rintro e w4 ⟨v4, rfl, q4, hb1⟩
  obtain ⟨b4, k4, rfl, s4, _⟩ := list_of_own q4 (by omega)
  have L2 := Lib.hid s4
  (have HF := Lib.hid (below_then HF.out hb1); have DD := Lib.hid (DD.out.keep hb1 DD.out.lt); have AA := Lib.hid (AA.out.keep hb1 AA.out.lt); have BB := Lib.hid (BB.out.keep hb1 BB.out.lt))
  (have CX := Lib.hid (CX.out.keep hb1 CX.out.lt)); (have CY := Lib.hid (CY.out.keep hb1 CY.out.lt)); (have L1 := Lib.hid (L1.out.keep hb1))
  clear hb1 q4 s4
  obtain ⟨x0, x1, x2, x3, x4, x5⟩ := CX.out
  have t3 := CX.out.lt
  (obtain ⟨d0, d1, d2⟩ := DD.out; obtain ⟨a0, a1, a2, a3, a4, a5⟩ := AA.out; obtain ⟨b0, b1, b2, b3, b4, b5⟩ := BB.out; have t0 := DD.out.lt; have t1 := AA.out.lt; have t2 := BB.out.lt)
  go_wp2_with fail
  (clear d0 d1 d2 a0 a1 a2 a3 a4 a5 b0 b1 b2 b3 b4 b5 t0 t1 t2)
  refine (H5.out _).mono ?_
  clear x0 x1 x2 x3 x4 x5 t3
  rintro e w5 ⟨v5, rfl, q5, hb1⟩
  obtain ⟨b5', k5, rfl, s5, _⟩ := list_of_own q5 (by omega)
  have L3 := Lib.hid s5
  (have HF := Lib.hid (below_then HF.out hb1); have DD := Lib.hid (DD.out.keep hb1 DD.out.lt); have AA := Lib.hid (AA.out.keep hb1 AA.out.lt); have BB := Lib.hid (BB.out.keep hb1 BB.out.lt))
  (have CX := Lib.hid (CX.out.keep hb1 CX.out.lt)); (have CY := Lib.hid (CY.out.keep hb1 CY.out.lt)); (have L1 := Lib.hid (L1.out.keep hb1)); (have L2 := Lib.hid (L2.out.keep hb1))
  clear hb1 q5 s5
  obtain ⟨x0, x1, x2, x3, x4, x5⟩ := CX.out
  have t3 := CX.out.lt
  (obtain ⟨d0, d1, d2⟩ := DD.out; obtain ⟨a0, a1, a2, a3, a4, a5⟩ := AA.out; obtain ⟨b0, b1, b2, b3, b4, b5⟩ := BB.out; have t0 := DD.out.lt; have t1 := AA.out.lt; have t2 := BB.out.lt)
  go_wp2_with fail
  (clear d0 d1 d2 a0 a1 a2 a3 a4 a5 b0 b1 b2 b3 b4 b5 t0 t1 t2)
  refine (H6.out _).mono ?_
  clear x0 x1 x2 x3 x4 x5 t3
  rintro e w6 ⟨rfl, hb1⟩
  (have HF := Lib.hid (below_then HF.out hb1); have DD := Lib.hid (DD.out.keep hb1 DD.out.lt); have AA := Lib.hid (AA.out.keep hb1 AA.out.lt); have BB := Lib.hid (BB.out.keep hb1 BB.out.lt))
  (have CX := Lib.hid (CX.out.keep hb1 CX.out.lt)); (have CY := Lib.hid (CY.out.keep hb1 CY.out.lt)); (have L1 := Lib.hid (L1.out.keep hb1)); (have L2 := Lib.hid (L2.out.keep hb1)); (have L3 := Lib.hid (L3.out.keep hb1))
  clear hb1
  have hb1 := below_alloc (Below.refl w6.heap.size w6) (.cells #[.int .i64 x.b.x, .int .i64 x.b.y, .int .i64 x.b.z, .int .i64 x.s.x, .int .i64 x.s.y, .int .i64 x.s.z] 39)
  (have HF := Lib.hid (below_then HF.out hb1); have DD := Lib.hid (DD.out.keep hb1 DD.out.lt); have AA := Lib.hid (AA.out.keep hb1 AA.out.lt); have BB := Lib.hid (BB.out.keep hb1 BB.out.lt))
  (have CX := Lib.hid (CX.out.keep hb1 CX.out.lt)); (have CY := Lib.hid (CY.out.keep hb1 CY.out.lt)); (have L1 := Lib.hid (L1.out.keep hb1)); (have L2 := Lib.hid (L2.out.keep hb1)); (have L3 := Lib.hid (L3.out.keep hb1))
  have CZ := Lib.hid ((Blk.new w6 39 #[.int .i64 x.b.x, .int .i64 x.b.y, .int .i64 x.b.z, .int .i64 x.s.x, .int .i64 x.s.y, .int .i64 x.s.z]).box)
  clear hb1
  obtain ⟨x0, x1, x2, x3, x4, x5⟩ := CX.out
  obtain ⟨y0, y1, y2, y3, y4, y5⟩ := CY.out
  obtain ⟨z0, z1, z2, z3, z4, z5⟩ := CZ.out
  have t3 := CX.out.lt
  have t4 := CY.out.lt
  have t5 := CZ.out.lt
  rw [World.size_alloc] at t3 t4 t5
  go_wp2_with fail
  have I1 := Lib.hid (fun x => Calls.aft_of (x := x) (Calls.rb_eq (ref02_Ints b3 b4 k3 k4 l m x.to (L1.out.keep x.h) (L2.out.keep x.h)) (congrArg Value.bool HR.out)))
  have I2 := Lib.hid (fun x => Calls.aft_of (x := x) (Calls.rb_eq (ref02_Ints b3 b5' k3 k5 l l x.to (L1.out.keep x.h) (L3.out.keep x.h)) (show Value.bool (decide (l = l)) = .bool true by simp)))
  (refine wp_region_aft (by kernel_rfl) (by kernel_rfl) ?_; (repeat (any_goals (first | go_big_quiet_step ((first | (go_at_call 28; with_reducible exact I1.out _) | (go_at_call 28; with_reducible exact I2.out _))) | quiet_step ((first | (go_at_call 28; with_reducible exact I1.out _) | (go_at_call 28; with_reducible exact I2.out _))) | (refine wpQuiet_step (fun K hK => ?_); go_simp; split <;> (refine hK _ ?_; clear hK K))))); all_goals (refine wpQuiet_nil ?_; intro wq hw'; obtain ⟨x1, hx1⟩ := hw'; have hbq := x1.h; rw [← hx1] at hbq; clear hx1 x1))
  go_wp2_with fail
  go_returns
  exact ⟨rfl, below_then HF.out hbq⟩

set_option maxRecDepth 100000 in set_option maxHeartbeats 4000000 in
theorem law02_BoxCanon_err1 (d : V3) (a b x y : Bx) (e f : Int) (w : World) (h1 : SaysCan d a x e) (h2 : SaysCan d b y f) (he : (e != 0) = true) :
    Calls Try.prog 5 #[.agg #[.int .i64 d.x, .int .i64 d.y, .int .i64 d.z], .agg #[.int .i64 a.b.x, .int .i64 a.b.y, .int .i64 a.b.z, .int .i64 a.s.x, .int .i64 a.s.y, .int .i64 a.s.z], .agg #[.int .i64 b.b.x, .int .i64 b.b.y, .int .i64 b.b.z, .int .i64 b.s.x, .int .i64 b.s.y, .int .i64 b.s.z]] w (RB w (.bool true)) := by
  have H1 := Lib.hid h1
  have H2 := Lib.hid h2
  clear h1 h2
  have HW : Below w.heap.size w (((w.alloc (.cells #[.int .i64 d.x, .int .i64 d.y, .int .i64 d.z] 37)).alloc (.cells #[.int .i64 a.b.x, .int .i64 a.b.y, .int .i64 a.b.z, .int .i64 a.s.x, .int .i64 a.s.y, .int .i64 a.s.z] 39)).alloc (.cells #[.int .i64 b.b.x, .int .i64 b.b.y, .int .i64 b.b.z, .int .i64 b.s.x, .int .i64 b.s.y, .int .i64 b.s.z] 39)) := by (repeat (first | (with_reducible exact Below.refl _ _) | (with_reducible assumption) | (with_reducible refine below_alloc ?_ _) | (with_reducible refine below_drewN ?_ _) | (with_reducible refine Below.drew ?_) | (with_reducible refine below_then ?_ (by with_reducible assumption)) | (with_reducible refine Below.setCell ?_ (by go_size) _)))
  have HF := Lib.hid HW
  have DD := Lib.hid ((((Blk.new w 37 #[.int .i64 d.x, .int .i64 d.y, .int .i64 d.z]).alloc (.cells #[.int .i64 a.b.x, .int .i64 a.b.y, .int .i64 a.b.z, .int .i64 a.s.x, .int .i64 a.s.y, .int .i64 a.s.z] 39)).alloc (.cells #[.int .i64 b.b.x, .int .i64 b.b.y, .int .i64 b.b.z, .int .i64 b.s.x, .int .i64 b.s.y, .int .i64 b.s.z] 39)).dims)
  have AA0 := ((Blk.new (w.alloc (.cells #[.int .i64 d.x, .int .i64 d.y, .int .i64 d.z] 37)) 39 #[.int .i64 a.b.x, .int .i64 a.b.y, .int .i64 a.b.z, .int .i64 a.s.x, .int .i64 a.s.y, .int .i64 a.s.z]).alloc (.cells #[.int .i64 b.b.x, .int .i64 b.b.y, .int .i64 b.b.z, .int .i64 b.s.x, .int .i64 b.s.y, .int .i64 b.s.z] 39)).box
  rw [World.size_alloc] at AA0
  have AA := Lib.hid AA0
  have BB0 := (Blk.new ((w.alloc (.cells #[.int .i64 d.x, .int .i64 d.y, .int .i64 d.z] 37)).alloc (.cells #[.int .i64 a.b.x, .int .i64 a.b.y, .int .i64 a.b.z, .int .i64 a.s.x, .int .i64 a.s.y, .int .i64 a.s.z] 39)) 39 #[.int .i64 b.b.x, .int .i64 b.b.y, .int .i64 b.b.z, .int .i64 b.s.x, .int .i64 b.s.y, .int .i64 b.s.z]).box
  rw [World.size_alloc, World.size_alloc] at BB0
  have BB := Lib.hid BB0
  clear HW AA0 BB0
  go_enter Try.func5, Try.ntmps5
  go_wp2_with fail
  refine (law02_alive _).mono ?_
  rintro e w0 ⟨rfl, hb1⟩
  (have HF := Lib.hid (below_then HF.out hb1); have DD := Lib.hid (DD.out.keep hb1 DD.out.lt); have AA := Lib.hid (AA.out.keep hb1 AA.out.lt); have BB := Lib.hid (BB.out.keep hb1 BB.out.lt))
  clear hb1
  (obtain ⟨d0, d1, d2⟩ := DD.out; obtain ⟨a0, a1, a2, a3, a4, a5⟩ := AA.out; obtain ⟨b0, b1, b2, b3, b4, b5⟩ := BB.out; have t0 := DD.out.lt; have t1 := AA.out.lt; have t2 := BB.out.lt)
  go_wp2_with fail
  (clear d0 d1 d2 a0 a1 a2 a3 a4 a5 b0 b1 b2 b3 b4 b5 t0 t1 t2)
  refine (H1.out _).mono ?_
  rintro e1 w1 ⟨rfl, hb1⟩
  (have HF := Lib.hid (below_then HF.out hb1); have DD := Lib.hid (DD.out.keep hb1 DD.out.lt); have AA := Lib.hid (AA.out.keep hb1 AA.out.lt); have BB := Lib.hid (BB.out.keep hb1 BB.out.lt))
  clear hb1
  have hb1 := below_alloc (Below.refl w1.heap.size w1) (.cells #[.int .i64 x.b.x, .int .i64 x.b.y, .int .i64 x.b.z, .int .i64 x.s.x, .int .i64 x.s.y, .int .i64 x.s.z] 39)
  (have HF := Lib.hid (below_then HF.out hb1); have DD := Lib.hid (DD.out.keep hb1 DD.out.lt); have AA := Lib.hid (AA.out.keep hb1 AA.out.lt); have BB := Lib.hid (BB.out.keep hb1 BB.out.lt))
  clear hb1
  (obtain ⟨d0, d1, d2⟩ := DD.out; obtain ⟨a0, a1, a2, a3, a4, a5⟩ := AA.out; obtain ⟨b0, b1, b2, b3, b4, b5⟩ := BB.out; have t0 := DD.out.lt; have t1 := AA.out.lt; have t2 := BB.out.lt)
  go_wp2_with fail
  (clear d0 d1 d2 a0 a1 a2 a3 a4 a5 b0 b1 b2 b3 b4 b5 t0 t1 t2)
  refine (H2.out _).mono ?_
  rintro e2 w2 ⟨rfl, hb1⟩
  (have HF := Lib.hid (below_then HF.out hb1); have DD := Lib.hid (DD.out.keep hb1 DD.out.lt); have AA := Lib.hid (AA.out.keep hb1 AA.out.lt); have BB := Lib.hid (BB.out.keep hb1 BB.out.lt))
  clear hb1
  go_wp2_with fail
  all_goals
    go_returns
    exact ⟨rfl, below_alloc HF.out _⟩

set_option maxRecDepth 100000 in set_option maxHeartbeats 4000000 in
theorem law02_BoxCanon_err2 (d : V3) (a b x y : Bx) (f : Int) (w : World) (h1 : SaysCan d a x 0) (h2 : SaysCan d b y f) (he : (f != 0) = true) :
    Calls Try.prog 5 #[.agg #[.int .i64 d.x, .int .i64 d.y, .int .i64 d.z], .agg #[.int .i64 a.b.x, .int .i64 a.b.y, .int .i64 a.b.z, .int .i64 a.s.x, .int .i64 a.s.y, .int .i64 a.s.z], .agg #[.int .i64 b.b.x, .int .i64 b.b.y, .int .i64 b.b.z, .int .i64 b.s.x, .int .i64 b.s.y, .int .i64 b.s.z]] w (RB w (.bool true)) := by
  have H1 := Lib.hid h1
  have H2 := Lib.hid h2
  clear h1 h2
  have HW : Below w.heap.size w (((w.alloc (.cells #[.int .i64 d.x, .int .i64 d.y, .int .i64 d.z] 37)).alloc (.cells #[.int .i64 a.b.x, .int .i64 a.b.y, .int .i64 a.b.z, .int .i64 a.s.x, .int .i64 a.s.y, .int .i64 a.s.z] 39)).alloc (.cells #[.int .i64 b.b.x, .int .i64 b.b.y, .int .i64 b.b.z, .int .i64 b.s.x, .int .i64 b.s.y, .int .i64 b.s.z] 39)) := by (repeat (first | (with_reducible exact Below.refl _ _) | (with_reducible assumption) | (with_reducible refine below_alloc ?_ _) | (with_reducible refine below_drewN ?_ _) | (with_reducible refine Below.drew ?_) | (with_reducible refine below_then ?_ (by with_reducible assumption)) | (with_reducible refine Below.setCell ?_ (by go_size) _)))
  have HF := Lib.hid HW
  have DD := Lib.hid ((((Blk.new w 37 #[.int .i64 d.x, .int .i64 d.y, .int .i64 d.z]).alloc (.cells #[.int .i64 a.b.x, .int .i64 a.b.y, .int .i64 a.b.z, .int .i64 a.s.x, .int .i64 a.s.y, .int .i64 a.s.z] 39)).alloc (.cells #[.int .i64 b.b.x, .int .i64 b.b.y, .int .i64 b.b.z, .int .i64 b.s.x, .int .i64 b.s.y, .int .i64 b.s.z] 39)).dims)
  have AA0 := ((Blk.new (w.alloc (.cells #[.int .i64 d.x, .int .i64 d.y, .int .i64 d.z] 37)) 39 #[.int .i64 a.b.x, .int .i64 a.b.y, .int .i64 a.b.z, .int .i64 a.s.x, .int .i64 a.s.y, .int .i64 a.s.z]).alloc (.cells #[.int .i64 b.b.x, .int .i64 b.b.y, .int .i64 b.b.z, .int .i64 b.s.x, .int .i64 b.s.y, .int .i64 b.s.z] 39)).box
  rw [World.size_alloc] at AA0
  have AA := Lib.hid AA0
  have BB0 := (Blk.new ((w.alloc (.cells #[.int .i64 d.x, .int .i64 d.y, .int .i64 d.z] 37)).alloc (.cells #[.int .i64 a.b.x, .int .i64 a.b.y, .int .i64 a.b.z, .int .i64 a.s.x, .int .i64 a.s.y, .int .i64 a.s.z] 39)) 39 #[.int .i64 b.b.x, .int .i64 b.b.y, .int .i64 b.b.z, .int .i64 b.s.x, .int .i64 b.s.y, .int .i64 b.s.z]).box
  rw [World.size_alloc, World.size_alloc] at BB0
  have BB := Lib.hid BB0
  clear HW AA0 BB0
  go_enter Try.func5, Try.ntmps5
  go_wp2_with fail
  refine (law02_alive _).mono ?_
  rintro e w0 ⟨rfl, hb1⟩
  (have HF := Lib.hid (below_then HF.out hb1); have DD := Lib.hid (DD.out.keep hb1 DD.out.lt); have AA := Lib.hid (AA.out.keep hb1 AA.out.lt); have BB := Lib.hid (BB.out.keep hb1 BB.out.lt))
  clear hb1
  (obtain ⟨d0, d1, d2⟩ := DD.out; obtain ⟨a0, a1, a2, a3, a4, a5⟩ := AA.out; obtain ⟨b0, b1, b2, b3, b4, b5⟩ := BB.out; have t0 := DD.out.lt; have t1 := AA.out.lt; have t2 := BB.out.lt)
  go_wp2_with fail
  (clear d0 d1 d2 a0 a1 a2 a3 a4 a5 b0 b1 b2 b3 b4 b5 t0 t1 t2)
  refine (H1.out _).mono ?_
  rintro e1 w1 ⟨rfl, hb1⟩
  (have HF := Lib.hid (below_then HF.out hb1); have DD := Lib.hid (DD.out.keep hb1 DD.out.lt); have AA := Lib.hid (AA.out.keep hb1 AA.out.lt); have BB := Lib.hid (BB.out.keep hb1 BB.out.lt))
  clear hb1
  have hb1 := below_alloc (Below.refl w1.heap.size w1) (.cells #[.int .i64 x.b.x, .int .i64 x.b.y, .int .i64 x.b.z, .int .i64 x.s.x, .int .i64 x.s.y, .int .i64 x.s.z] 39)
  (have HF := Lib.hid (below_then HF.out hb1); have DD := Lib.hid (DD.out.keep hb1 DD.out.lt); have AA := Lib.hid (AA.out.keep hb1 AA.out.lt); have BB := Lib.hid (BB.out.keep hb1 BB.out.lt))
  clear hb1
  (obtain ⟨d0, d1, d2⟩ := DD.out; obtain ⟨a0, a1, a2, a3, a4, a5⟩ := AA.out; obtain ⟨b0, b1, b2, b3, b4, b5⟩ := BB.out; have t0 := DD.out.lt; have t1 := AA.out.lt; have t2 := BB.out.lt)
  go_wp2_with fail
  (clear d0 d1 d2 a0 a1 a2 a3 a4 a5 b0 b1 b2 b3 b4 b5 t0 t1 t2)
  refine (H2.out _).mono ?_
  rintro e2 w2 ⟨rfl, hb1⟩
  (have HF := Lib.hid (below_then HF.out hb1); have DD := Lib.hid (DD.out.keep hb1 DD.out.lt); have AA := Lib.hid (AA.out.keep hb1 AA.out.lt); have BB := Lib.hid (BB.out.keep hb1 BB.out.lt))
  clear hb1
  go_wp2_with fail
  all_goals
    go_returns
    exact ⟨rfl, below_alloc HF.out _⟩

theorem law02_BoxCanon (d : V3) (a b : Bx) (w : World) : Calls Try.prog 5 #[.agg #[.int .i64 d.x, .int .i64 d.y, .int .i64 d.z], .agg #[.int .i64 a.b.x, .int .i64 a.b.y, .int .i64 a.b.z, .int .i64 a.s.x, .int .i64 a.s.y, .int .i64 a.s.z], .agg #[.int .i64 b.b.x, .int .i64 b.b.y, .int .i64 b.b.z, .int .i64 b.s.x, .int .i64 b.s.y, .int .i64 b.s.z]] w (RB w (.bool true)) := by
  have g1 : SaysCan d a (canV d a) (chk d a) := fun W => box_Canon d a W
  have g2 : SaysCan d b (canV d b) (chk d b) := fun W => box_Canon d b W
  by_cases e1 : chk d a = 0
  · by_cases e2 : chk d b = 0
    · obtain ⟨hd, ha⟩ := chk_may e1
      obtain ⟨_, hb⟩ := chk_may e2
      have e3 := chk_of hd (Bx.can_may ha)
      rw [canV, if_pos e1, e1] at g1
      rw [canV, if_pos e2, e2] at g2
      have g3 : SaysNodes d a (a.all d) 0 := fun W => box_Nodes_ok d a W hd ha
      have g4 : SaysNodes d b (b.all d) 0 := fun W => box_Nodes_ok d b W hd hb
      have g5 : SaysNodes d (a.can d) (a.all d) 0 := fun W => by have := box_Nodes_ok d (a.can d) W hd (Bx.can_may ha); rw [Bx.can_all hd ha] at this; exact this
      have g6 : SaysCan d (a.can d) (a.can d) 0 := fun W => by have := box_Canon d (a.can d) W; rw [canV, if_pos e3, e3, Bx.can_can] at this; exact this
      exact law02_BoxCanon_ok d a b _ _ _ _ _ w g1 g2 g3 g4 g5 g6 (Bx.all_lenC d a hd) (Bx.all_lenC d b hd) rfl (by rw [decide_eq_decide]; exact (Bx.same_iff hd ha hb).symm)
    · rw [e1] at g1
      exact law02_BoxCanon_err2 d a b _ _ _ w g1 g2 (by simpa using e2)
  · exact law02_BoxCanon_err1 d a b _ _ _ _ w g1 g2 (by simpa using e1)

set_option maxRecDepth 100000 in set_option maxHeartbeats 4000000 in
theorem lift_boxCanon (os : Os) (started : os.Started) (H : Type) (enc : TypeId × Value → H) :
    ReturnsInHanded {} Try.checked os 5 .any (Rows.boxCanonSpec.pre6 enc Try.prog Try.f5 Rows.boxCanonRow.domain false) (Rows.boxCanonSpec.post enc Try.prog Try.f5 false true false false) := by
  refine returnsInHanded_of_change (C := Try.checked) ownKnob0 started (by kernel_rfl) Try.func5
    (ChangeSpec.witness6 (enc := enc) (C := Try.checked) false ⟨#[], #[.agg #[.int .i64 0, .int .i64 0, .int .i64 0], .agg #[.int .i64 0, .int .i64 0, .int .i64 0, .int .i64 0, .int .i64 0, .int .i64 0], .agg #[.int .i64 0, .int .i64 0, .int .i64 0, .int .i64 0, .int .i64 0, .int .i64 0]], []⟩ 8 (by kernel_rfl) (by kernel_rfl) (by kernel_rfl) (by kernel_rfl)) ?_
  intro W base args ds gs before hval0 hW hcnd _
  have hval : ∀ (j : Nat) t v, Try.f5.params[j]? = some t → args[j]? = some v → Value.okWide Try.prog W .any base t v := hval0
  have hW' := hW
  obtain ⟨p, q, hA0, hV, rfl, hfz, hnd⟩ := hW
  have hA : DataW.TrodAll enc Try.prog W 0 (fun _ => true) true Try.f5.params.toList args.toList ds p := hA0
  rw [Try.params5] at hA hval
  have hK := hA
  obtain ⟨v0, vs0, d0, ds0, p0, q0, hargs, rfl, rfl, h0, r0⟩ := trodAll_cons hA
  obtain ⟨v1, vs1, d1, ds1, p1, q1, rfl, rfl, rfl, h1, r1⟩ := trodAll_cons r0
  obtain ⟨v2, vs2, d2, ds2, p2, q2, rfl, rfl, rfl, h2, r2⟩ := trodAll_cons r1
  obtain ⟨rfl, rfl, rfl⟩ := trodAll_nil r2
  obtain rfl : args = #[v0, v1, v2] := by cases args; simp_all
  obtain ⟨d, rfl⟩ := open_dims (hval 0 _ v0 rfl rfl)
  obtain ⟨a, rfl⟩ := open_box (hval 1 _ v1 rfl rfl)
  obtain ⟨b, rfl⟩ := open_box (hval 2 _ v2 rfl rfl)
  obtain ⟨rfl, rfl⟩ := trodVars_none hV
  clear hA0 hval0
  simp only [List.append_nil] at hW' hK
  refine (law02_BoxCanon d a b W).mono fun e W' ⟨he, bel⟩ => ?_
  subst he
  refine ⟨_, rfl, _, _, _, [], _, [], hW', trodAll_mk1 (shut_bool Try.underlying4 _), trodAll_below bel _ _ _ _ ?_ hK, rfl, bel.frame _, fun h => by cases h⟩
  intro t ht
  simp at ht <;> (rcases ht with rfl | rfl | rfl <;> exact ⟨by kernel_rfl, of_decide_eq_true (by kernel_rfl)⟩)

theorem holds_boxCanon : Rows.boxCanonRow.holds Try.pinned (OpenSpec.ofChange Rows.boxCanonSpec) :=
  OpenClaim.holds_of_wide 5 Try.f5 rfl rfl rfl rfl rfl rfl rfl ⟨rfl, rfl, rfl, rfl, rfl⟩ rfl rfl rfl rfl rfl (by kernel_rfl) Try.func5 (by kernel_rfl)
    (of_decide_eq_true (by kernel_rfl)) (by unfold Func.isWrapper; first | (rw [if_pos (by decide +kernel)]; kernel_rfl) | (rw [if_neg (by decide +kernel)]; exact ⟨rfl, rfl⟩))
    (fun os started H enc _ => lift_boxCanon os started H enc)

theorem BoxCanon_holds : Rows.BoxCanonSaid := holds_boxCanon
end Go.Proofs.Ytilibdhcahdndaa
