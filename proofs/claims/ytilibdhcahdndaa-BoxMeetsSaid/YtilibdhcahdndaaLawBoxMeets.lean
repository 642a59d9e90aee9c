/- BoxMeets: boxes meet either way round, just if they do along each axis; one within another meets it, and has at most as many; both are within one another just if they have the same canonical box: the call returns true. -/
import Derived.Test.YtilibdhcahdndaaMeetsW1
import Derived.Test.YtilibdhcahdndaaMeetsW2
import Derived.Test.YtilibdhcahdndaaMeetsW3
import Derived.Test.YtilibdhcahdndaaRow
namespace Go.Proofs.Ytilibdhcahdndaa
open Go.ChangeShapes Go.WideShapes Go.ChangeAt Go.RowKit Go.Shelf


set_option maxRecDepth 100000 in set_option maxHeartbeats 4000000 in
theorem law02_BoxMeets_err (d : V3) (a b : Bx) (w : World) (h : ¬ chk2 d a b = 0) : Calls Try.prog 8 #[.agg #[.int .i64 d.x, .int .i64 d.y, .int .i64 d.z], .agg #[.int .i64 a.b.x, .int .i64 a.b.y, .int .i64 a.b.z, .int .i64 a.s.x, .int .i64 a.s.y, .int .i64 a.s.z], .agg #[.int .i64 b.b.x, .int .i64 b.b.y, .int .i64 b.b.z, .int .i64 b.s.x, .int .i64 b.s.y, .int .i64 b.s.z]] w (RB w (.bool true)) := by
  have H1 := Lib.hid (fun W => box_Meet d a b W)
  have H2 := Lib.hid (fun W => by have := box_Meet d b a W; rw [chk2_turn d b a] at this; exact this)
  have H3 := Lib.hid (fun W => box_Check d a W)
  have H4 := Lib.hid (fun W => box_Check d b W)
  have hn : (chk2 d a b != 0) = true := by simpa using h
  have hk : ¬ (chk d a = 0 ∧ chk d b = 0) := fun h' => h (chk2_both.2 h')
  generalize chk2 d a b = k0 at *
  generalize boxMeet d a b = x0 at *
  generalize boxMeet d b a = y0 at *
  clear h
  by_cases h1 : chk d a = 0
  · have h2 : ¬ chk d b = 0 := fun e => hk ⟨h1, e⟩
    have hm1 : (chk d a != 0) = false := by simpa using h1
    have hm2 : (chk d b != 0) = true := by simpa using h2
    clear h1 h2 hk
    generalize chk d a = k1 at *
    generalize chk d b = k2 at *
    have HW : Below w.heap.size w (((w.alloc (.cells #[.int .i64 d.x, .int .i64 d.y, .int .i64 d.z] 37)).alloc (.cells #[.int .i64 a.b.x, .int .i64 a.b.y, .int .i64 a.b.z, .int .i64 a.s.x, .int .i64 a.s.y, .int .i64 a.s.z] 39)).alloc (.cells #[.int .i64 b.b.x, .int .i64 b.b.y, .int .i64 b.b.z, .int .i64 b.s.x, .int .i64 b.s.y, .int .i64 b.s.z] 39)) := by (repeat (first | (with_reducible exact Below.refl _ _) | (with_reducible assumption) | (with_reducible refine below_alloc ?_ _) | (with_reducible refine below_drewN ?_ _) | (with_reducible refine Below.drew ?_) | (with_reducible refine below_then ?_ (by with_reducible assumption)) | (with_reducible refine Below.setCell ?_ (by go_size) _)))
    have HF := Lib.hid HW
    have DD := Lib.hid ((((Blk.new w 37 #[.int .i64 d.x, .int .i64 d.y, .int .i64 d.z]).alloc (.cells #[.int .i64 a.b.x, .int .i64 a.b.y, .int .i64 a.b.z, .int .i64 a.s.x, .int .i64 a.s.y, .int .i64 a.s.z] 39)).alloc (.cells #[.int .i64 b.b.x, .int .i64 b.b.y, .int .i64 b.b.z, .int .i64 b.s.x, .int .i64 b.s.y, .int .i64 b.s.z] 39)).dims)
    have AA0 := ((Blk.new (w.alloc (.cells #[.int .i64 d.x, .int .i64 d.y, .int .i64 d.z] 37)) 39 #[.int .i64 a.b.x, .int .i64 a.b.y, .int .i64 a.b.z, .int .i64 a.s.x, .int .i64 a.s.y, .int .i64 a.s.z]).alloc (.cells #[.int .i64 b.b.x, .int .i64 b.b.y, .int .i64 b.b.z, .int .i64 b.s.x, .int .i64 b.s.y, .int .i64 b.s.z] 39)).box
    rw [World.size_alloc] at AA0
    have AA := Lib.hid AA0
    have BB0 := (Blk.new ((w.alloc (.cells #[.int .i64 d.x, .int .i64 d.y, .int .i64 d.z] 37)).alloc (.cells #[.int .i64 a.b.x, .int .i64 a.b.y, .int .i64 a.b.z, .int .i64 a.s.x, .int .i64 a.s.y, .int .i64 a.s.z] 39)) 39 #[.int .i64 b.b.x, .int .i64 b.b.y, .int .i64 b.b.z, .int .i64 b.s.x, .int .i64 b.s.y, .int .i64 b.s.z]).box
    rw [World.size_alloc, World.size_alloc] at BB0
    have BB := Lib.hid BB0
    clear HW AA0 BB0
    go_enter Try.func8, Try.ntmps8
    go_wp2_with fail
    refine (law02_alive _).mono ?_
    rintro e w0 ⟨rfl, hb1⟩
    (have HF := Lib.hid (below_then HF.out hb1); have DD := Lib.hid (DD.out.keep hb1 DD.out.lt); have AA := Lib.hid (AA.out.keep hb1 AA.out.lt); have BB := Lib.hid (BB.out.keep hb1 BB.out.lt))
    clear hb1
    (obtain ⟨d0, d1, d2⟩ := DD.out; obtain ⟨a0, a1, a2, a3, a4, a5⟩ := AA.out; obtain ⟨b0, b1, b2, b3, b4, b5⟩ := BB.out; have t0 := DD.out.lt; have t1 := AA.out.lt; have t2 := BB.out.lt)
    go_wp2_with fail
    (clear d0 d1 d2 a0 a1 a2 a3 a4 a5 b0 b1 b2 b3 b4 b5 t0 t1 t2)
    refine (H1.out _).mono ?_
    rintro e w1 ⟨rfl, hb1⟩
    (have HF := Lib.hid (below_then HF.out hb1); have DD := Lib.hid (DD.out.keep hb1 DD.out.lt); have AA := Lib.hid (AA.out.keep hb1 AA.out.lt); have BB := Lib.hid (BB.out.keep hb1 BB.out.lt))
    clear hb1
    (obtain ⟨d0, d1, d2⟩ := DD.out; obtain ⟨a0, a1, a2, a3, a4, a5⟩ := AA.out; obtain ⟨b0, b1, b2, b3, b4, b5⟩ := BB.out; have t0 := DD.out.lt; have t1 := AA.out.lt; have t2 := BB.out.lt)
    go_wp2_with fail
    (clear d0 d1 d2 a0 a1 a2 a3 a4 a5 b0 b1 b2 b3 b4 b5 t0 t1 t2)
    refine (H2.out _).mono ?_
    rintro e w2 ⟨rfl, hb1⟩
    (have HF := Lib.hid (below_then HF.out hb1); have DD := Lib.hid (DD.out.keep hb1 DD.out.lt); have AA := Lib.hid (AA.out.keep hb1 AA.out.lt); have BB := Lib.hid (BB.out.keep hb1 BB.out.lt))
    clear hb1
    (obtain ⟨d0, d1, d2⟩ := DD.out; obtain ⟨a0, a1, a2, a3, a4, a5⟩ := AA.out; obtain ⟨b0, b1, b2, b3, b4, b5⟩ := BB.out; have t0 := DD.out.lt; have t1 := AA.out.lt; have t2 := BB.out.lt)
    go_wp2_with fail
    (clear d0 d1 d2 a0 a1 a2 a3 a4 a5 b0 b1 b2 b3 b4 b5 t0 t1 t2)
    refine (H3.out _).mono ?_
    rintro e w3 ⟨rfl, hb1⟩
    (have HF := Lib.hid (below_then HF.out hb1); have DD := Lib.hid (DD.out.keep hb1 DD.out.lt); have AA := Lib.hid (AA.out.keep hb1 AA.out.lt); have BB := Lib.hid (BB.out.keep hb1 BB.out.lt))
    clear hb1
    (obtain ⟨d0, d1, d2⟩ := DD.out; obtain ⟨a0, a1, a2, a3, a4, a5⟩ := AA.out; obtain ⟨b0, b1, b2, b3, b4, b5⟩ := BB.out; have t0 := DD.out.lt; have t1 := AA.out.lt; have t2 := BB.out.lt)
    go_wp2_with fail
    (clear d0 d1 d2 a0 a1 a2 a3 a4 a5 b0 b1 b2 b3 b4 b5 t0 t1 t2)
    refine (H4.out _).mono ?_
    rintro e w4 ⟨rfl, hb1⟩
    have HF := Lib.hid (below_then HF.out hb1)
    go_wp2_with fail
    go_returns
    exact ⟨rfl, HF.out⟩
  · have hm1 : (chk d a != 0) = true := by simpa using h1
    clear h1 hk
    generalize chk d a = k1 at *
    have HW : Below w.heap.size w (((w.alloc (.cells #[.int .i64 d.x, .int .i64 d.y, .int .i64 d.z] 37)).alloc (.cells #[.int .i64 a.b.x, .int .i64 a.b.y, .int .i64 a.b.z, .int .i64 a.s.x, .int .i64 a.s.y, .int .i64 a.s.z] 39)).alloc (.cells #[.int .i64 b.b.x, .int .i64 b.b.y, .int .i64 b.b.z, .int .i64 b.s.x, .int .i64 b.s.y, .int .i64 b.s.z] 39)) := by (repeat (first | (with_reducible exact Below.refl _ _) | (with_reducible assumption) | (with_reducible refine below_alloc ?_ _) | (with_reducible refine below_drewN ?_ _) | (with_reducible refine Below.drew ?_) | (with_reducible refine below_then ?_ (by with_reducible assumption)) | (with_reducible refine Below.setCell ?_ (by go_size) _)))
    have HF := Lib.hid HW
    have DD := Lib.hid ((((Blk.new w 37 #[.int .i64 d.x, .int .i64 d.y, .int .i64 d.z]).alloc (.cells #[.int .i64 a.b.x, .int .i64 a.b.y, .int .i64 a.b.z, .int .i64 a.s.x, .int .i64 a.s.y, .int .i64 a.s.z] 39)).alloc (.cells #[.int .i64 b.b.x, .int .i64 b.b.y, .int .i64 b.b.z, .int .i64 b.s.x, .int .i64 b.s.y, .int .i64 b.s.z] 39)).dims)
    have AA0 := ((Blk.new (w.alloc (.cells #[.int .i64 d.x, .int .i64 d.y, .int .i64 d.z] 37)) 39 #[.int .i64 a.b.x, .int .i64 a.b.y, .int .i64 a.b.z, .int .i64 a.s.x, .int .i64 a.s.y, .int .i64 a.s.z]).alloc (.cells #[.int .i64 b.b.x, .int .i64 b.b.y, .int .i64 b.b.z, .int .i64 b.s.x, .int .i64 b.s.y, .int .i64 b.s.z] 39)).box
    rw [World.size_alloc] at AA0
    have AA := Lib.hid AA0
    have BB0 := (Blk.new ((w.alloc (.cells #[.int .i64 d.x, .int .i64 d.y, .int .i64 d.z] 37)).alloc (.cells #[.int .i64 a.b.x, .int .i64 a.b.y, .int .i64 a.b.z, .int .i64 a.s.x, .int .i64 a.s.y, .int .i64 a.s.z] 39)) 39 #[.int .i64 b.b.x, .int .i64 b.b.y, .int .i64 b.b.z, .int .i64 b.s.x, .int .i64 b.s.y, .int .i64 b.s.z]).box
    rw [World.size_alloc, World.size_alloc] at BB0
    have BB := Lib.hid BB0
    clear HW AA0 BB0
    go_enter Try.func8, Try.ntmps8
    go_wp2_with fail
    refine (law02_alive _).mono ?_
    rintro e w0 ⟨rfl, hb1⟩
    (have HF := Lib.hid (below_then HF.out hb1); have DD := Lib.hid (DD.out.keep hb1 DD.out.lt); have AA := Lib.hid (AA.out.keep hb1 AA.out.lt); have BB := Lib.hid (BB.out.keep hb1 BB.out.lt))
    clear hb1
    (obtain ⟨d0, d1, d2⟩ := DD.out; obtain ⟨a0, a1, a2, a3, a4, a5⟩ := AA.out; obtain ⟨b0, b1, b2, b3, b4, b5⟩ := BB.out; have t0 := DD.out.lt; have t1 := AA.out.lt; have t2 := BB.out.lt)
    go_wp2_with fail
    (clear d0 d1 d2 a0 a1 a2 a3 a4 a5 b0 b1 b2 b3 b4 b5 t0 t1 t2)
    refine (H1.out _).mono ?_
    rintro e w1 ⟨rfl, hb1⟩
    (have HF := Lib.hid (below_then HF.out hb1); have DD := Lib.hid (DD.out.keep hb1 DD.out.lt); have AA := Lib.hid (AA.out.keep hb1 AA.out.lt); have BB := Lib.hid (BB.out.keep hb1 BB.out.lt))
    clear hb1
    (obtain ⟨d0, d1, d2⟩ := DD.out; obtain ⟨a0, a1, a2, a3, a4, a5⟩ := AA.out; obtain ⟨b0, b1, b2, b3, b4, b5⟩ := BB.out; have t0 := DD.out.lt; have t1 := AA.out.lt; have t2 := BB.out.lt)
    go_wp2_with fail
    (clear d0 d1 d2 a0 a1 a2 a3 a4 a5 b0 b1 b2 b3 b4 b5 t0 t1 t2)
    refine (H2.out _).mono ?_
    rintro e w2 ⟨rfl, hb1⟩
    (have HF := Lib.hid (below_then HF.out hb1); have DD := Lib.hid (DD.out.keep hb1 DD.out.lt); have AA := Lib.hid (AA.out.keep hb1 AA.out.lt); have BB := Lib.hid (BB.out.keep hb1 BB.out.lt))
    clear hb1
    (obtain ⟨d0, d1, d2⟩ := DD.out; obtain ⟨a0, a1, a2, a3, a4, a5⟩ := AA.out; obtain ⟨b0, b1, b2, b3, b4, b5⟩ := BB.out; have t0 := DD.out.lt; have t1 := AA.out.lt; have t2 := BB.out.lt)
    go_wp2_with fail
    (clear d0 d1 d2 a0 a1 a2 a3 a4 a5 b0 b1 b2 b3 b4 b5 t0 t1 t2)
    refine (H3.out _).mono ?_
    rintro e w3 ⟨rfl, hb1⟩
    have HF := Lib.hid (below_then HF.out hb1)
    go_wp2_with fail
    go_returns
    exact ⟨rfl, HF.out⟩

theorem law02_BoxMeets (d : V3) (a b : Bx) (w : World) : Calls Try.prog 8 #[.agg #[.int .i64 d.x, .int .i64 d.y, .int .i64 d.z], .agg #[.int .i64 a.b.x, .int .i64 a.b.y, .int .i64 a.b.z, .int .i64 a.s.x, .int .i64 a.s.y, .int .i64 a.s.z], .agg #[.int .i64 b.b.x, .int .i64 b.b.y, .int .i64 b.b.z, .int .i64 b.s.x, .int .i64 b.s.y, .int .i64 b.s.z]] w (RB w (.bool true)) := by
  by_cases h : chk2 d a b = 0
  · have h' : chk2 d b a = 0 := by rw [chk2_turn]; exact h
    obtain ⟨hd, ha, hb⟩ := chk2_0 h
    have ca := chk_of hd ha
    have cb := chk_of hd hb
    have h1 : SaysMeet d a b (boxMeet d a b) 0 := fun W => by have := box_Meet d a b W; rw [h] at this; exact this
    have h2 : SaysMeet d b a (boxMeet d a b) 0 := fun W => by have := box_Meet d b a W; rw [h', ← boxMeet_turn d a b] at this; exact this
    have h3 : SaysWithin d a b (boxWithin d a b) 0 := fun W => by have := box_Within d a b W; rw [h] at this; exact this
    have h4 : SaysWithin d b a (boxWithin d b a) 0 := fun W => by have := box_Within d b a W; rw [h'] at this; exact this
    have h5 : SaysVol d a a.vol 0 := fun W => by have := box_Many d a W; rw [volV, if_pos ca, ca] at this; exact this
    have h6 : SaysVol d b b.vol 0 := fun W => by have := box_Many d b W; rw [volV, if_pos cb, cb] at this; exact this
    have h7 : SaysCanM d a (a.can d) 0 := fun W => box_Canon_ok d a W ca
    have h8 : SaysCanM d b (b.can d) 0 := fun W => box_Canon_ok d b W cb
    have g0 : SaysAx0 d a b (meets1 a b (d.at 0) 0) := fun W => by
      have e := axis_meet hd ha hb 0 (by omega)
      have := box_Meet (axisD (d.at 0) 0) (axisB a 0) (axisB b 0) W
      rw [e.1, e.2] at this
      exact this
    have g1 : SaysAx1 d a b (meets1 a b (d.at 1) 1) := fun W => by
      have e := axis_meet hd ha hb 1 (by omega)
      have := box_Meet (axisD (d.at 1) 1) (axisB a 1) (axisB b 1) W
      rw [e.1, e.2] at this
      exact this
    have g2 : SaysAx2 d a b (meets1 a b (d.at 2) 2) := fun W => by
      have e := axis_meet hd ha hb 2 (by omega)
      have := box_Meet (axisD (d.at 2) 2) (axisB a 2) (axisB b 2) W
      rw [e.1, e.2] at this
      exact this
    have hx : boxMeet d a b = (meets1 a b (d.at 0) 0 && meets1 a b (d.at 1) 1 && meets1 a b (d.at 2) 2) := boxMeet_ok h
    have hr := both_law h
    have l1 := within_law h
    have l2 := within_law h'
    rw [← boxMeet_turn d a b] at l2
    generalize boxMeet d a b = x at *
    generalize boxWithin d a b = vi at *
    generalize boxWithin d b a = vo at *
    generalize meets1 a b (d.at 0) 0 = z0 at *
    generalize meets1 a b (d.at 1) 1 = z1 at *
    generalize meets1 a b (d.at 2) 2 = z2 at *
    cases x with
    | true =>
      cases z0 with
      | false => cases hx
      | true =>
        cases z1 with
        | false => cases hx
        | true =>
          cases z2 with
          | false => cases hx
          | true =>
            cases vi with
            | false =>
              cases vo with
              | false => exact law02_BoxMeets_t00 d a b _ _ _ _ w h1 h2 h3 h4 h5 h6 h7 h8 g0 g1 g2 hr
              | true => exact law02_BoxMeets_t01 d a b _ _ _ _ w h1 h2 h3 h4 h5 h6 h7 h8 g0 g1 g2 hr
            | true =>
              cases vo with
              | false => exact law02_BoxMeets_t10 d a b _ _ _ _ w h1 h2 h3 h4 h5 h6 h7 h8 g0 g1 g2 (l1 rfl).2 hr
              | true => exact law02_BoxMeets_t11 d a b _ _ _ _ w h1 h2 h3 h4 h5 h6 h7 h8 g0 g1 g2 (l1 rfl).2 hr
    | false =>
      cases vi with
      | true => exact absurd (l1 rfl).1 (by decide)
      | false =>
        cases vo with
        | true => exact absurd (l2 rfl).1 (by decide)
        | false =>
          cases z0 with
          | false => exact law02_BoxMeets_f0 d a b _ _ _ _ _ _ w h1 h2 h3 h4 h5 h6 h7 h8 g0 g1 g2 hr
          | true =>
            cases z1 with
            | false => exact law02_BoxMeets_f1 d a b _ _ _ _ _ w h1 h2 h3 h4 h5 h6 h7 h8 g0 g1 g2 hr
            | true =>
              cases z2 with
              | false => exact law02_BoxMeets_f2 d a b _ _ _ _ w h1 h2 h3 h4 h5 h6 h7 h8 g0 g1 g2 hr
              | true => cases hx
  · exact law02_BoxMeets_err d a b w h

set_option maxRecDepth 100000 in set_option maxHeartbeats 4000000 in
theorem lift_boxMeets (os : Os) (started : os.Started) (H : Type) (enc : TypeId × Value → H) :
    ReturnsInHanded {} Try.checked os 8 .any (Rows.boxMeetsSpec.pre6 enc Try.prog Try.f8 Rows.boxMeetsRow.domain false) (Rows.boxMeetsSpec.post enc Try.prog Try.f8 false true false false) := by
  refine returnsInHanded_of_change (C := Try.checked) ownKnob0 started (by kernel_rfl) Try.func8
    (ChangeSpec.witness6 (enc := enc) (C := Try.checked) false ⟨#[], #[.agg #[.int .i64 0, .int .i64 0, .int .i64 0], .agg #[.int .i64 0, .int .i64 0, .int .i64 0, .int .i64 0, .int .i64 0, .int .i64 0], .agg #[.int .i64 0, .int .i64 0, .int .i64 0, .int .i64 0, .int .i64 0, .int .i64 0]], []⟩ 8 (by kernel_rfl) (by kernel_rfl) (by kernel_rfl) (by kernel_rfl)) ?_
  intro W base args ds gs before hval0 hW hcnd _
  have hval : ∀ (j : Nat) t v, Try.f8.params[j]? = some t → args[j]? = some v → Value.okWide Try.prog W .any base t v := hval0
  have hW' := hW
  obtain ⟨p, q, hA0, hV, rfl, hfz, hnd⟩ := hW
  have hA : DataW.TrodAll enc Try.prog W 0 (fun _ => true) true Try.f8.params.toList args.toList ds p := hA0
  rw [Try.params8] at hA hval
  have hK := hA
  obtain ⟨v0, vs0, d0, ds0, p0, q0, hargs, rfl, rfl, h0, r0⟩ := trodAll_cons hA
  obtain ⟨v1, vs1, d1, ds1, p1, q1, rfl, rfl, rfl, h1, r1⟩ := trodAll_cons r0
  obtain ⟨v2, vs2, d2, ds2, p2, q2, rfl, rfl, rfl, h2, r2⟩ := trodAll_cons r1
  obtain ⟨rfl, rfl, rfl⟩ := trodAll_nil r2
  obtain rfl : args = #[v0, v1, v2] := by cases args; simp_all
  obtain ⟨d, rfl⟩ := open_dims (hval 0 _ v0 rfl rfl)
  obtain ⟨a, rfl⟩ := open_box (hval 1 _ v1 rfl rfl)
  obtain ⟨b, rfl⟩ := open_box (hval 2 _ v2 rfl rfl)
  obtain ⟨rfl, rfl⟩ := trodVars_none hV
  clear hA0 hval0
  simp only [List.append_nil] at hW' hK
  refine (law02_BoxMeets d a b W).mono fun e W' ⟨he, bel⟩ => ?_
  subst he
  refine ⟨_, rfl, _, _, _, [], _, [], hW', trodAll_mk1 (shut_bool Try.underlying4 _), trodAll_below bel _ _ _ _ ?_ hK, rfl, bel.frame _, fun h => by cases h⟩
  intro t ht
  simp at ht <;> (rcases ht with rfl | rfl | rfl <;> exact ⟨by kernel_rfl, of_decide_eq_true (by kernel_rfl)⟩)

theorem holds_boxMeets : Rows.boxMeetsRow.holds Try.pinned (OpenSpec.ofChange Rows.boxMeetsSpec) :=
  OpenClaim.holds_of_wide 8 Try.f8 rfl rfl rfl rfl rfl rfl rfl ⟨rfl, rfl, rfl, rfl, rfl⟩ rfl rfl rfl rfl rfl (by kernel_rfl) Try.func8 (by kernel_rfl)
    (of_decide_eq_true (by kernel_rfl)) (by unfold Func.isWrapper; first | (rw [if_pos (by decide +kernel)]; kernel_rfl) | (rw [if_neg (by decide +kernel)]; exact ⟨rfl, rfl⟩))
    (fun os started H enc _ => lift_boxMeets os started H enc)

theorem BoxMeets_holds : Rows.BoxMeetsSaid := holds_boxMeets
end Go.Proofs.Ytilibdhcahdndaa
