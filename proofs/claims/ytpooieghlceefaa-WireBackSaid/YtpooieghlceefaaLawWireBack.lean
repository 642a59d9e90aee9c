/- WireBack: a cable's number and its ends are each other's way back, and a cable's ends are one step apart: the call returns true, whatever the dimensions, axis, midplane and number. -/
import Derived.Test.YtpooieghlceefaaWire4
import Derived.Test.YtpooieghlceefaaRow
namespace Go.Proofs.Ytpooieghlceefaa
open Go.ChangeShapes Go.WideShapes Go.ChangeAt Go.RowKit Go.Shelf

set_option maxRecDepth 100000 in set_option maxHeartbeats 4000000 in
theorem law05_some (w : World) : Calls Try.prog 19 #[] w (RB w (.agg #[.int .i64 4, .int .i64 3, .int .i64 1])) := by
  go_enter Try.func19, Try.ntmps19
  go_wp2_with fail
  exact bodyPost_ret (v := .agg #[.int .i64 4, .int .i64 3, .int .i64 1]) (by simp [results, Try.f19, go_sem]) rfl ⟨rfl, by (repeat (first | (with_reducible exact Below.refl _ _) | (with_reducible assumption) | (with_reducible refine below_alloc ?_ _) | (with_reducible refine below_drewN ?_ _) | (with_reducible refine Below.drew ?_) | (with_reducible refine below_then ?_ (by with_reducible assumption)) | (with_reducible refine Below.setCell ?_ (by go_size) _)))⟩
def some5 : V3 := ⟨4, 3, 1⟩
set_option maxRecDepth 100000 in set_option maxHeartbeats 4000000 in
theorem law05_alive (w : World) : Calls Try.prog 11 #[] w (RB w (.bool true)) := by
  have HSo := Lib.hid (fun W => law05_some W)
  have p1 : some5.many = 12 := by decide +kernel
  have p2 : some5.err = 0 := by decide +kernel
  have p3 : some5.linkV 1 5 = 17 := by decide +kernel
  have p4 : some5.linkE 1 5 = 0 := by decide +kernel
  have p5 : some5.endA 3 = 0 := by decide +kernel
  have p6 : some5.endM 3 = 3 := by decide +kernel
  have p7 : some5.endT 3 = 0 := by decide +kernel
  have p8 : some5.endE 3 = 0 := by decide +kernel
  have K1 := Lib.hid (fun W => by have := wire_Many some5 W; rw [p1, p2] at this; exact this)
  have K2 := Lib.hid (fun W => by have := wire_Link some5 1 5 W; rw [p3, p4] at this; exact this)
  have K3 := Lib.hid (fun W => by have := wire_Ends some5 3 W; rw [p5, p6, p7, p8] at this; exact this)
  clear p1 p2 p3 p4 p5 p6 p7 p8
  have HB := Lib.hid (Below.refl w.heap.size w)
  go_enter Try.func11, Try.ntmps11
  go_wp2_with fail
  (refine (HSo.out _).mono ?_; rintro e w1 ⟨rfl, hb⟩; have HB := Lib.hid (below_then HB.out hb); clear hb; go_wp2_with fail)
  (refine (K1.out _).mono ?_; rintro e w1 ⟨rfl, hb⟩; have HB := Lib.hid (below_then HB.out hb); clear hb; go_wp2_with fail)
  (refine (HSo.out _).mono ?_; rintro e w1 ⟨rfl, hb⟩; have HB := Lib.hid (below_then HB.out hb); clear hb; go_wp2_with fail)
  (refine (K2.out _).mono ?_; rintro e w1 ⟨rfl, hb⟩; have HB := Lib.hid (below_then HB.out hb); clear hb; go_wp2_with fail)
  (refine (HSo.out _).mono ?_; rintro e w1 ⟨rfl, hb⟩; have HB := Lib.hid (below_then HB.out hb); clear hb; go_wp2_with fail)
  (refine (K3.out _).mono ?_; rintro e w1 ⟨rfl, hb⟩; have HB := Lib.hid (below_then HB.out hb); clear hb; go_wp2_with fail)
  go_returns
  exact ⟨rfl, HB.out⟩

/-- What the second half finds. -/
def Half (d : V3) (link : Int) : Prop :=
  (∃ E, (E == 0) = false ∧ (E != 0) = true ∧ ∀ W, Calls Try.prog 13 #[.agg #[.int .i64 d.x, .int .i64 d.y, .int .i64 d.z], .int .i64 link] W (RB W (.tuple #[.int .i64 0, .int .i64 0, .int .i64 0, .int .i64 E]))) ∨
  (∃ a m t, (∀ W, Calls Try.prog 13 #[.agg #[.int .i64 d.x, .int .i64 d.y, .int .i64 d.z], .int .i64 link] W (RB W (.tuple #[.int .i64 a, .int .i64 m, .int .i64 t, .int .i64 0]))) ∧
    (∀ W, Calls Try.prog 12 #[.agg #[.int .i64 d.x, .int .i64 d.y, .int .i64 d.z], .int .i64 a, .int .i64 m] W (RB W (.tuple #[.int .i64 link, .int .i64 0]))) ∧
    (∀ W, Calls Try.prog 15 #[.agg #[.int .i64 d.x, .int .i64 d.y, .int .i64 d.z], .int .i64 m, .int .i64 t] W (RB W (.tuple #[.int .i64 1, .int .i64 0]))))
theorem half_all (d : V3) (link : Int) : Half d link := by
  by_cases h : d.endE link = 0
  · right
    obtain ⟨⟨h1, h2⟩, h3, ⟨m0, m1⟩, t0, t1⟩ := end_link h
    have hd := (V3.endE_0 h).1
    refine ⟨d.endA link, d.endM link, d.endT link, fun W => ?_, fun W => ?_, fun W => ?_⟩
    · have := wire_Ends d link W; rwa [h] at this
    · have := wire_Link d (d.endA link) (d.endM link) W; rwa [h1, h2] at this
    · have := pos_Far d (d.endM link) (d.endT link) W hd m0 m1 t0 t1; rwa [h3] at this
  · left
    refine ⟨d.endE link, by simpa using h, by simpa using h, fun W => ?_⟩
    have := wire_Ends d link W
    rwa [show d.endA link = 0 from if_neg h, show d.endM link = 0 from if_neg h, show d.endT link = 0 from if_neg h] at this
set_option maxRecDepth 100000 in set_option maxHeartbeats 4000000 in
theorem law05_WireBack (d : V3) (axis m link : Int) (w : World) : Calls Try.prog 3 #[.agg #[.int .i64 d.x, .int .i64 d.y, .int .i64 d.z], .int .i64 axis, .int .i64 m, .int .i64 link] w (RB w (.bool true)) := by
  have HAl := Lib.hid (fun W => law05_alive W)
  have L1 := Lib.hid (fun W => wire_Link d axis m W)
  by_cases h : d.linkE axis m = 0
  · obtain ⟨q1, q2, q3, q4⟩ := link_end h
    obtain ⟨⟨hd, ⟨a0, a1⟩, m0, m1⟩, _⟩ := V3.linkE_0 h
    have E1 := Lib.hid (fun W => by have := wire_Ends d (d.linkV axis m) W; rw [q1, q2, q3, q4] at this; exact this)
    have S1 := Lib.hid (fun W => by have := pos_Step d m axis.toNat 1 W hd m0 m1 (by omega) (by decide) (by decide); rw [show ((axis.toNat : Nat) : Int) = axis by omega] at this; exact this)
    rw [h] at L1
    have HH := Lib.hid (half_all d link)
    clear h q1 q2 q3 q4 hd a0 a1 m0 m1
    obtain ⟨L, hL⟩ : ∃ L, L = d.linkV axis m := ⟨_, rfl⟩
    rw [← hL] at L1 E1
    obtain ⟨T, hT⟩ : ∃ T, T = d.step m axis.toNat 1 := ⟨_, rfl⟩
    rw [← hT] at E1 S1
    clear hL hT
    rcases HH.out with ⟨E, g1, g2, e2⟩ | ⟨a, m', t, e2, l2, f2⟩
    · have E2 := Lib.hid e2
      clear e2 HH
      (go_enter Try.func3, Try.ntmps3; go_wp2_with fail; refine (HAl.out _).mono ?_; rintro e w1 ⟨rfl, hb⟩; have BD := Lib.hid (((Blk.new w 23 #[.int .i64 d.x, .int .i64 d.y, .int .i64 d.z]).below hb).dims); have HB := Lib.hid (below_then (show Below w.heap.size w (w.alloc (.cells #[.int .i64 d.x, .int .i64 d.y, .int .i64 d.z] 23)) by (repeat (first | (with_reducible exact Below.refl _ _) | (with_reducible assumption) | (with_reducible refine below_alloc ?_ _) | (with_reducible refine below_drewN ?_ _) | (with_reducible refine Below.drew ?_) | (with_reducible refine below_then ?_ (by with_reducible assumption)) | (with_reducible refine Below.setCell ?_ (by go_size) _)))) hb); clear hb; (have hlt := BD.out.lt; obtain ⟨d0, d1, d2⟩ := BD.out; go_wp2_with fail; clear d0 d1 d2 hlt))
      (refine (L1.out _).mono ?_; rintro e w1 ⟨rfl, hb⟩; have BD := Lib.hid (BD.out.keep hb BD.out.lt); have HB := Lib.hid (below_then HB.out hb); clear hb; (have hlt := BD.out.lt; obtain ⟨d0, d1, d2⟩ := BD.out; go_wp2_with fail; clear d0 d1 d2 hlt))
      (refine (E1.out _).mono ?_; rintro e w1 ⟨rfl, hb⟩; have BD := Lib.hid (BD.out.keep hb BD.out.lt); have HB := Lib.hid (below_then HB.out hb); clear hb; (have hlt := BD.out.lt; obtain ⟨d0, d1, d2⟩ := BD.out; go_wp2_with fail; clear d0 d1 d2 hlt))
      (refine (S1.out _).mono ?_; rintro e w1 ⟨rfl, hb⟩; have BD := Lib.hid (BD.out.keep hb BD.out.lt); have HB := Lib.hid (below_then HB.out hb); clear hb; (have hlt := BD.out.lt; obtain ⟨d0, d1, d2⟩ := BD.out; go_wp2_with fail; clear d0 d1 d2 hlt))
      ((refine (E2.out _).mono ?_; rintro e w1 ⟨rfl, hb⟩; have BD := Lib.hid (BD.out.keep hb BD.out.lt); have HB := Lib.hid (below_then HB.out hb); clear hb; (have hlt := BD.out.lt; obtain ⟨d0, d1, d2⟩ := BD.out; go_wp2_with fail; clear d0 d1 d2 hlt)); go_returns; exact ⟨rfl, HB.out⟩)
    · have E2 := Lib.hid e2
      have L2 := Lib.hid l2
      have F2 := Lib.hid f2
      clear e2 l2 f2 HH
      (go_enter Try.func3, Try.ntmps3; go_wp2_with fail; refine (HAl.out _).mono ?_; rintro e w1 ⟨rfl, hb⟩; have BD := Lib.hid (((Blk.new w 23 #[.int .i64 d.x, .int .i64 d.y, .int .i64 d.z]).below hb).dims); have HB := Lib.hid (below_then (show Below w.heap.size w (w.alloc (.cells #[.int .i64 d.x, .int .i64 d.y, .int .i64 d.z] 23)) by (repeat (first | (with_reducible exact Below.refl _ _) | (with_reducible assumption) | (with_reducible refine below_alloc ?_ _) | (with_reducible refine below_drewN ?_ _) | (with_reducible refine Below.drew ?_) | (with_reducible refine below_then ?_ (by with_reducible assumption)) | (with_reducible refine Below.setCell ?_ (by go_size) _)))) hb); clear hb; (have hlt := BD.out.lt; obtain ⟨d0, d1, d2⟩ := BD.out; go_wp2_with fail; clear d0 d1 d2 hlt))
      (refine (L1.out _).mono ?_; rintro e w1 ⟨rfl, hb⟩; have BD := Lib.hid (BD.out.keep hb BD.out.lt); have HB := Lib.hid (below_then HB.out hb); clear hb; (have hlt := BD.out.lt; obtain ⟨d0, d1, d2⟩ := BD.out; go_wp2_with fail; clear d0 d1 d2 hlt))
      (refine (E1.out _).mono ?_; rintro e w1 ⟨rfl, hb⟩; have BD := Lib.hid (BD.out.keep hb BD.out.lt); have HB := Lib.hid (below_then HB.out hb); clear hb; (have hlt := BD.out.lt; obtain ⟨d0, d1, d2⟩ := BD.out; go_wp2_with fail; clear d0 d1 d2 hlt))
      (refine (S1.out _).mono ?_; rintro e w1 ⟨rfl, hb⟩; have BD := Lib.hid (BD.out.keep hb BD.out.lt); have HB := Lib.hid (below_then HB.out hb); clear hb; (have hlt := BD.out.lt; obtain ⟨d0, d1, d2⟩ := BD.out; go_wp2_with fail; clear d0 d1 d2 hlt))
      ((refine (E2.out _).mono ?_; rintro e w1 ⟨rfl, hb⟩; have BD := Lib.hid (BD.out.keep hb BD.out.lt); have HB := Lib.hid (below_then HB.out hb); clear hb; (have hlt := BD.out.lt; obtain ⟨d0, d1, d2⟩ := BD.out; go_wp2_with fail; clear d0 d1 d2 hlt)); (refine (L2.out _).mono ?_; rintro e w1 ⟨rfl, hb⟩; have BD := Lib.hid (BD.out.keep hb BD.out.lt); have HB := Lib.hid (below_then HB.out hb); clear hb; (have hlt := BD.out.lt; obtain ⟨d0, d1, d2⟩ := BD.out; go_wp2_with fail; clear d0 d1 d2 hlt)); (refine (F2.out _).mono ?_; rintro e w1 ⟨rfl, hb⟩; have BD := Lib.hid (BD.out.keep hb BD.out.lt); have HB := Lib.hid (below_then HB.out hb); clear hb; (have hlt := BD.out.lt; obtain ⟨d0, d1, d2⟩ := BD.out; go_wp2_with fail; clear d0 d1 d2 hlt)); go_returns; exact ⟨rfl, HB.out⟩)
  · have hn : (d.linkE axis m == 0) = false := by simpa using h
    have HH := Lib.hid (half_all d link)
    clear h
    obtain ⟨Z, hZ⟩ : ∃ Z, Z = d.linkE axis m := ⟨_, rfl⟩
    obtain ⟨V, hV⟩ : ∃ V, V = d.linkV axis m := ⟨_, rfl⟩
    rw [← hZ] at L1 hn
    rw [← hV] at L1
    clear hZ hV
    rcases HH.out with ⟨E, g1, g2, e2⟩ | ⟨a, m', t, e2, l2, f2⟩
    · have E2 := Lib.hid e2
      clear e2 HH
      (go_enter Try.func3, Try.ntmps3; go_wp2_with fail; refine (HAl.out _).mono ?_; rintro e w1 ⟨rfl, hb⟩; have BD := Lib.hid (((Blk.new w 23 #[.int .i64 d.x, .int .i64 d.y, .int .i64 d.z]).below hb).dims); have HB := Lib.hid (below_then (show Below w.heap.size w (w.alloc (.cells #[.int .i64 d.x, .int .i64 d.y, .int .i64 d.z] 23)) by (repeat (first | (with_reducible exact Below.refl _ _) | (with_reducible assumption) | (with_reducible refine below_alloc ?_ _) | (with_reducible refine below_drewN ?_ _) | (with_reducible refine Below.drew ?_) | (with_reducible refine below_then ?_ (by with_reducible assumption)) | (with_reducible refine Below.setCell ?_ (by go_size) _)))) hb); clear hb; (have hlt := BD.out.lt; obtain ⟨d0, d1, d2⟩ := BD.out; go_wp2_with fail; clear d0 d1 d2 hlt))
      (refine (L1.out _).mono ?_; rintro e w1 ⟨rfl, hb⟩; have BD := Lib.hid (BD.out.keep hb BD.out.lt); have HB := Lib.hid (below_then HB.out hb); clear hb; (have hlt := BD.out.lt; obtain ⟨d0, d1, d2⟩ := BD.out; go_wp2_with fail; clear d0 d1 d2 hlt))
      ((refine (E2.out _).mono ?_; rintro e w1 ⟨rfl, hb⟩; have BD := Lib.hid (BD.out.keep hb BD.out.lt); have HB := Lib.hid (below_then HB.out hb); clear hb; (have hlt := BD.out.lt; obtain ⟨d0, d1, d2⟩ := BD.out; go_wp2_with fail; clear d0 d1 d2 hlt)); go_returns; exact ⟨rfl, HB.out⟩)
    · have E2 := Lib.hid e2
      have L2 := Lib.hid l2
      have F2 := Lib.hid f2
      clear e2 l2 f2 HH
      (go_enter Try.func3, Try.ntmps3; go_wp2_with fail; refine (HAl.out _).mono ?_; rintro e w1 ⟨rfl, hb⟩; have BD := Lib.hid (((Blk.new w 23 #[.int .i64 d.x, .int .i64 d.y, .int .i64 d.z]).below hb).dims); have HB := Lib.hid (below_then (show Below w.heap.size w (w.alloc (.cells #[.int .i64 d.x, .int .i64 d.y, .int .i64 d.z] 23)) by (repeat (first | (with_reducible exact Below.refl _ _) | (with_reducible assumption) | (with_reducible refine below_alloc ?_ _) | (with_reducible refine below_drewN ?_ _) | (with_reducible refine Below.drew ?_) | (with_reducible refine below_then ?_ (by with_reducible assumption)) | (with_reducible refine Below.setCell ?_ (by go_size) _)))) hb); clear hb; (have hlt := BD.out.lt; obtain ⟨d0, d1, d2⟩ := BD.out; go_wp2_with fail; clear d0 d1 d2 hlt))
      (refine (L1.out _).mono ?_; rintro e w1 ⟨rfl, hb⟩; have BD := Lib.hid (BD.out.keep hb BD.out.lt); have HB := Lib.hid (below_then HB.out hb); clear hb; (have hlt := BD.out.lt; obtain ⟨d0, d1, d2⟩ := BD.out; go_wp2_with fail; clear d0 d1 d2 hlt))
      ((refine (E2.out _).mono ?_; rintro e w1 ⟨rfl, hb⟩; have BD := Lib.hid (BD.out.keep hb BD.out.lt); have HB := Lib.hid (below_then HB.out hb); clear hb; (have hlt := BD.out.lt; obtain ⟨d0, d1, d2⟩ := BD.out; go_wp2_with fail; clear d0 d1 d2 hlt)); (refine (L2.out _).mono ?_; rintro e w1 ⟨rfl, hb⟩; have BD := Lib.hid (BD.out.keep hb BD.out.lt); have HB := Lib.hid (below_then HB.out hb); clear hb; (have hlt := BD.out.lt; obtain ⟨d0, d1, d2⟩ := BD.out; go_wp2_with fail; clear d0 d1 d2 hlt)); (refine (F2.out _).mono ?_; rintro e w1 ⟨rfl, hb⟩; have BD := Lib.hid (BD.out.keep hb BD.out.lt); have HB := Lib.hid (below_then HB.out hb); clear hb; (have hlt := BD.out.lt; obtain ⟨d0, d1, d2⟩ := BD.out; go_wp2_with fail; clear d0 d1 d2 hlt)); go_returns; exact ⟨rfl, HB.out⟩)

set_option maxRecDepth 100000 in set_option maxHeartbeats 4000000 in
theorem lift_wireBack (os : Os) (started : os.Started) (H : Type) (enc : TypeId × Value → H) :
    ReturnsInHanded {} Try.checked os 3 .any (Rows.wireBackSpec.pre6 enc Try.prog Try.f3 Rows.wireBackRow.domain false) (Rows.wireBackSpec.post enc Try.prog Try.f3 false true false false) := by
  refine returnsInHanded_of_change (C := Try.checked) ownKnob0 started (by kernel_rfl) Try.func3
    (ChangeSpec.witness6 (enc := enc) (C := Try.checked) false ⟨#[], #[.agg #[.int .i64 0, .int .i64 0, .int .i64 0], .int .i64 0, .int .i64 0, .int .i64 0], []⟩ 8 (by kernel_rfl) (by kernel_rfl) (by kernel_rfl) (by kernel_rfl)) ?_
  intro W base args ds gs before hval0 hW hcnd _
  have hval : ∀ (j : Nat) t v, Try.f3.params[j]? = some t → args[j]? = some v → Value.okWide Try.prog W .any base t v := hval0
  have hW' := hW
  obtain ⟨p, q, hA0, hV, rfl, hfz, hnd⟩ := hW
  have hA : DataW.TrodAll enc Try.prog W 0 (fun _ => true) true Try.f3.params.toList args.toList ds p := hA0
  rw [Try.params3] at hA hval
  have hK := hA
  obtain ⟨v0, vs0, d0, ds0, p0, q0, hargs, rfl, rfl, h0, r0⟩ := trodAll_cons hA
  obtain ⟨v1, vs1, d1, ds1, p1, q1, rfl, rfl, rfl, h1, r1⟩ := trodAll_cons r0
  obtain ⟨v2, vs2, d2, ds2, p2, q2, rfl, rfl, rfl, h2, r2⟩ := trodAll_cons r1
  obtain ⟨v3, vs3, d3, ds3, p3, q3, rfl, rfl, rfl, h3, r3⟩ := trodAll_cons r2
  obtain ⟨rfl, rfl, rfl⟩ := trodAll_nil r3
  obtain rfl : args = #[v0, v1, v2, v3] := by cases args; simp_all
  obtain ⟨d, rfl⟩ := open_dims (hval 0 _ v0 rfl rfl)
  obtain ⟨axis, rfl⟩ := okWide_int Try.underlying3 (hval 1 _ v1 rfl rfl)
  obtain ⟨m, rfl⟩ := okWide_int Try.underlying3 (hval 2 _ v2 rfl rfl)
  obtain ⟨link, rfl⟩ := okWide_int Try.underlying3 (hval 3 _ v3 rfl rfl)
  obtain ⟨rfl, rfl⟩ := trodVars_none hV
  clear hA0 hval0
  simp only [List.append_nil] at hW' hK
  refine (law05_WireBack d axis m link W).mono fun e W' ⟨he, bel⟩ => ?_
  subst he
  refine ⟨_, rfl, _, _, _, [], _, [], hW', trodAll_mk1 (shut_bool Try.underlying4 _), trodAll_below bel _ _ _ _ ?_ hK, rfl, bel.frame _, fun h => by cases h⟩
  intro t ht
  simp at ht <;> (rcases ht with rfl | rfl | rfl | rfl <;> exact ⟨by kernel_rfl, of_decide_eq_true (by kernel_rfl)⟩)

theorem holds_wireBack : Rows.wireBackRow.holds Try.pinned (OpenSpec.ofChange Rows.wireBackSpec) :=
  OpenClaim.holds_of_wide 3 Try.f3 rfl rfl rfl rfl rfl rfl rfl ⟨rfl, rfl, rfl, rfl, rfl⟩ rfl rfl rfl rfl rfl (by kernel_rfl) Try.func3 (by kernel_rfl)
    (of_decide_eq_true (by kernel_rfl)) (by unfold Func.isWrapper; first | (rw [if_pos (by decide +kernel)]; kernel_rfl) | (rw [if_neg (by decide +kernel)]; exact ⟨rfl, rfl⟩))
    (fun os started H enc _ => lift_wireBack os started H enc)

theorem WireBack_holds : Rows.WireBackSaid := holds_wireBack
end Go.Proofs.Ytpooieghlceefaa
