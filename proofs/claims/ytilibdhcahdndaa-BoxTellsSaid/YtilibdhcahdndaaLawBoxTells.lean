/- BoxTells: a canonical box, how many midplanes, whether it has one, and all of them, or the errors, are the document's: the call returns true. -/
import Derived.Test.YtilibdhcahdndaaBoxNodes
import Derived.Test.YtilibdhcahdndaaBoxHas
import Derived.Test.YtilibdhcahdndaaInts
import Derived.Test.YtilibdhcahdndaaEqBox
import Derived.Test.YtilibdhcahdndaaRow
namespace Go.Proofs.Ytilibdhcahdndaa
open Go.ChangeShapes Go.WideShapes Go.ChangeAt Go.RowKit Go.Shelf

theorem Bx.all_len (d : V3) (b : Bx) (hd : d.may) : (b.all d).length ≤ 4096 := by
  have := V3.n_le hd
  have := List.length_filter_le (b.has d) ((List.range d.n.toNat).map (fun (j : Nat) => (j : Int)))
  simp only [List.length_map, List.length_range] at this
  unfold Bx.all Bx.upto
  omega
theorem nodesV_len (d : V3) (b : Bx) : (nodesV d b).length ≤ 4096 := by
  unfold nodesV; split
  · next h => exact Bx.all_len d b (chk_may h).1
  · simp

set_option maxRecDepth 100000 in set_option maxHeartbeats 4000000 in
theorem law02_BoxTells (d : V3) (b : Bx) (m : Int) (w : World) : Calls Try.prog 9 #[.agg #[.int .i64 d.x, .int .i64 d.y, .int .i64 d.z], .agg #[.int .i64 b.b.x, .int .i64 b.b.y, .int .i64 b.b.z, .int .i64 b.s.x, .int .i64 b.s.y, .int .i64 b.s.z], .int .i64 m] w (RB w (.bool true)) := by
  have H1 := Lib.hid (fun W => box_Canon d b W)
  have H2 := Lib.hid (fun W => ref02_Canon d b W)
  have H3 := Lib.hid (fun W => box_Many d b W)
  have H4 := Lib.hid (fun W => ref02_Many d b W)
  have H5 := Lib.hid (fun W => box_Has d b m W)
  have H6 := Lib.hid (fun W => ref02_Has d b m W)
  have H7 := Lib.hid (fun W => box_Nodes d b W)
  have H8 := Lib.hid (fun W => ref02_Nodes d b W)
  have H9 := Lib.hid (fun W => box_Check d b W)
  have H10 := Lib.hid (fun W => ref02_Check d b W)
  have hln := nodesV_len d b
  have HW : Below w.heap.size w ((w.alloc (.cells #[.int .i64 d.x, .int .i64 d.y, .int .i64 d.z] 37)).alloc (.cells #[.int .i64 b.b.x, .int .i64 b.b.y, .int .i64 b.b.z, .int .i64 b.s.x, .int .i64 b.s.y, .int .i64 b.s.z] 39)) := by (repeat (first | (with_reducible exact Below.refl _ _) | (with_reducible assumption) | (with_reducible refine below_alloc ?_ _) | (with_reducible refine below_drewN ?_ _) | (with_reducible refine Below.drew ?_) | (with_reducible refine below_then ?_ (by with_reducible assumption)) | (with_reducible refine Below.setCell ?_ (by go_size) _)))
  have HF := Lib.hid HW
  have DD := Lib.hid (((Blk.new w 37 #[.int .i64 d.x, .int .i64 d.y, .int .i64 d.z]).alloc (.cells #[.int .i64 b.b.x, .int .i64 b.b.y, .int .i64 b.b.z, .int .i64 b.s.x, .int .i64 b.s.y, .int .i64 b.s.z] 39)).dims)
  have BB0 := (Blk.new (w.alloc (.cells #[.int .i64 d.x, .int .i64 d.y, .int .i64 d.z] 37)) 39 #[.int .i64 b.b.x, .int .i64 b.b.y, .int .i64 b.b.z, .int .i64 b.s.x, .int .i64 b.s.y, .int .i64 b.s.z]).box
  rw [World.size_alloc] at BB0
  have BB := Lib.hid BB0
  clear HW BB0
  generalize canV d b = c at *
  generalize volV d b = v0 at *
  generalize hasB d b m = x0 at *
  generalize hasE d b m = e0 at *
  generalize nodesV d b = l0 at *
  generalize chk d b = k0 at *
  have heq : ∀ w, (binOp .eql 39 (.agg #[.int .i64 c.b.x, .int .i64 c.b.y, .int .i64 c.b.z, .int .i64 c.s.x, .int .i64 c.s.y, .int .i64 c.s.z]) (.agg #[.int .i64 c.b.x, .int .i64 c.b.y, .int .i64 c.b.z, .int .i64 c.s.x, .int .i64 c.s.y, .int .i64 c.s.z])).run Try.prog w = .ok (.bool true) w := fun w => by rw [run_eql_box]; simp
  have hgd : Try.prog.eqGuardType Try.prog.depth 39 = false := by kernel_rfl
  go_enter Try.func9, Try.ntmps9
  (obtain ⟨d0, d1, d2⟩ := DD.out; obtain ⟨b0, b1, b2, b3, b4, b5⟩ := BB.out; have t0 := DD.out.lt; have t1 := BB.out.lt)
  go_wp2_with fail
  (clear d0 d1 d2 b0 b1 b2 b3 b4 b5 t0 t1)
  refine (H1.out _).mono ?_
  rintro e w1 ⟨rfl, hb1⟩
  (have HF := Lib.hid (below_then HF.out hb1); have DD := Lib.hid (DD.out.keep hb1 DD.out.lt); have BB := Lib.hid (BB.out.keep hb1 BB.out.lt))
  clear hb1
  have hb1 := below_alloc (Below.refl w1.heap.size w1) (.cells #[.int .i64 c.b.x, .int .i64 c.b.y, .int .i64 c.b.z, .int .i64 c.s.x, .int .i64 c.s.y, .int .i64 c.s.z] 39)
  (have HF := Lib.hid (below_then HF.out hb1); have DD := Lib.hid (DD.out.keep hb1 DD.out.lt); have BB := Lib.hid (BB.out.keep hb1 BB.out.lt))
  have CA := Lib.hid ((Blk.new w1 39 #[.int .i64 c.b.x, .int .i64 c.b.y, .int .i64 c.b.z, .int .i64 c.s.x, .int .i64 c.s.y, .int .i64 c.s.z]).box)
  clear hb1
  (obtain ⟨d0, d1, d2⟩ := DD.out; obtain ⟨b0, b1, b2, b3, b4, b5⟩ := BB.out; have t0 := DD.out.lt; have t1 := BB.out.lt)
  go_wp2_with fail
  (clear d0 d1 d2 b0 b1 b2 b3 b4 b5 t0 t1)
  refine (H2.out _).mono ?_
  rintro e w2 ⟨rfl, hb1⟩
  (have HF := Lib.hid (below_then HF.out hb1); have DD := Lib.hid (DD.out.keep hb1 DD.out.lt); have BB := Lib.hid (BB.out.keep hb1 BB.out.lt))
  (have CA := Lib.hid (CA.out.keep hb1 CA.out.lt))
  clear hb1
  have hb1 := below_alloc (Below.refl w2.heap.size w2) (.cells #[.int .i64 c.b.x, .int .i64 c.b.y, .int .i64 c.b.z, .int .i64 c.s.x, .int .i64 c.s.y, .int .i64 c.s.z] 39)
  (have HF := Lib.hid (below_then HF.out hb1); have DD := Lib.hid (DD.out.keep hb1 DD.out.lt); have BB := Lib.hid (BB.out.keep hb1 BB.out.lt))
  (have CA := Lib.hid (CA.out.keep hb1 CA.out.lt))
  have CC := Lib.hid ((Blk.new w2 39 #[.int .i64 c.b.x, .int .i64 c.b.y, .int .i64 c.b.z, .int .i64 c.s.x, .int .i64 c.s.y, .int .i64 c.s.z]).box)
  clear hb1
  (obtain ⟨d0, d1, d2⟩ := DD.out; obtain ⟨b0, b1, b2, b3, b4, b5⟩ := BB.out; have t0 := DD.out.lt; have t1 := BB.out.lt)
  go_wp2_with fail
  (clear d0 d1 d2 b0 b1 b2 b3 b4 b5 t0 t1)
  refine (H3.out _).mono ?_
  rintro e w3 ⟨rfl, hb1⟩
  (have HF := Lib.hid (below_then HF.out hb1); have DD := Lib.hid (DD.out.keep hb1 DD.out.lt); have BB := Lib.hid (BB.out.keep hb1 BB.out.lt))
  (have CA := Lib.hid (CA.out.keep hb1 CA.out.lt)); (have CC := Lib.hid (CC.out.keep hb1 CC.out.lt))
  clear hb1
  (obtain ⟨d0, d1, d2⟩ := DD.out; obtain ⟨b0, b1, b2, b3, b4, b5⟩ := BB.out; have t0 := DD.out.lt; have t1 := BB.out.lt)
  go_wp2_with fail
  (clear d0 d1 d2 b0 b1 b2 b3 b4 b5 t0 t1)
  refine (H4.out _).mono ?_
  rintro e w4 ⟨rfl, hb1⟩
  (have HF := Lib.hid (below_then HF.out hb1); have DD := Lib.hid (DD.out.keep hb1 DD.out.lt); have BB := Lib.hid (BB.out.keep hb1 BB.out.lt))
  (have CA := Lib.hid (CA.out.keep hb1 CA.out.lt)); (have CC := Lib.hid (CC.out.keep hb1 CC.out.lt))
  clear hb1
  (obtain ⟨d0, d1, d2⟩ := DD.out; obtain ⟨b0, b1, b2, b3, b4, b5⟩ := BB.out; have t0 := DD.out.lt; have t1 := BB.out.lt)
  go_wp2_with fail
  (clear d0 d1 d2 b0 b1 b2 b3 b4 b5 t0 t1)
  refine (H5.out _).mono ?_
  rintro e w5 ⟨rfl, hb1⟩
  (have HF := Lib.hid (below_then HF.out hb1); have DD := Lib.hid (DD.out.keep hb1 DD.out.lt); have BB := Lib.hid (BB.out.keep hb1 BB.out.lt))
  (have CA := Lib.hid (CA.out.keep hb1 CA.out.lt)); (have CC := Lib.hid (CC.out.keep hb1 CC.out.lt))
  clear hb1
  (obtain ⟨d0, d1, d2⟩ := DD.out; obtain ⟨b0, b1, b2, b3, b4, b5⟩ := BB.out; have t0 := DD.out.lt; have t1 := BB.out.lt)
  go_wp2_with fail
  (clear d0 d1 d2 b0 b1 b2 b3 b4 b5 t0 t1)
  refine (H6.out _).mono ?_
  rintro e w6 ⟨rfl, hb1⟩
  (have HF := Lib.hid (below_then HF.out hb1); have DD := Lib.hid (DD.out.keep hb1 DD.out.lt); have BB := Lib.hid (BB.out.keep hb1 BB.out.lt))
  (have CA := Lib.hid (CA.out.keep hb1 CA.out.lt)); (have CC := Lib.hid (CC.out.keep hb1 CC.out.lt))
  clear hb1
  (obtain ⟨d0, d1, d2⟩ := DD.out; obtain ⟨b0, b1, b2, b3, b4, b5⟩ := BB.out; have t0 := DD.out.lt; have t1 := BB.out.lt)
  go_wp2_with fail
  (clear d0 d1 d2 b0 b1 b2 b3 b4 b5 t0 t1)
  refine (H7.out _).mono ?_
  rintro e w7 ⟨v7, rfl, q7, hb1⟩
  obtain ⟨b7, k7, rfl, s7, _⟩ := list_of_own q7 (by omega)
  have L1 := Lib.hid s7
  (have HF := Lib.hid (below_then HF.out hb1); have DD := Lib.hid (DD.out.keep hb1 DD.out.lt); have BB := Lib.hid (BB.out.keep hb1 BB.out.lt))
  (have CA := Lib.hid (CA.out.keep hb1 CA.out.lt)); (have CC := Lib.hid (CC.out.keep hb1 CC.out.lt))
  clear hb1 q7 s7
  (obtain ⟨d0, d1, d2⟩ := DD.out; obtain ⟨b0, b1, b2, b3, b4, b5⟩ := BB.out; have t0 := DD.out.lt; have t1 := BB.out.lt)
  go_wp2_with fail
  (clear d0 d1 d2 b0 b1 b2 b3 b4 b5 t0 t1)
  refine (H8.out _).mono ?_
  rintro e w8 ⟨v8, rfl, q8, hb1⟩
  obtain ⟨b8, k8, rfl, s8, _⟩ := list_of_own q8 (by omega)
  have L2 := Lib.hid s8
  (have HF := Lib.hid (below_then HF.out hb1); have DD := Lib.hid (DD.out.keep hb1 DD.out.lt); have BB := Lib.hid (BB.out.keep hb1 BB.out.lt))
  (have CA := Lib.hid (CA.out.keep hb1 CA.out.lt)); (have CC := Lib.hid (CC.out.keep hb1 CC.out.lt)); (have L1 := Lib.hid (L1.out.keep hb1))
  clear hb1 q8 s8
  (obtain ⟨d0, d1, d2⟩ := DD.out; obtain ⟨b0, b1, b2, b3, b4, b5⟩ := BB.out; have t0 := DD.out.lt; have t1 := BB.out.lt)
  obtain ⟨x0, x1, x2, x3, x4, x5⟩ := CA.out
  obtain ⟨y0, y1, y2, y3, y4, y5⟩ := CC.out
  have t2 := CA.out.lt
  have t3 := CC.out.lt
  go_wp2_with fail
  (refine wp_region_aft (by kernel_rfl) (by kernel_rfl) ?_; (repeat (any_goals (first | go_big_quiet_step ((first | (go_at_call 30; refine Calls.aft_of (H9.out _)) | (go_at_call 38; refine Calls.aft_of (H10.out _)) | (go_at_call 28; refine Calls.aft_of (Calls.rb_eq (ref02_Ints b7 b8 k7 k8 l0 l0 _ (L1.out.keep (Aft.h _)) (L2.out.keep (Aft.h _))) (show Value.bool (decide (l0 = l0)) = .bool true by simp))))) | quiet_step ((first | (go_at_call 30; refine Calls.aft_of (H9.out _)) | (go_at_call 38; refine Calls.aft_of (H10.out _)) | (go_at_call 28; refine Calls.aft_of (Calls.rb_eq (ref02_Ints b7 b8 k7 k8 l0 l0 _ (L1.out.keep (Aft.h _)) (L2.out.keep (Aft.h _))) (show Value.bool (decide (l0 = l0)) = .bool true by simp))))) | (refine wpQuiet_step (fun K hK => ?_); go_simp; split <;> (refine hK _ ?_; clear hK K))))); all_goals (refine wpQuiet_nil ?_; intro wq hw'; obtain ⟨x1, hx1⟩ := hw'; have hbq := x1.h; rw [← hx1] at hbq; clear hx1 x1))
  go_wp2_with fail
  go_returns
  exact ⟨rfl, below_then HF.out hbq⟩

set_option maxRecDepth 100000 in set_option maxHeartbeats 4000000 in
theorem lift_boxTells (os : Os) (started : os.Started) (H : Type) (enc : TypeId × Value → H) :
    ReturnsInHanded {} Try.checked os 9 .any (Rows.boxTellsSpec.pre6 enc Try.prog Try.f9 Rows.boxTellsRow.domain false) (Rows.boxTellsSpec.post enc Try.prog Try.f9 false true false false) := by
  refine returnsInHanded_of_change (C := Try.checked) ownKnob0 started (by kernel_rfl) Try.func9
    (ChangeSpec.witness6 (enc := enc) (C := Try.checked) false ⟨#[], #[.agg #[.int .i64 0, .int .i64 0, .int .i64 0], .agg #[.int .i64 0, .int .i64 0, .int .i64 0, .int .i64 0, .int .i64 0, .int .i64 0], .int .i64 0], []⟩ 8 (by kernel_rfl) (by kernel_rfl) (by kernel_rfl) (by kernel_rfl)) ?_
  intro W base args ds gs before hval0 hW hcnd _
  have hval : ∀ (j : Nat) t v, Try.f9.params[j]? = some t → args[j]? = some v → Value.okWide Try.prog W .any base t v := hval0
  have hW' := hW
  obtain ⟨p, q, hA0, hV, rfl, hfz, hnd⟩ := hW
  have hA : DataW.TrodAll enc Try.prog W 0 (fun _ => true) true Try.f9.params.toList args.toList ds p := hA0
  rw [Try.params9] at hA hval
  have hK := hA
  obtain ⟨v0, vs0, d0, ds0, p0, q0, hargs, rfl, rfl, h0, r0⟩ := trodAll_cons hA
  obtain ⟨v1, vs1, d1, ds1, p1, q1, rfl, rfl, rfl, h1, r1⟩ := trodAll_cons r0
  obtain ⟨v2, vs2, d2, ds2, p2, q2, rfl, rfl, rfl, h2, r2⟩ := trodAll_cons r1
  obtain ⟨rfl, rfl, rfl⟩ := trodAll_nil r2
  obtain rfl : args = #[v0, v1, v2] := by cases args; simp_all
  obtain ⟨d, rfl⟩ := open_dims (hval 0 _ v0 rfl rfl)
  obtain ⟨b, rfl⟩ := open_box (hval 1 _ v1 rfl rfl)
  obtain ⟨m, rfl⟩ := okWide_int Try.underlying3 (hval 2 _ v2 rfl rfl)
  obtain ⟨rfl, rfl⟩ := trodVars_none hV
  clear hA0 hval0
  simp only [List.append_nil] at hW' hK
  refine (law02_BoxTells d b m W).mono fun e W' ⟨he, bel⟩ => ?_
  subst he
  refine ⟨_, rfl, _, _, _, [], _, [], hW', trodAll_mk1 (shut_bool Try.underlying4 _), trodAll_below bel _ _ _ _ ?_ hK, rfl, bel.frame _, fun h => by cases h⟩
  intro t ht
  simp at ht
  rcases ht with rfl | rfl | rfl <;> exact ⟨by kernel_rfl, of_decide_eq_true (by kernel_rfl)⟩

theorem holds_boxTells : Rows.boxTellsRow.holds Try.pinned (OpenSpec.ofChange Rows.boxTellsSpec) :=
  OpenClaim.holds_of_wide 9 Try.f9 rfl rfl rfl rfl rfl rfl rfl ⟨rfl, rfl, rfl, rfl, rfl⟩ rfl rfl rfl rfl rfl (by kernel_rfl) Try.func9 (by kernel_rfl)
    (of_decide_eq_true (by kernel_rfl)) (by unfold Func.isWrapper; first | (rw [if_pos (by decide +kernel)]; kernel_rfl) | (rw [if_neg (by decide +kernel)]; exact ⟨rfl, rfl⟩))
    (fun os started H enc _ => lift_boxTells os started H enc)

theorem BoxTells_holds : Rows.BoxTellsSaid := holds_boxTells
end Go.Proofs.Ytilibdhcahdndaa
