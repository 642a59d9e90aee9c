/- BoxNames: the chapter's examples: the call returns true. -/
import Derived.Test.YtilibdhcahdndaaBoxAlive
import Derived.Test.YtilibdhcahdndaaEqBox
import Derived.Test.YtilibdhcahdndaaRow
namespace Go.Proofs.Ytilibdhcahdndaa
open Go.ChangeShapes Go.WideShapes Go.ChangeAt Go.RowKit Go.Shelf

def exOne : Bx := ⟨⟨0, 0, 0⟩, ⟨1, 1, 1⟩⟩
theorem exBoxes : canV exD ⟨⟨1, 2, 1⟩, ⟨4, 3, 1⟩⟩ = ⟨⟨0, 0, 1⟩, ⟨4, 3, 1⟩⟩ ∧ chk exD ⟨⟨1, 2, 1⟩, ⟨4, 3, 1⟩⟩ = 0 ∧ boxMeet exD exA exOne = true ∧ chk2 exD exA exOne = 0 ∧ boxWithin exD exOne exA = true ∧ chk2 exD exOne exA = 0 ∧ chk exD Bx.zero = 2 ∧ chk ⟨0, 0, 0⟩ exOne = 8 := by decide +kernel

set_option maxRecDepth 100000 in set_option maxHeartbeats 4000000 in
theorem law02_BoxNames (w : World) : Calls Try.prog 7 #[] w (RB w (.bool true)) := by
  obtain ⟨e1, e2, e3, e4, e5, e6, e7, e8⟩ := exBoxes
  have H1 := Lib.hid (fun W => by have := box_Canon exD ⟨⟨1, 2, 1⟩, ⟨4, 3, 1⟩⟩ W; rw [e1, e2] at this; exact this)
  have H2 := Lib.hid (fun W => by have := box_Meet exD exA exOne W; rw [e3, e4] at this; exact this)
  have H3 := Lib.hid (fun W => by have := box_Within exD exOne exA W; rw [e5, e6] at this; exact this)
  have H4 := Lib.hid (fun W => by have := box_Check exD Bx.zero W; rw [e7] at this; exact this)
  have H5 := Lib.hid (fun W => by have := box_Check ⟨0, 0, 0⟩ exOne W; rw [e8] at this; exact this)
  simp only [exD, exA, exOne, Bx.zero] at H1 H2 H3 H4 H5
  clear e1 e2 e3 e4 e5 e6 e7 e8
  have heq : ∀ w, (binOp .eql 39 (.agg #[.int .i64 0, .int .i64 0, .int .i64 1, .int .i64 4, .int .i64 3, .int .i64 1]) (.agg #[.int .i64 0, .int .i64 0, .int .i64 1, .int .i64 4, .int .i64 3, .int .i64 1])).run Try.prog w = .ok (.bool true) w := fun w => by
    have := run_eql_box ⟨⟨0, 0, 1⟩, ⟨4, 3, 1⟩⟩ ⟨⟨0, 0, 1⟩, ⟨4, 3, 1⟩⟩ w
    simpa using this
  have hgd : Try.prog.eqGuardType Try.prog.depth 39 = false := by kernel_rfl
  go_enter Try.func7, Try.ntmps7
  go_wp2_with fail
  refine (law02_some _).mono ?_
  rintro e w1 ⟨rfl, hb1⟩
  have HF := Lib.hid hb1
  clear hb1
  go_wp2_with fail
  refine (H1.out _).mono ?_
  rintro e w2 ⟨rfl, hb1⟩
  have HF := Lib.hid (below_then HF.out hb1)
  clear hb1
  go_wp2_with fail
  have hb1 := below_alloc (below_alloc (Below.refl w2.heap.size w2) (.cells #[.int .i64 0, .int .i64 0, .int .i64 1, .int .i64 4, .int .i64 3, .int .i64 1] 39)) (.cells #[.int .i64 0, .int .i64 0, .int .i64 0, .int .i64 1, .int .i64 1, .int .i64 1] 39)
  have HF := Lib.hid (below_then HF.out hb1)
  have C1 := Lib.hid (((Blk.new w2 39 #[.int .i64 0, .int .i64 0, .int .i64 1, .int .i64 4, .int .i64 3, .int .i64 1]).alloc (.cells #[.int .i64 0, .int .i64 0, .int .i64 0, .int .i64 1, .int .i64 1, .int .i64 1] 39)).box (b := ⟨⟨0, 0, 1⟩, ⟨4, 3, 1⟩⟩))
  have C20 := (Blk.new (w2.alloc (.cells #[.int .i64 0, .int .i64 0, .int .i64 1, .int .i64 4, .int .i64 3, .int .i64 1] 39)) 39 #[.int .i64 0, .int .i64 0, .int .i64 0, .int .i64 1, .int .i64 1, .int .i64 1]).box (b := ⟨⟨0, 0, 0⟩, ⟨1, 1, 1⟩⟩)
  rw [World.size_alloc] at C20
  have C2 := Lib.hid C20
  clear hb1 C20
  obtain ⟨x0, x1, x2, x3, x4, x5⟩ := C1.out
  obtain ⟨y0, y1, y2, y3, y4, y5⟩ := C2.out
  have t3 := C1.out.lt
  have t4 := C2.out.lt
  rw [World.size_alloc, World.size_alloc] at t3 t4
  (refine wp_region_aft (by kernel_rfl) (by kernel_rfl) ?_; (repeat (any_goals (first | go_big_quiet_step ((first | (go_at_call 32; refine Calls.aft_of (law02_some _)) | (go_at_call 33; refine Calls.aft_of (law02_first _)) | (go_at_call 21; refine Calls.aft_of (H2.out _)))) | quiet_step ((first | (go_at_call 32; refine Calls.aft_of (law02_some _)) | (go_at_call 33; refine Calls.aft_of (law02_first _)) | (go_at_call 21; refine Calls.aft_of (H2.out _)))) | (refine wpQuiet_step (fun K hK => ?_); go_simp; split <;> (refine hK _ ?_; clear hK K))))); all_goals (refine wpQuiet_nil ?_; intro wq hw'; obtain ⟨x1, hx1⟩ := hw'; have hbq := x1.h; rw [← hx1] at hbq; clear hx1 x1))
  clear x0 x1 x2 x3 x4 x5 y0 y1 y2 y3 y4 y5 t3 t4
  have C1 := Lib.hid (C1.out.keep hbq C1.out.lt)
  have C2 := Lib.hid (C2.out.keep hbq C2.out.lt)
  have HF := Lib.hid (below_then HF.out hbq)
  clear hbq
  obtain ⟨w3, hw3⟩ : ∃ w3, w3 = wq := ⟨_, rfl⟩
  subst hw3
  go_wp2_with fail
  obtain ⟨x0, x1, x2, x3, x4, x5⟩ := C1.out
  obtain ⟨y0, y1, y2, y3, y4, y5⟩ := C2.out
  have t3 := C1.out.lt
  have t4 := C2.out.lt
  (refine wp_region_aft (by kernel_rfl) (by kernel_rfl) ?_; (repeat (any_goals (first | go_big_quiet_step ((first | (go_at_call 32; refine Calls.aft_of (law02_some _)) | (go_at_call 33; refine Calls.aft_of (law02_first _)) | (go_at_call 23; refine Calls.aft_of (H3.out _)))) | quiet_step ((first | (go_at_call 32; refine Calls.aft_of (law02_some _)) | (go_at_call 33; refine Calls.aft_of (law02_first _)) | (go_at_call 23; refine Calls.aft_of (H3.out _)))) | (refine wpQuiet_step (fun K hK => ?_); go_simp; split <;> (refine hK _ ?_; clear hK K))))); all_goals (refine wpQuiet_nil ?_; intro wq hw'; obtain ⟨x1, hx1⟩ := hw'; have hbq := x1.h; rw [← hx1] at hbq; clear hx1 x1))
  clear x0 x1 x2 x3 x4 x5 y0 y1 y2 y3 y4 y5 t3 t4
  have C1 := Lib.hid (C1.out.keep hbq C1.out.lt)
  have C2 := Lib.hid (C2.out.keep hbq C2.out.lt)
  have HF := Lib.hid (below_then HF.out hbq)
  clear hbq
  go_wp2_with fail
  refine (law02_alive _).mono ?_
  rintro e w5 ⟨rfl, hb1⟩
  have C1 := Lib.hid (C1.out.keep hb1 C1.out.lt)
  have C2 := Lib.hid (C2.out.keep hb1 C2.out.lt)
  have HF := Lib.hid (below_then HF.out hb1)
  clear hb1
  obtain ⟨x0, x1, x2, x3, x4, x5⟩ := C1.out
  go_wp2_with fail
  refine (law02_some _).mono ?_
  clear x0 x1 x2 x3 x4 x5
  rintro e w6 ⟨rfl, hb1⟩
  have C2 := Lib.hid (C2.out.keep hb1 C2.out.lt)
  have HF := Lib.hid (below_then HF.out hb1)
  clear hb1
  go_wp2_with fail
  refine (H4.out _).mono ?_
  rintro e w7 ⟨rfl, hb1⟩
  have C2 := Lib.hid (C2.out.keep hb1 C2.out.lt)
  have HF := Lib.hid (below_then HF.out hb1)
  clear hb1
  obtain ⟨y0, y1, y2, y3, y4, y5⟩ := C2.out
  go_wp2_with fail
  refine (H5.out _).mono ?_
  rintro e w8 ⟨rfl, hb1⟩
  have HF := Lib.hid (below_then HF.out hb1)
  clear hb1 y0 y1 y2 y3 y4 y5
  go_wp2_with fail
  go_returns
  exact ⟨rfl, HF.out⟩

set_option maxRecDepth 100000 in set_option maxHeartbeats 4000000 in
theorem lift_boxNames (os : Os) (started : os.Started) (H : Type) (enc : TypeId × Value → H) :
    ReturnsInHanded {} Try.checked os 7 .any (Rows.boxNamesSpec.pre6 enc Try.prog Try.f7 Rows.boxNamesRow.domain false) (Rows.boxNamesSpec.post enc Try.prog Try.f7 false true false false) := by
  refine returnsInHanded_of_change (C := Try.checked) ownKnob0 started (by kernel_rfl) Try.func7
    (ChangeSpec.witness6 (enc := enc) (C := Try.checked) false ⟨#[], #[], []⟩ 8 (by kernel_rfl) (by kernel_rfl) (by kernel_rfl) (by kernel_rfl)) ?_
  intro W base args ds gs before hval0 hW hcnd _
  have hval : ∀ (j : Nat) t v, Try.f7.params[j]? = some t → args[j]? = some v → Value.okWide Try.prog W .any base t v := hval0
  have hW' := hW
  obtain ⟨p, q, hA0, hV, rfl, hfz, hnd⟩ := hW
  have hA : DataW.TrodAll enc Try.prog W 0 (fun _ => true) true Try.f7.params.toList args.toList ds p := hA0
  rw [Try.params7] at hA hval
  have hK := hA
  obtain ⟨rfl, rfl, rfl⟩ := trodAll_none hA
  obtain ⟨rfl, rfl⟩ := trodVars_none hV
  clear hA0 hval0
  simp only [List.append_nil] at hW' hK
  refine (law02_BoxNames W).mono fun e W' ⟨he, bel⟩ => ?_
  subst he
  refine ⟨_, rfl, _, _, _, [], _, [], hW', trodAll_mk1 (shut_bool Try.underlying4 _), trodAll_below bel _ _ _ _ ?_ hK, rfl, bel.frame _, fun h => by cases h⟩
  intro t ht
  simp at ht <;> (rcases ht with rfl <;> exact ⟨by kernel_rfl, of_decide_eq_true (by kernel_rfl)⟩)

theorem holds_boxNames : Rows.boxNamesRow.holds Try.pinned (OpenSpec.ofChange Rows.boxNamesSpec) :=
  OpenClaim.holds_of_wide 7 Try.f7 rfl rfl rfl rfl rfl rfl rfl ⟨rfl, rfl, rfl, rfl, rfl⟩ rfl rfl rfl rfl rfl (by kernel_rfl) Try.func7 (by kernel_rfl)
    (of_decide_eq_true (by kernel_rfl)) (by unfold Func.isWrapper; first | (rw [if_pos (by decide +kernel)]; kernel_rfl) | (rw [if_neg (by decide +kernel)]; exact ⟨rfl, rfl⟩))
    (fun os started H enc _ => lift_boxNames os started H enc)

theorem BoxNames_holds : Rows.BoxNamesSaid := holds_boxNames
end Go.Proofs.Ytilibdhcahdndaa
