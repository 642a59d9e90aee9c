/- GrowNames: the error's number and the chapter's examples are as they are told: the call returns true. -/
import Derived.Test.YtofoenlhbmammaaQ0GrowXG13
import Derived.Test.YtofoenlhbmammaaQ0RowSG13
set_option linter.unusedVariables false
set_option linter.unusedSimpArgs false
namespace Go.Proofs.Ytofoenlhbmammaa

section
open Go.ChangeShapes Go.WideShapes Go.ChangeAt Go.RowKit Go.Shelf

set_option maxRecDepth 100000 in set_option maxHeartbeats 4000000 in
theorem law13_GrowNames (w : World) : Calls Try.prog 5 #[] w (RB w (.bool true)) := by
  have N1 := Lib.hid (fun W => law13_line W)
  have O1 := Lib.hid (fun b s W => law13_of b s W)
  have L1 := Lib.hid (fun W B (h : Blk W B 48 #[.int .u64 2]) => show Calls Try.prog 11 #[.agg #[.int .i64 3, .int .i64 1, .int .i64 1], .slice (some ⟨B, 0, none⟩) 1 1] W (RB W (.tuple #[.int .i64 2, .int .i64 0])) from by
    have := grow_Largest lineD (some ⟨B, 0, none⟩) 1 [2] W (set_blk h (by decide))
    rw [line_free.1, line_free.2, line_top] at this
    exact this)
  have G1 := Lib.hid (fun W B (h : Blk W B 48 #[.int .u64 2]) => show Calls Try.prog 18 #[.agg #[.int .i64 3, .int .i64 1, .int .i64 1], .agg #[.int .i64 0, .int .i64 0, .int .i64 0, .int .i64 1, .int .i64 1, .int .i64 1], .slice (some ⟨B, 0, none⟩) 1 1] W (RB W (.tuple #[.agg #[.int .i64 2, .int .i64 0, .int .i64 0, .int .i64 2, .int .i64 1, .int .i64 1], .int .i64 0])) from by
    have := grow_Grown lineD (ofB 0 1) (some ⟨B, 0, none⟩) 1 [2] W (set_blk h (by decide))
    rw [line_grown.1, line_grown.2] at this
    exact this)
  have G2 := Lib.hid (fun W B (h : Blk W B 48 #[.int .u64 2]) => show Calls Try.prog 18 #[.agg #[.int .i64 3, .int .i64 1, .int .i64 1], .agg #[.int .i64 1, .int .i64 0, .int .i64 0, .int .i64 1, .int .i64 1, .int .i64 1], .slice (some ⟨B, 0, none⟩) 1 1] W (RB W (.tuple #[.agg #[.int .i64 0, .int .i64 0, .int .i64 0, .int .i64 0, .int .i64 0, .int .i64 0], .int .i64 80])) from by
    have := grow_Grown lineD (ofB 1 1) (some ⟨B, 0, none⟩) 1 [2] W (set_blk h (by decide))
    rw [show gnV lineD [2] (ofB 1 1) = Bx.zero from if_neg (by rw [line_taken]; decide), line_taken] at this
    exact this)
  have F1 := Lib.hid (fun W B (h : Blk W B 48 #[.int .u64 0, .int .u64 0]) => show Calls Try.prog 10 #[.agg #[.int .i64 5, .int .i64 13, .int .i64 1], .slice (some ⟨B, 0, none⟩) 2 2] W (RXE W [] 4) from by
    have := grow_Free ⟨5, 13, 1⟩ (some ⟨B, 0, none⟩) 2 [0, 0] W ⟨fun i v hv => ⟨B, 0, rfl, by
      match i, hv with
      | 0, hv => rw [Nat.zero_add]; exact h.cell 0 v (by simpa [wcells] using hv)
      | 1, hv => rw [Nat.zero_add]; exact h.cell 1 v (by simpa [wcells] using hv)⟩, by decide, fun x hx => by simp at hx; rw [hx]; decide⟩
    rw [show frV ⟨5, 13, 1⟩ [0, 0] = [] from if_neg (by rw [far_many]; decide), far_many] at this
    exact this)
  have F2 := Lib.hid (fun W B (h : Blk W B 48 #[.int .u64 8]) => show Calls Try.prog 10 #[.agg #[.int .i64 3, .int .i64 1, .int .i64 1], .slice (some ⟨B, 0, none⟩) 1 1] W (RXE W [] 8) from by
    have := grow_Free lineD (some ⟨B, 0, none⟩) 1 [8] W (set_blk h (by decide))
    rw [show frV lineD [8] = [] from if_neg (by rw [line_bad]; decide), line_bad] at this
    exact this)
  have AL := Lib.hid (fun W => law13_alive W)
  have heq : ∀ w, (binOp .eql 27 (.agg #[.int .i64 2, .int .i64 0, .int .i64 0, .int .i64 2, .int .i64 1, .int .i64 1]) (.agg #[.int .i64 2, .int .i64 0, .int .i64 0, .int .i64 2, .int .i64 1, .int .i64 1])).run Try.prog w = .ok (.bool true) w := fun w => by
    have := run_eql_box ⟨⟨2, 0, 0⟩, ⟨2, 1, 1⟩⟩ ⟨⟨2, 0, 0⟩, ⟨2, 1, 1⟩⟩ w
    rw [decide_eq_true rfl] at this
    exact this
  have hgd : Try.prog.eqGuardType Try.prog.depth 27 = false := by kernel_rfl
  go_enter Try.func5, Try.ntmps5
  go_wp2_with fail
  refine (N1.out _).mono ?_
  rintro e w1 ⟨rfl, hb1⟩
  have HB := Lib.hid hb1
  clear hb1
  go_wp2_with fail
  refine (L1.out _ _ (Blk.new w1 _ _)).mono ?_
  rintro e w2 ⟨rfl, hb⟩
  have HB := Lib.hid (below_then HB.out (below_then (show Below w1.heap.size w1 _ by (repeat (first | (with_reducible exact Below.refl _ _) | (with_reducible assumption) | (with_reducible refine below_alloc ?_ _) | (with_reducible refine below_drewN ?_ _) | (with_reducible refine Below.drew ?_) | (with_reducible refine below_then ?_ (by with_reducible assumption)) | (with_reducible refine Below.setCell ?_ (by go_size) _)))) hb))
  clear hb
  go_wp2_with fail
  refine (N1.out _).mono ?_
  rintro e w3 ⟨rfl, hb⟩
  have HB := Lib.hid (below_then HB.out hb)
  clear hb
  go_wp2_with fail
  refine (O1.out _ _ _).mono ?_
  rintro e w4 ⟨rfl, hb⟩
  have HB := Lib.hid (below_then HB.out hb)
  clear hb
  go_wp2_with fail
  refine (G1.out _ _ (Blk.new w4 _ _)).mono ?_
  rintro e w5 ⟨rfl, hb⟩
  have HB := Lib.hid (below_then HB.out (below_then (show Below w4.heap.size w4 _ by (repeat (first | (with_reducible exact Below.refl _ _) | (with_reducible assumption) | (with_reducible refine below_alloc ?_ _) | (with_reducible refine below_drewN ?_ _) | (with_reducible refine Below.drew ?_) | (with_reducible refine below_then ?_ (by with_reducible assumption)) | (with_reducible refine Below.setCell ?_ (by go_size) _)))) hb))
  clear hb
  go_wp2_with fail
  have BX := Lib.hid (Blk.new w5 27 #[.int .i64 2, .int .i64 0, .int .i64 0, .int .i64 2, .int .i64 1, .int .i64 1])
  have HB5 := Lib.hid (below_then HB.out (show Below w5.heap.size w5 (w5.alloc (.cells #[.int .i64 2, .int .i64 0, .int .i64 0, .int .i64 2, .int .i64 1, .int .i64 1] 27)) by (repeat (first | (with_reducible exact Below.refl _ _) | (with_reducible assumption) | (with_reducible refine below_alloc ?_ _) | (with_reducible refine below_drewN ?_ _) | (with_reducible refine Below.drew ?_) | (with_reducible refine below_then ?_ (by with_reducible assumption)) | (with_reducible refine Below.setCell ?_ (by go_size) _)))))
  refine (N1.out _).mono ?_
  rintro e w6 ⟨rfl, hb⟩
  have HB := Lib.hid (below_then HB5.out hb)
  have BX := Lib.hid (BX.out.below hb)
  clear hb HB5
  go_wp2_with fail
  refine (O1.out _ _ _).mono ?_
  rintro e w7 ⟨rfl, hb⟩
  have HB := Lib.hid (below_then HB.out hb)
  have BX := Lib.hid (BX.out.below hb)
  clear hb
  go_wp2_with fail
  refine (G2.out _ _ (Blk.new w7 _ _)).mono ?_
  rintro e w8 ⟨rfl, hb⟩
  have hb8 := below_then (show Below w7.heap.size w7 _ by (repeat (first | (with_reducible exact Below.refl _ _) | (with_reducible assumption) | (with_reducible refine below_alloc ?_ _) | (with_reducible refine below_drewN ?_ _) | (with_reducible refine Below.drew ?_) | (with_reducible refine below_then ?_ (by with_reducible assumption)) | (with_reducible refine Below.setCell ?_ (by go_size) _)))) hb
  have HB := Lib.hid (below_then HB.out hb8)
  have BX := Lib.hid (BX.out.below hb8)
  clear hb hb8
  go_wp2_with fail
  have hF := Blk.new (w8.alloc (.cells #[.int .i64 0, .int .i64 0, .int .i64 0, .int .i64 0, .int .i64 0, .int .i64 0] 27)) 48 #[.int .u64 0, .int .u64 0]
  rw [World.size_alloc] at hF
  have hb80 : Below w8.heap.size w8 ((w8.alloc (.cells #[.int .i64 0, .int .i64 0, .int .i64 0, .int .i64 0, .int .i64 0, .int .i64 0] 27)).alloc (.cells #[.int .u64 0, .int .u64 0] 48)) := by (repeat (first | (with_reducible exact Below.refl _ _) | (with_reducible assumption) | (with_reducible refine below_alloc ?_ _) | (with_reducible refine below_drewN ?_ _) | (with_reducible refine Below.drew ?_) | (with_reducible refine below_then ?_ (by with_reducible assumption)) | (with_reducible refine Below.setCell ?_ (by go_size) _)))
  refine (F1.out _ _ hF).mono ?_
  rintro e w9 ⟨v, rfl, ho, hb⟩
  have hb9 := below_then hb80 hb
  have HB := Lib.hid (below_then HB.out hb9)
  have BX := Lib.hid (BX.out.below hb9)
  obtain ⟨bv, cv, rfl, _⟩ := own_rd ho
  clear hb hb9 hb80 hF ho
  go_wp2_with fail
  refine (N1.out _).mono ?_
  rintro e w10 ⟨rfl, hb⟩
  have HB := Lib.hid (below_then HB.out hb)
  have BX := Lib.hid (BX.out.below hb)
  clear hb
  go_wp2_with fail
  refine (F2.out _ _ (Blk.new w10 _ _)).mono ?_
  rintro e w11 ⟨v, rfl, ho, hb⟩
  have hb11 := below_then (show Below w10.heap.size w10 _ by (repeat (first | (with_reducible exact Below.refl _ _) | (with_reducible assumption) | (with_reducible refine below_alloc ?_ _) | (with_reducible refine below_drewN ?_ _) | (with_reducible refine Below.drew ?_) | (with_reducible refine below_then ?_ (by with_reducible assumption)) | (with_reducible refine Below.setCell ?_ (by go_size) _)))) hb
  have HB := Lib.hid (below_then HB.out hb11)
  have hBX := BX.out.below hb11
  obtain ⟨bu, cu, rfl, _⟩ := own_rd ho
  have x0 := hBX.cell 0 _ rfl
  have x1 := hBX.cell 1 _ rfl
  have x2 := hBX.cell 2 _ rfl
  have x3 := hBX.cell 3 _ rfl
  have x4 := hBX.cell 4 _ rfl
  have x5 := hBX.cell 5 _ rfl
  have xl := hBX.lt
  clear hb hb11 ho hBX
  go_wp2_with fail
  (refine wp_region_aft (by kernel_rfl) (by kernel_rfl) ?_; (repeat (any_goals (first | go_big_quiet_step ((first | (go_at_call 8; refine Calls.aft_of (AL.out _)) | (go_at_call 20; refine Calls.aft_of (O1.out _ _ _)))) | quiet_step ((first | (go_at_call 8; refine Calls.aft_of (AL.out _)) | (go_at_call 20; refine Calls.aft_of (O1.out _ _ _)))) | (refine wpQuiet_step (fun K hK => ?_); go_simp; split <;> (refine hK _ ?_; clear hK K))))); all_goals (refine wpQuiet_nil ?_; intro wq hw'; obtain ⟨x1, hx1⟩ := hw'; have hbq := x1.h; rw [← hx1] at hbq; clear hx1 x1))
  go_wp2_with fail
  go_returns
  exact ⟨rfl, below_then HB.out hbq⟩

set_option maxRecDepth 100000 in set_option maxHeartbeats 4000000 in
theorem lift_growNames (os : Os) (started : os.Started) (H : Type) (enc : TypeId × Value → H) :
    ReturnsInHanded {} Try.checked os 5 .any (Rows.growNamesSpec.pre6 enc Try.prog Try.f5 Rows.growNamesRow.domain false) (Rows.growNamesSpec.post enc Try.prog Try.f5 false true false false) := by
  refine returnsInHanded_of_change (C := Try.checked) ownKnob0 started (by kernel_rfl) Try.func5
    (ChangeSpec.witness6 (enc := enc) (C := Try.checked) false ⟨#[], #[], []⟩ 8 (by kernel_rfl) (by kernel_rfl) (by kernel_rfl) (by kernel_rfl)) ?_
  intro W base args ds gs before hval0 hW hcnd _
  have hval : ∀ (j : Nat) t v, Try.f5.params[j]? = some t → args[j]? = some v → Value.okWide Try.prog W .any base t v := hval0
  have hW' := hW
  obtain ⟨p, q, hA0, hV, rfl, hfz, hnd⟩ := hW
  have hA : DataW.TrodAll enc Try.prog W 0 (fun _ => true) true Try.f5.params.toList args.toList ds p := hA0
  rw [Try.params5] at hA hval
  have hK := hA
  obtain ⟨rfl, rfl, rfl⟩ := trodAll_none hA
  obtain ⟨rfl, rfl⟩ := trodVars_none hV
  clear hA0 hval0
  simp only [List.append_nil] at hW' hK
  refine (law13_GrowNames W).mono fun e W' ⟨he, bel⟩ => ?_
  subst he
  refine ⟨_, rfl, _, _, _, [], _, [], hW', trodAll_mk1 (shut_bool Try.underlying4 _), trodAll_below bel _ _ _ _ ?_ hK, rfl, bel.frame _, fun h => by cases h⟩
  intro t ht
  simp at ht <;> (rcases ht with rfl <;> exact ⟨by kernel_rfl, of_decide_eq_true (by kernel_rfl)⟩)

theorem holds_growNames : Rows.growNamesRow.holds Try.pinned (OpenSpec.ofChange Rows.growNamesSpec) :=
  OpenClaim.holds_of_wide 5 Try.f5 rfl rfl rfl rfl rfl rfl rfl ⟨rfl, rfl, rfl, rfl, rfl⟩ rfl rfl rfl rfl rfl (by kernel_rfl) Try.func5 (by kernel_rfl)
    (of_decide_eq_true (by kernel_rfl)) (by unfold Func.isWrapper; first | (rw [if_pos (by decide +kernel)]; kernel_rfl) | (rw [if_neg (by decide +kernel)]; exact ⟨rfl, rfl⟩))
    (fun os started H enc _ => lift_growNames os started H enc)

theorem GrowNames_holds : Rows.GrowNamesSaid := holds_growNames
end
end Go.Proofs.Ytofoenlhbmammaa
