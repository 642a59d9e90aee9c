/- WhenNames: the chapter's examples: the call returns true. -/
import Derived.Test.YtfikgjcmnooglaaWhenTwo
import Derived.Test.YtfikgjcmnooglaaRowYard
namespace Go.Proofs.Ytfikgjcmnooglaa
open Go.ChangeShapes Go.WideShapes Go.ChangeAt Go.RowKit Go.Shelf

set_option maxRecDepth 100000 in set_option maxHeartbeats 4000000 in
theorem law10_WhenNames (w : World) : Calls Try.prog 16 #[] w (RB w (.bool true)) := by
  have N1 := Lib.hid (fun W => law10_some W)
  have N2 := Lib.hid (fun W => law10_alive W)
  have P1 := Lib.hid (fun W v (h : YS W v twoY) => by have := (when_Ends 5 v twoY W h).mono (fun _ _ hh => hh.me); rw [ex_e5, ex_chk] at this; exact this)
  have P2 := Lib.hid (fun W v (h : YS W v twoY) => by have := (when_Ends 6 v twoY W h).mono (fun _ _ hh => hh.me); rw [ex_e6, ex_chk] at this; exact this)
  have P3 := Lib.hid (fun W v (h : YS W v twoY) => by have := when_Last v twoY W h; rw [ex_last, ex_chk] at this; exact this)
  have P4 := Lib.hid (fun W v (h : YS W v twoY) => by have := when_Times 1099511627776 v twoY W h; rw [ex_t40.1, ex_t40.2] at this; exact this)
  have E2 := Lib.hid (fun W u v (h : MIn W u [3]) (h2 : MIn W v [3]) => mi_Ints h h2 (by decide))
  go_enter Try.func16, Try.ntmps16
  go_wp2_with fail
  refine (N1.out _).mono ?_
  rintro e w1 ⟨v, rfl, hv, hb1⟩
  obtain ⟨bn, bl, cn, cl, rfl, _⟩ := hv.ex
  have HY := Lib.hid hv
  have HB := Lib.hid hb1
  clear hv hb1
  go_upto_region 2 with fail
  obtain ⟨W1, hW1⟩ : ∃ W1, W1 = w1.alloc (.cells #[.int .i64 twoY.d.x, .int .i64 twoY.d.y, .int .i64 twoY.d.z, (.slice bn twoY.ns.length cn), (.slice bl twoY.ls.length cl)] 42) := ⟨_, rfl⟩
  rw [← hW1]
  have hb2 : Below w1.heap.size w1 W1 := by rw [hW1]; (repeat (first | (with_reducible exact Below.refl _ _) | (with_reducible assumption) | (with_reducible refine below_alloc ?_ _) | (with_reducible refine below_drewN ?_ _) | (with_reducible refine Below.drew ?_) | (with_reducible refine below_then ?_ (by with_reducible assumption)) | (with_reducible refine Below.setCell ?_ (by go_size) _)))
  have YB := Lib.hid (show Blk W1 w1.heap.size 42 #[.int .i64 twoY.d.x, .int .i64 twoY.d.y, .int .i64 twoY.d.z, (.slice bn twoY.ns.length cn), (.slice bl twoY.ls.length cl)] by rw [hW1]; exact Blk.new ..)
  have HY := Lib.hid (HY.out.keep hb2)
  have HB := Lib.hid (below_then HB.out hb2)
  clear hb2 hW1
  (have y0 := YB.out.cell 0 _ rfl; have y1 := YB.out.cell 1 _ rfl; have y2 := YB.out.cell 2 _ rfl; have y3 := YB.out.cell 3 _ rfl; have y4 := YB.out.cell 4 _ rfl)
  go_wp2_with fail
  refine (P1.out _ _ HY.out).mono ?_
  rintro e w2 ⟨a1, rfl, A1, hb⟩
  have A1 := Lib.hid A1
  have YB := Lib.hid (YB.out.below hb)
  have HY := Lib.hid (HY.out.keep hb)
  have HB := Lib.hid (below_then HB.out hb)
  clear hb
  clear y0 y1 y2 y3 y4
  (have y0 := YB.out.cell 0 _ rfl; have y1 := YB.out.cell 1 _ rfl; have y2 := YB.out.cell 2 _ rfl; have y3 := YB.out.cell 3 _ rfl; have y4 := YB.out.cell 4 _ rfl)
  go_wp2_with fail
  refine (P2.out _ _ HY.out).mono ?_
  rintro e w3 ⟨a2, rfl, A2, hb⟩
  obtain ⟨b2, c2, rfl, _⟩ := A2.ex
  (have YB := Lib.hid (YB.out.below hb); have HY := Lib.hid (HY.out.keep hb); have HB := Lib.hid (below_then HB.out hb); (try have A1 := Lib.hid (A1.out.keep hb)))
  clear hb A2
  clear y0 y1 y2 y3 y4
  (have y0 := YB.out.cell 0 _ rfl; have y1 := YB.out.cell 1 _ rfl; have y2 := YB.out.cell 2 _ rfl; have y3 := YB.out.cell 3 _ rfl; have y4 := YB.out.cell 4 _ rfl)
  go_wp2_with fail
  refine (P3.out _ _ HY.out).mono ?_
  rintro e w4 ⟨rfl, hb⟩
  (have YB := Lib.hid (YB.out.below hb); have HY := Lib.hid (HY.out.keep hb); have HB := Lib.hid (below_then HB.out hb); (try have A1 := Lib.hid (A1.out.keep hb)))
  clear hb
  clear y0 y1 y2 y3 y4
  (have y0 := YB.out.cell 0 _ rfl; have y1 := YB.out.cell 1 _ rfl; have y2 := YB.out.cell 2 _ rfl; have y3 := YB.out.cell 3 _ rfl; have y4 := YB.out.cell 4 _ rfl)
  go_wp2_with fail
  refine (P4.out _ _ HY.out).mono ?_
  rintro e w5 ⟨a4, rfl, A4, hb⟩
  (have YB := Lib.hid (YB.out.below hb); have HY := Lib.hid (HY.out.keep hb); have HB := Lib.hid (below_then HB.out hb); (try have A1 := Lib.hid (A1.out.keep hb)))
  clear hb A4
  clear y0 y1 y2 y3 y4
  go_wp2_with fail
  refine (N2.out _).mono ?_
  rintro e w6 ⟨rfl, hb⟩
  have A1 := Lib.hid (A1.out.keep hb)
  have HB := Lib.hid (below_then HB.out hb)
  clear hb YB HY
  go_wp2_with fail
  refine (E2.out _ _ _ (A1.out.keep (by (repeat (first | (with_reducible exact Below.refl _ _) | (with_reducible assumption) | (with_reducible refine below_alloc ?_ _) | (with_reducible refine below_drewN ?_ _) | (with_reducible refine Below.drew ?_) | (with_reducible refine below_then ?_ (by with_reducible assumption)) | (with_reducible refine Below.setCell ?_ (by go_size) _))))) (mi_one (Blk.new ..) _)).mono ?_
  rintro e w7 ⟨rfl, hb⟩
  have HB := Lib.hid (below_then (below_then HB.out (show Below w6.heap.size w6 (w6.alloc (.cells #[.int .i64 3] 3)) by (repeat (first | (with_reducible exact Below.refl _ _) | (with_reducible assumption) | (with_reducible refine below_alloc ?_ _) | (with_reducible refine below_drewN ?_ _) | (with_reducible refine Below.drew ?_) | (with_reducible refine below_then ?_ (by with_reducible assumption)) | (with_reducible refine Below.setCell ?_ (by go_size) _))))) hb)
  clear hb
  go_wp2_with fail
  go_returns
  exact ⟨rfl, HB.out⟩

set_option maxRecDepth 100000 in set_option maxHeartbeats 4000000 in
theorem lift_whenNames (os : Os) (started : os.Started) (H : Type) (enc : TypeId × Value → H) :
    ReturnsInHanded {} Try.checked os 16 .any (Rows.whenNamesSpec.pre6 enc Try.prog Try.f16 Rows.whenNamesRow.domain false) (Rows.whenNamesSpec.post enc Try.prog Try.f16 false true false false) := by
  refine returnsInHanded_of_change (C := Try.checked) ownKnob0 started (by kernel_rfl) Try.func16
    (ChangeSpec.witness6 (enc := enc) (C := Try.checked) false ⟨#[], #[], []⟩ 8 (by kernel_rfl) (by kernel_rfl) (by kernel_rfl) (by kernel_rfl)) ?_
  intro W base args ds gs before hval0 hW hcnd _
  have hval : ∀ (j : Nat) t v, Try.f16.params[j]? = some t → args[j]? = some v → Value.okWide Try.prog W .any base t v := hval0
  have hW' := hW
  obtain ⟨p, q, hA0, hV, rfl, hfz, hnd⟩ := hW
  have hA : DataW.TrodAll enc Try.prog W 0 (fun _ => true) true Try.f16.params.toList args.toList ds p := hA0
  rw [Try.params16] at hA hval
  have hK := hA
  obtain ⟨rfl, rfl, rfl⟩ := trodAll_none hA
  obtain ⟨rfl, rfl⟩ := trodVars_none hV
  clear hA0 hval0
  simp only [List.append_nil] at hW' hK
  refine (law10_WhenNames W).mono fun e W' ⟨he, bel⟩ => ?_
  subst he
  refine ⟨_, rfl, _, _, _, [], _, [], hW', trodAll_mk1 (shut_bool Try.underlying4 _), trodAll_below bel _ _ _ _ ?_ hK, rfl, bel.frame _, fun h => by cases h⟩
  intro t ht
  simp at ht <;> (rcases ht with rfl <;> exact ⟨by kernel_rfl, of_decide_eq_true (by kernel_rfl)⟩)

theorem holds_whenNames : Rows.whenNamesRow.holds Try.pinned (OpenSpec.ofChange Rows.whenNamesSpec) :=
  OpenClaim.holds_of_wide 16 Try.f16 rfl rfl rfl rfl rfl rfl rfl ⟨rfl, rfl, rfl, rfl, rfl⟩ rfl rfl rfl rfl rfl (by kernel_rfl) Try.func16 (by kernel_rfl)
    (of_decide_eq_true (by kernel_rfl)) (by unfold Func.isWrapper; first | (rw [if_pos (by decide +kernel)]; kernel_rfl) | (rw [if_neg (by decide +kernel)]; exact ⟨rfl, rfl⟩))
    (fun os started H enc _ => lift_whenNames os started H enc)

theorem WhenNames_holds : Rows.WhenNamesSaid := holds_whenNames
end Go.Proofs.Ytfikgjcmnooglaa
