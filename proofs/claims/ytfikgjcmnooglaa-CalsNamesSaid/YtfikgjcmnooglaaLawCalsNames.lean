/- CalsNames: the chapter's examples of calendars: the call returns true. -/
import Derived.Test.YtfikgjcmnooglaaYardTwo
import Derived.Test.YtfikgjcmnooglaaRowYard
namespace Go.Proofs.Ytfikgjcmnooglaa
open Go.ChangeShapes Go.WideShapes Go.ChangeAt Go.RowKit Go.Shelf

theorem chk_zero : Yd.chk Yd.zero = 8 := by kernel_rfl
theorem ys_zero (w : World) : YS w (.agg #[.int .i64 0, .int .i64 0, .int .i64 0, .slice none 0 0, .slice none 0 0]) Yd.zero :=
  ⟨none, none, 0, 0, rfl, ⟨⟨[], Rd.nil _ _, fun i c h => by cases h⟩, by decide, fun c h => by cases h⟩, ⟨⟨[], Rd.nil _ _, fun i c h => by cases h⟩, by decide, fun c h => by cases h⟩⟩
theorem y_Check {w : World} {v : Value} {y : Yd} (h : YS w v y) : Calls Try.prog 50 #[v] w (RB w (.int .i64 y.chk)) := by
  obtain ⟨bn, bl, cn, cl, rfl, h1, h2⟩ := h.ex
  exact cals_Check y.d bn bl cn cl y.ns y.ls w h1 h2
theorem put_zero {y : Yd} {ms ks : List Nat} {s : Sl} (h : yPutE y ms ks s ≠ 0) : yPutV y ms ks s = Yd.zero := if_neg h
theorem SS.new2 (W : World) (t : TypeId) (x y : Nat) (hx : x < 18446744073709551616) (hy : y < 18446744073709551616) : SS ((W.alloc (.cells #[.int .u64 (x : Int)] t)).alloc (.cells #[.int .u64 (y : Int)] t)) (.slice (some ⟨W.heap.size, 0, none⟩) 1 1) [x] ∧
    SS ((W.alloc (.cells #[.int .u64 (x : Int)] t)).alloc (.cells #[.int .u64 (y : Int)] t)) (.slice (some ⟨W.heap.size + 1, 0, none⟩) 1 1) [y] := by
  refine ⟨(SS.new1 W t x hx).keep ((Below.refl _ _).alloc (Nat.le_refl _) _), ?_⟩
  have := SS.new1 (W.alloc (.cells #[.int .u64 (x : Int)] t)) t y hy
  rw [show (W.alloc (.cells #[.int .u64 (x : Int)] t)).heap.size = W.heap.size + 1 by simp] at this
  exact this
set_option maxRecDepth 100000 in set_option maxHeartbeats 4000000 in
theorem law09_CalsNames (w : World) : Calls Try.prog 10 #[] w (RB w (.bool true)) := by
  have N1 := Lib.hid (fun W => law09_two W)
  have N2 := Lib.hid (fun W => law09_alive W)
  have P1 := Lib.hid (fun W v a b (h : YS W v twoY) (ha : SS W a [3]) (hb : SS W b [0]) => by have := y_Put ⟨2, 9, 6⟩ h ha hb; rw [put_zero (by rw [ex_put80]; decide), ex_put80] at this; exact this)
  have P2 := Lib.hid (fun W v a b (h : YS W v twoY) (ha : SS W a [4]) (hb : SS W b [0]) => by have := y_Put ⟨2, 9, 6⟩ h ha hb; rw [put_zero (by rw [ex_put8]; decide), ex_put8] at this; exact this)
  have P3 := Lib.hid (fun W v a b (h : YS W v twoY) (ha : SS W a [0]) (hb : SS W b [0]) => by have := y_Put ⟨2, 9, 0⟩ h ha hb; rw [put_zero (by rw [ex_put2]; decide), ex_put2] at this; exact this)
  have C1 := Lib.hid (fun W => by have := y_Check (ys_zero W); rw [chk_zero] at this; exact this)
  go_enter Try.func10, Try.ntmps10
  go_wp2_with fail
  refine (N1.out _).mono ?_
  rintro e w1 ⟨v, rfl, hv, hb1⟩
  obtain ⟨bn, bl, cn, cl, rfl, _⟩ := hv.ex
  have HY := Lib.hid hv
  have HB := Lib.hid hb1
  clear hv hb1
  go_upto_region 2 with fail
  obtain ⟨W1, hW1⟩ : ∃ W1, W1 = w1.alloc (.cells #[.int .i64 twoY.d.x, .int .i64 twoY.d.y, .int .i64 twoY.d.z, (.slice bn twoY.ns.length cn), (.slice bl twoY.ls.length cl)] 42) := ⟨_, rfl⟩
  rw [← hW1]
  have hb2 : Below w1.heap.size w1 W1 := by rw [hW1]; (repeat (first | (with_reducible exact Below.refl _ _) | (with_reducible assumption) | (with_reducible refine below_alloc ?_ _) | (with_reducible refine below_drewN ?_ _) | (with_reducible refine Below.drew ?_) | (with_reducible refine below_then ?_ (by with_reducible assumption)) | (with_reducible refine Below.setCell ?_ (by go_size) _)))
  have YB := Lib.hid (show Blk W1 w1.heap.size 42 #[.int .i64 twoY.d.x, .int .i64 twoY.d.y, .int .i64 twoY.d.z, (.slice bn twoY.ns.length cn), (.slice bl twoY.ls.length cl)] by rw [hW1]; exact Blk.new ..)
  have HY := Lib.hid (HY.out.keep hb2)
  have HB := Lib.hid (below_then HB.out hb2)
  clear hb2 hW1
  (have y0 := YB.out.cell 0 _ rfl; have y1 := YB.out.cell 1 _ rfl; have y2 := YB.out.cell 2 _ rfl; have y3 := YB.out.cell 3 _ rfl; have y4 := YB.out.cell 4 _ rfl)
  go_wp2_with fail
  (obtain ⟨X, hX⟩ : ∃ X, X = (W1.alloc (.cells #[.int .u64 3] 82)).alloc (.cells #[.int .u64 0] 82) := ⟨_, rfl⟩; rw [← hX]; have hbX : Below (W1).heap.size W1 X := (by rw [hX]; (repeat (first | (with_reducible exact Below.refl _ _) | (with_reducible assumption) | (with_reducible refine below_alloc ?_ _) | (with_reducible refine below_drewN ?_ _) | (with_reducible refine Below.drew ?_) | (with_reducible refine below_then ?_ (by with_reducible assumption)) | (with_reducible refine Below.setCell ?_ (by go_size) _)))); have hSS := SS.new2 W1 82 3 0 (by decide) (by decide); have YB := Lib.hid (YB.out.below hbX); have HY := Lib.hid (HY.out.keep hbX); have HB := Lib.hid (below_then HB.out hbX); refine (P1.out X _ _ _ HY.out (by rw [hX]; exact hSS.1) (by rw [hX]; exact hSS.2)).mono ?_; clear hbX hX hSS y0 y1 y2 y3 y4; rintro e w3 ⟨u, v, rfl, hu, hv, hb3⟩; obtain ⟨b1, k1, rfl⟩ := hu.slice; obtain ⟨b2, k2, rfl⟩ := hv.slice; have YB := Lib.hid (YB.out.below hb3); have HY := Lib.hid (HY.out.keep hb3); have HB := Lib.hid (below_then HB.out hb3); clear hb3 hu hv; go_upto_region 3 with fail; obtain ⟨W3, hW3⟩ : ∃ W3, W3 = w3.alloc (.cells #[.int .i64 Yd.zero.d.x, .int .i64 Yd.zero.d.y, .int .i64 Yd.zero.d.z, (.slice b1 Yd.zero.ns.length k1), (.slice b2 Yd.zero.ls.length k2)] 42) := ⟨_, rfl⟩; rw [← hW3]; have hb3 : Below (w3).heap.size w3 W3 := (by rw [hW3]; (repeat (first | (with_reducible exact Below.refl _ _) | (with_reducible assumption) | (with_reducible refine below_alloc ?_ _) | (with_reducible refine below_drewN ?_ _) | (with_reducible refine Below.drew ?_) | (with_reducible refine below_then ?_ (by with_reducible assumption)) | (with_reducible refine Below.setCell ?_ (by go_size) _)))); have YB := Lib.hid (YB.out.below hb3); have HY := Lib.hid (HY.out.keep hb3); have HB := Lib.hid (below_then HB.out hb3); clear hb3 hW3)
  (have y0 := YB.out.cell 0 _ rfl; have y1 := YB.out.cell 1 _ rfl; have y2 := YB.out.cell 2 _ rfl; have y3 := YB.out.cell 3 _ rfl; have y4 := YB.out.cell 4 _ rfl)
  go_wp2_with fail
  (obtain ⟨X, hX⟩ : ∃ X, X = (W3.alloc (.cells #[.int .u64 4] 82)).alloc (.cells #[.int .u64 0] 82) := ⟨_, rfl⟩; rw [← hX]; have hbX : Below (W3).heap.size W3 X := (by rw [hX]; (repeat (first | (with_reducible exact Below.refl _ _) | (with_reducible assumption) | (with_reducible refine below_alloc ?_ _) | (with_reducible refine below_drewN ?_ _) | (with_reducible refine Below.drew ?_) | (with_reducible refine below_then ?_ (by with_reducible assumption)) | (with_reducible refine Below.setCell ?_ (by go_size) _)))); have hSS := SS.new2 W3 82 4 0 (by decide) (by decide); have YB := Lib.hid (YB.out.below hbX); have HY := Lib.hid (HY.out.keep hbX); have HB := Lib.hid (below_then HB.out hbX); refine (P2.out X _ _ _ HY.out (by rw [hX]; exact hSS.1) (by rw [hX]; exact hSS.2)).mono ?_; clear hbX hX hSS y0 y1 y2 y3 y4; rintro e w5 ⟨u, v, rfl, hu, hv, hb3⟩; obtain ⟨b1, k1, rfl⟩ := hu.slice; obtain ⟨b2, k2, rfl⟩ := hv.slice; have YB := Lib.hid (YB.out.below hb3); have HY := Lib.hid (HY.out.keep hb3); have HB := Lib.hid (below_then HB.out hb3); clear hb3 hu hv; go_upto_region 4 with fail; obtain ⟨W5, hW3⟩ : ∃ W3, W3 = w5.alloc (.cells #[.int .i64 Yd.zero.d.x, .int .i64 Yd.zero.d.y, .int .i64 Yd.zero.d.z, (.slice b1 Yd.zero.ns.length k1), (.slice b2 Yd.zero.ls.length k2)] 42) := ⟨_, rfl⟩; rw [← hW3]; have hb3 : Below (w5).heap.size w5 W5 := (by rw [hW3]; (repeat (first | (with_reducible exact Below.refl _ _) | (with_reducible assumption) | (with_reducible refine below_alloc ?_ _) | (with_reducible refine below_drewN ?_ _) | (with_reducible refine Below.drew ?_) | (with_reducible refine below_then ?_ (by with_reducible assumption)) | (with_reducible refine Below.setCell ?_ (by go_size) _)))); have YB := Lib.hid (YB.out.below hb3); have HY := Lib.hid (HY.out.keep hb3); have HB := Lib.hid (below_then HB.out hb3); clear hb3 hW3)
  (have y0 := YB.out.cell 0 _ rfl; have y1 := YB.out.cell 1 _ rfl; have y2 := YB.out.cell 2 _ rfl; have y3 := YB.out.cell 3 _ rfl; have y4 := YB.out.cell 4 _ rfl)
  go_wp2_with fail
  (obtain ⟨X, hX⟩ : ∃ X, X = (W5.alloc (.cells #[.int .u64 0] 82)).alloc (.cells #[.int .u64 0] 82) := ⟨_, rfl⟩; rw [← hX]; have hbX : Below (W5).heap.size W5 X := (by rw [hX]; (repeat (first | (with_reducible exact Below.refl _ _) | (with_reducible assumption) | (with_reducible refine below_alloc ?_ _) | (with_reducible refine below_drewN ?_ _) | (with_reducible refine Below.drew ?_) | (with_reducible refine below_then ?_ (by with_reducible assumption)) | (with_reducible refine Below.setCell ?_ (by go_size) _)))); have hSS := SS.new2 W5 82 0 0 (by decide) (by decide); have YB := Lib.hid (YB.out.below hbX); have HY := Lib.hid (HY.out.keep hbX); have HB := Lib.hid (below_then HB.out hbX); refine (P3.out X _ _ _ HY.out (by rw [hX]; exact hSS.1) (by rw [hX]; exact hSS.2)).mono ?_; clear hbX hX hSS y0 y1 y2 y3 y4; rintro e w7 ⟨u, v, rfl, hu, hv, hb3⟩; obtain ⟨b1, k1, rfl⟩ := hu.slice; obtain ⟨b2, k2, rfl⟩ := hv.slice; have YB := Lib.hid (YB.out.below hb3); have HY := Lib.hid (HY.out.keep hb3); have HB := Lib.hid (below_then HB.out hb3); clear hb3 hu hv; go_upto_region 5 with fail; obtain ⟨W7, hW3⟩ : ∃ W3, W3 = w7.alloc (.cells #[.int .i64 Yd.zero.d.x, .int .i64 Yd.zero.d.y, .int .i64 Yd.zero.d.z, (.slice b1 Yd.zero.ns.length k1), (.slice b2 Yd.zero.ls.length k2)] 42) := ⟨_, rfl⟩; rw [← hW3]; have hb3 : Below (w7).heap.size w7 W7 := (by rw [hW3]; (repeat (first | (with_reducible exact Below.refl _ _) | (with_reducible assumption) | (with_reducible refine below_alloc ?_ _) | (with_reducible refine below_drewN ?_ _) | (with_reducible refine Below.drew ?_) | (with_reducible refine below_then ?_ (by with_reducible assumption)) | (with_reducible refine Below.setCell ?_ (by go_size) _)))); have YB := Lib.hid (YB.out.below hb3); have HY := Lib.hid (HY.out.keep hb3); have HB := Lib.hid (below_then HB.out hb3); clear hb3 hW3)
  go_wp2_with fail
  refine (N2.out _).mono ?_
  rintro e w8 ⟨rfl, hb8⟩
  have HB := Lib.hid (below_then HB.out hb8)
  clear hb8
  go_wp2_with fail
  refine (C1.out _).mono ?_
  rintro e w9 ⟨rfl, hb9⟩
  have HB := Lib.hid (below_then HB.out hb9)
  clear hb9
  go_wp2_with fail
  go_returns
  exact ⟨rfl, HB.out⟩

set_option maxRecDepth 100000 in set_option maxHeartbeats 4000000 in
theorem lift_calsNames (os : Os) (started : os.Started) (H : Type) (enc : TypeId × Value → H) :
    ReturnsInHanded {} Try.checked os 10 .any (Rows.calsNamesSpec.pre6 enc Try.prog Try.f10 Rows.calsNamesRow.domain false) (Rows.calsNamesSpec.post enc Try.prog Try.f10 false true false false) := by
  refine returnsInHanded_of_change (C := Try.checked) ownKnob0 started (by kernel_rfl) Try.func10
    (ChangeSpec.witness6 (enc := enc) (C := Try.checked) false ⟨#[], #[], []⟩ 8 (by kernel_rfl) (by kernel_rfl) (by kernel_rfl) (by kernel_rfl)) ?_
  intro W base args ds gs before hval0 hW hcnd _
  have hval : ∀ (j : Nat) t v, Try.f10.params[j]? = some t → args[j]? = some v → Value.okWide Try.prog W .any base t v := hval0
  have hW' := hW
  obtain ⟨p, q, hA0, hV, rfl, hfz, hnd⟩ := hW
  have hA : DataW.TrodAll enc Try.prog W 0 (fun _ => true) true Try.f10.params.toList args.toList ds p := hA0
  rw [Try.params10] at hA hval
  have hK := hA
  obtain ⟨rfl, rfl, rfl⟩ := trodAll_none hA
  obtain ⟨rfl, rfl⟩ := trodVars_none hV
  clear hA0 hval0
  simp only [List.append_nil] at hW' hK
  refine (law09_CalsNames W).mono fun e W' ⟨he, bel⟩ => ?_
  subst he
  refine ⟨_, rfl, _, _, _, [], _, [], hW', trodAll_mk1 (shut_bool Try.underlying4 _), trodAll_below bel _ _ _ _ ?_ hK, rfl, bel.frame _, fun h => by cases h⟩
  intro t ht
  simp at ht <;> (rcases ht with rfl <;> exact ⟨by kernel_rfl, of_decide_eq_true (by kernel_rfl)⟩)

theorem holds_calsNames : Rows.calsNamesRow.holds Try.pinned (OpenSpec.ofChange Rows.calsNamesSpec) :=
  OpenClaim.holds_of_wide 10 Try.f10 rfl rfl rfl rfl rfl rfl rfl ⟨rfl, rfl, rfl, rfl, rfl⟩ rfl rfl rfl rfl rfl (by kernel_rfl) Try.func10 (by kernel_rfl)
    (of_decide_eq_true (by kernel_rfl)) (by unfold Func.isWrapper; first | (rw [if_pos (by decide +kernel)]; kernel_rfl) | (rw [if_neg (by decide +kernel)]; exact ⟨rfl, rfl⟩))
    (fun os started H enc _ => lift_calsNames os started H enc)

theorem CalsNames_holds : Rows.CalsNamesSaid := holds_calsNames
end Go.Proofs.Ytfikgjcmnooglaa
