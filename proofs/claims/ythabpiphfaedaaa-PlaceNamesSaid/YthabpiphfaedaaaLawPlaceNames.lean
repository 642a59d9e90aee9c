/- PlaceNames: the chapter's examples: the call returns true. -/
import Derived.Test.YthabpiphfaedaaaPasses2
import Derived.Test.YthabpiphfaedaaaPassLaw
import Derived.Test.YthabpiphfaedaaaPlApart
import Derived.Test.YthabpiphfaedaaaInts
import Derived.Test.YthabpiphfaedaaaRowPlace
namespace Go.Proofs.Ythabpiphfaedaaa
open Go.ChangeShapes Go.WideShapes Go.ChangeAt Go.RowKit Go.Shelf

theorem pass_lit {d : V3} {p : Pl} {l o : List Int} (h : plChk d p = 0) (hl : l.Pairwise (· < ·)) (ho : outsOf d p (linksU d p) = o) (hm : ∀ x, x ∈ o ↔ x ∈ l) : passV d p = l := by
  obtain ⟨hd, hb, _, _⟩ := plChk_0 h
  have hv : passV d p = Lib.compact (sorted (outsOf d p (cabsV d p))) := if_pos h
  obtain ⟨r1, r2⟩ := compact_rise (show (sorted (outsOf d p (cabsV d p))).Pairwise (· ≤ ·) from sorted_le _)
  rw [hv]
  refine rise_ext r1 hl (fun x => ?_)
  rw [r2, mem_sorted, ← hm x, ← ho, mem_outs, mem_outs]
  have hc : ∀ c, c ∈ cabsV d p ↔ c ∈ linksU d p := fun c => by
    unfold linksU cabsV
    simp only [List.mem_append, mem_cabsU hd hb (show 0 < 3 by omega), mem_cabsU hd hb (show 1 < 3 by omega), mem_cabsU hd hb (show 2 < 3 by omega)]
  simp only [hc]
theorem exS3 : plChk dLine (plOf 1 2 false) = 0 ∧ midsV dLine (plOf 1 2 false) = [6] := by decide +kernel
theorem exL3 : linksV dLine (plOf 1 2 false) = [2] := links_lit exS3.1 (by decide +kernel) (w64_1 2 (by decide)) (by decide +kernel)
theorem exP : passV dLine (plOf 3 2 true) = [1, 2] := pass_lit (o := outsOf dLine (plOf 3 2 true) (linksU dLine (plOf 3 2 true))) exS2.1 (by decide) rfl (fun x => by
  have e : outsOf dLine (plOf 3 2 true) (linksU dLine (plOf 3 2 true)) = [1, 1, 2, 2] := by decide +kernel
  rw [e]; simp)
theorem exA1 : apV dLine (plOf 3 2 true) (plOf 1 2 false) = false ∧ apE dLine (plOf 3 2 true) (plOf 1 2 false) = 0 := by
  have h0 := apE_of exS2.1 exS3.1
  refine ⟨(if_pos h0).trans ?_, h0⟩
  unfold apartB
  rw [exS2.2, exS3.2, exL2, exL3]
  decide +kernel
theorem exA2 : apV dLine (plOf 3 2 false) (plOf 1 2 false) = true ∧ apE dLine (plOf 3 2 false) (plOf 1 2 false) = 0 := by
  have h0 := apE_of exS1.1 exS3.1
  refine ⟨(if_pos h0).trans ?_, h0⟩
  unfold apartB
  rw [exS1.2, exS3.2, exL1, exL3]
  decide +kernel
theorem exC1 : plChk dLine (plOf 0 1 true) = 2 := by decide +kernel
theorem exC2 : plChk dLine (plOf 1 4 false) = 2 := by decide +kernel
theorem ints_lit (ba : Option Addr) (ca : Nat) (W : World) (h : LIn W ba [1, 2]) :
    Calls Try.prog 15 #[.slice ba 2 ca, .slice (some ⟨W.heap.size, 0, none⟩) 2 2] (W.alloc (.cells #[.int .i64 1, .int .i64 2] 3)) (RB (W.alloc (.cells #[.int .i64 1, .int .i64 2] 3)) (.bool true)) := by
  have hb := below_alloc (Below.refl W.heap.size W) (.cells #[.int .i64 1, .int .i64 2] 3)
  have hn : LIn (W.alloc (.cells #[.int .i64 1, .int .i64 2] 3)) (some ⟨W.heap.size, 0, none⟩) [1, 2] := ⟨by have := rd_new' W #[.int .i64 1, .int .i64 2] 3; simpa using this, by decide⟩
  have := ref02_Ints ba _ ca 2 [1, 2] [1, 2] _ (h.keep hb) hn
  rw [decide_eq_true rfl] at this
  exact this
set_option maxRecDepth 100000 in set_option maxHeartbeats 4000000 in
theorem law06_PlaceNames (w : World) : Calls Try.prog 5 #[] w (RB w (.bool true)) := by
  have H1 := Lib.hid (fun W => show Calls Try.prog 9 #[.agg #[.int .i64 4, .int .i64 1, .int .i64 1], .agg #[.int .i64 3, .int .i64 0, .int .i64 0, .int .i64 2, .int .i64 1, .int .i64 1, .bool true, .bool false, .bool false]] W (RLE W [1, 2] 0) from by have := place_Passes dLine (plOf 3 2 true) W; rw [exP, exS2.1] at this; exact this)
  have H2 := Lib.hid (fun W => show Calls Try.prog 11 #[.agg #[.int .i64 4, .int .i64 1, .int .i64 1], .agg #[.int .i64 3, .int .i64 0, .int .i64 0, .int .i64 2, .int .i64 1, .int .i64 1, .bool true, .bool false, .bool false], .agg #[.int .i64 1, .int .i64 0, .int .i64 0, .int .i64 2, .int .i64 1, .int .i64 1, .bool false, .bool false, .bool false]] W (RB W (.tuple #[.bool false, .int .i64 0])) from by have := place_Apart dLine (plOf 3 2 true) (plOf 1 2 false) W; rw [exA1.1, exA1.2] at this; exact this)
  have H3 := Lib.hid (fun W => show Calls Try.prog 11 #[.agg #[.int .i64 4, .int .i64 1, .int .i64 1], .agg #[.int .i64 3, .int .i64 0, .int .i64 0, .int .i64 2, .int .i64 1, .int .i64 1, .bool false, .bool false, .bool false], .agg #[.int .i64 1, .int .i64 0, .int .i64 0, .int .i64 2, .int .i64 1, .int .i64 1, .bool false, .bool false, .bool false]] W (RB W (.tuple #[.bool true, .int .i64 0])) from by have := place_Apart dLine (plOf 3 2 false) (plOf 1 2 false) W; rw [exA2.1, exA2.2] at this; exact this)
  have H4 := Lib.hid (fun W => show Calls Try.prog 16 #[.agg #[.int .i64 4, .int .i64 1, .int .i64 1], .agg #[.int .i64 0, .int .i64 0, .int .i64 0, .int .i64 1, .int .i64 1, .int .i64 1, .bool true, .bool false, .bool false]] W (RB W (.int .i64 2)) from by have := place_Check dLine (plOf 0 1 true) W; rw [exC1] at this; exact this)
  have H5 := Lib.hid (fun W => show Calls Try.prog 16 #[.agg #[.int .i64 4, .int .i64 1, .int .i64 1], .agg #[.int .i64 1, .int .i64 0, .int .i64 0, .int .i64 4, .int .i64 1, .int .i64 1, .bool false, .bool false, .bool false]] W (RB W (.int .i64 2)) from by have := place_Check dLine (plOf 1 4 false) W; rw [exC2] at this; exact this)
  have HB := Lib.hid (Below.refl w.heap.size w)
  go_enter Try.func5, Try.ntmps5
  go_wp2_with (first | ((with_reducible refine (law06_line _).mono ?_); rintro e w1 ⟨rfl, hb⟩; have HB := Lib.hid (below_then HB.out hb); clear hb) | ((with_reducible refine (law06_of _ _ _ _).mono ?_); rintro e w1 ⟨rfl, hb⟩; have HB := Lib.hid (below_then HB.out hb); clear hb))
  refine (H1.out _).mono ?_
  rintro e w2 ⟨v, rfl, o, hb⟩
  obtain ⟨ba, ca, rfl, la, _⟩ := list_of_own o (by decide)
  have SL := Lib.hid la
  have HB := Lib.hid (below_then HB.out hb)
  clear hb o la
  go_wp2_with (first | ((with_reducible refine (law06_line _).mono ?_); rintro e w1 ⟨rfl, hb⟩; have HB := Lib.hid (below_then HB.out hb); have SL := Lib.hid (SL.out.keep hb); clear hb) | ((with_reducible refine (law06_of _ _ _ _).mono ?_); rintro e w1 ⟨rfl, hb⟩; have HB := Lib.hid (below_then HB.out hb); have SL := Lib.hid (SL.out.keep hb); clear hb))
  refine (H2.out _).mono ?_
  rintro e w3 ⟨rfl, hb⟩
  have SL := Lib.hid (SL.out.keep hb)
  have HB := Lib.hid (below_then HB.out hb)
  clear hb
  go_wp2_with (first | ((with_reducible refine (law06_line _).mono ?_); rintro e w1 ⟨rfl, hb⟩; have HB := Lib.hid (below_then HB.out hb); have SL := Lib.hid (SL.out.keep hb); clear hb) | ((with_reducible refine (law06_of _ _ _ _).mono ?_); rintro e w1 ⟨rfl, hb⟩; have HB := Lib.hid (below_then HB.out hb); have SL := Lib.hid (SL.out.keep hb); clear hb))
  refine (H3.out _).mono ?_
  rintro e w4 ⟨rfl, hb⟩
  have SL := Lib.hid (SL.out.keep hb)
  have HB := Lib.hid (below_then HB.out hb)
  clear hb
  go_wp2_with fail
  refine (law06_alive _).mono ?_
  rintro e w5 ⟨rfl, hb⟩
  have SL := Lib.hid (SL.out.keep hb)
  have HB := Lib.hid (below_then HB.out hb)
  clear hb
  go_wp2_with fail
  refine (ints_lit ba ca _ SL.out).mono ?_
  rintro e w6 ⟨rfl, hb⟩
  have HB := Lib.hid (below_then (below_alloc HB.out _) hb)
  clear hb
  go_wp2_with (first | ((with_reducible refine (law06_line _).mono ?_); rintro e w1 ⟨rfl, hb⟩; have HB := Lib.hid (below_then HB.out hb); clear hb) | ((with_reducible refine (law06_of _ _ _ _).mono ?_); rintro e w1 ⟨rfl, hb⟩; have HB := Lib.hid (below_then HB.out hb); clear hb))
  refine (H4.out _).mono ?_
  rintro e w7 ⟨rfl, hb⟩
  have HB := Lib.hid (below_then HB.out hb)
  clear hb
  go_wp2_with (first | ((with_reducible refine (law06_line _).mono ?_); rintro e w1 ⟨rfl, hb⟩; have HB := Lib.hid (below_then HB.out hb); clear hb) | ((with_reducible refine (law06_of _ _ _ _).mono ?_); rintro e w1 ⟨rfl, hb⟩; have HB := Lib.hid (below_then HB.out hb); clear hb))
  refine (H5.out _).mono ?_
  rintro e w8 ⟨rfl, hb⟩
  have HB := Lib.hid (below_then HB.out hb)
  clear hb
  go_wp2_with fail
  go_returns
  exact ⟨rfl, HB.out⟩
set_option maxRecDepth 100000 in set_option maxHeartbeats 4000000 in
theorem lift_placeNames (os : Os) (started : os.Started) (H : Type) (enc : TypeId × Value → H) :
    ReturnsInHanded {} Try.checked os 5 .any (Rows.placeNamesSpec.pre6 enc Try.prog Try.f5 Rows.placeNamesRow.domain false) (Rows.placeNamesSpec.post enc Try.prog Try.f5 false true false false) := by
  refine returnsInHanded_of_change (C := Try.checked) ownKnob0 started (by kernel_rfl) Try.func5
    (ChangeSpec.witness6 (enc := enc) (C := Try.checked) false ⟨#[], #[], []⟩ 8 (by kernel_rfl) (by kernel_rfl) (by kernel_rfl) (by kernel_rfl)) ?_
  intro W base args ds gs before hval0 hW hcnd _
  have hval : ∀ (j : Nat) t v, Try.f5.params[j]? = some t → args[j]? = some v → Value.okWide Try.prog W .any base t v := hval0
  have hW' := hW
  obtain ⟨p, q, hA0, hV, rfl, hfz, hnd⟩ := hW
  have hA : DataW.TrodAll enc Try.prog W 0 (fun _ => true) true Try.f5.params.toList args.toList ds p := hA0
  rw [Try.params5] at hA hval
  have hK := hA
  obtain ⟨rfl, rfl, rfl⟩ := trodAll_none hA
  obtain ⟨rfl, rfl⟩ := trodVars_none hV
  clear hA0 hval0
  simp only [List.append_nil] at hW' hK
  refine (law06_PlaceNames W).mono fun e W' ⟨he, bel⟩ => ?_
  subst he
  refine ⟨_, rfl, _, _, _, [], _, [], hW', trodAll_mk1 (shut_bool Try.underlying4 _), trodAll_below bel _ _ _ _ ?_ hK, rfl, bel.frame _, fun h => by cases h⟩
  intro t ht
  simp at ht <;> (rcases ht with rfl <;> exact ⟨by kernel_rfl, of_decide_eq_true (by kernel_rfl)⟩)

theorem holds_placeNames : Rows.placeNamesRow.holds Try.pinned (OpenSpec.ofChange Rows.placeNamesSpec) :=
  OpenClaim.holds_of_wide 5 Try.f5 rfl rfl rfl rfl rfl rfl rfl ⟨rfl, rfl, rfl, rfl, rfl⟩ rfl rfl rfl rfl rfl (by kernel_rfl) Try.func5 (by kernel_rfl)
    (of_decide_eq_true (by kernel_rfl)) (by unfold Func.isWrapper; first | (rw [if_pos (by decide +kernel)]; kernel_rfl) | (rw [if_neg (by decide +kernel)]; exact ⟨rfl, rfl⟩))
    (fun os started H enc _ => lift_placeNames os started H enc)

theorem PlaceNames_holds : Rows.PlaceNamesSaid := holds_placeNames
end Go.Proofs.Ythabpiphfaedaaa
