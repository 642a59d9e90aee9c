/- ScoreNames: the chapter's examples: the call returns true. -/
import Derived.Test.YthabpiphfaedaaaDoorScoreD
import Derived.Test.YthabpiphfaedaaaDoorScoreAlive
import Derived.Test.YthabpiphfaedaaaDoorPlApart
import Derived.Test.YthabpiphfaedaaaDoorRowTab
namespace Go.Proofs.YthabpiphfaedaaaDoor
open Go.ChangeShapes Go.WideShapes Go.ChangeAt Go.RowKit Go.Shelf

def plSz (a b c : Int) : Pl := ⟨⟨⟨0, 0, 0⟩, ⟨a, b, c⟩⟩, false, false, false⟩
theorem w64_0 (x : Nat) (h : x < 100) : W64 [x] := by intro y hy; simp at hy; omega
theorem exK1 : scoreE dSome (plSz 1 1 1) [0] = 0 := by decide +kernel
theorem exK2 : scoreE dSome (plSz 3 1 1) [0] = 0 := by decide +kernel
theorem exK3 : scoreE dSome (plSz 4 1 1) [0] = 2 ∧ oneE dSome [64] = 8 ∧ oneE dSome [1] = 0 ∧ spreadV dSome [1] = 4 := by decide +kernel
theorem exM1 : linksV dSome (plSz 1 1 1) = [0] := links_lit (scoreE_0 exK1).2 (by decide +kernel) (w64_0 0 (by decide)) (by decide +kernel)
theorem exM2 : linksV dSome (plSz 3 1 1) = [3] := links_lit (scoreE_0 exK2).2 (by decide +kernel) (w64_0 3 (by decide)) (by decide +kernel)
theorem exV1 : scoreV dSome (plSz 1 1 1) [0] = 8 := by
  unfold scoreV
  rw [if_pos exK1, exM1]
  decide +kernel
theorem exV2 : scoreV dSome (plSz 3 1 1) [0] = 14 := by
  unfold scoreV
  rw [if_pos exK2, exM2]
  decide +kernel
theorem exV3 : scoreV dSome (plSz 4 1 1) [0] = 0 := if_neg (by rw [exK3.1]; decide)
set_option maxRecDepth 100000 in set_option maxHeartbeats 4000000 in
theorem law14_sized (a b c : Int) (w : World) : Calls Tryd.prog 33 #[.int .i64 a, .int .i64 b, .int .i64 c] w (RB w (.agg #[.int .i64 0, .int .i64 0, .int .i64 0, .int .i64 a, .int .i64 b, .int .i64 c, .bool false, .bool false, .bool false])) := by
  go_enter Tryd.func33, Tryd.ntmps33
  go_wp2_with fail
  go_returns
  exact ⟨rfl, by (repeat (first | (with_reducible exact Below.refl _ _) | (with_reducible assumption) | (with_reducible refine below_alloc ?_ _) | (with_reducible refine below_drewN ?_ _) | (with_reducible refine Below.drew ?_) | (with_reducible refine below_then ?_ (by with_reducible assumption)) | (with_reducible refine Below.setCell ?_ (by go_size) _)))⟩
theorem of_lit (a : Int) (z e : Int) (W w : World) (hT : TabAt 0 Lib.deBruijn64tab w) (hg : 0 < w.heap.size) (hw : Below w.heap.size w W) (h1 : scoreE dSome (plSz a 1 1) [0] = e) (h2 : scoreV dSome (plSz a 1 1) [0] = z) :
    Calls Tryd.prog 30 #[.agg #[.int .i64 3, .int .i64 2, .int .i64 1], .agg #[.int .i64 0, .int .i64 0, .int .i64 0, .int .i64 a, .int .i64 1, .int .i64 1, .bool false, .bool false, .bool false], .slice (some ⟨W.heap.size, 0, none⟩) 1 1] (W.alloc (.cells #[.int .u64 0] 63)) (RB (W.alloc (.cells #[.int .u64 0] 63)) (.tuple #[.int .i64 z, .int .i64 e])) := by
  have hb2 : Below w.heap.size w (W.alloc (.cells #[.int .u64 0] 63)) := below_alloc hw _
  have hT2 := tab_keep' hT hg hb2
  have s1 := sin_new' W [0] 63 (by simp) (w64_0 0 (by decide))
  have := score_Of dSome (plSz a 1 1) _ 1 [0] _ s1 hT2.1 hT2.2
  rw [h1, h2] at this
  exact this
theorem spread_lit (x : Nat) (z e : Int) (W w : World) (hx : x < 100) (hT : TabAt 0 Lib.deBruijn64tab w) (hg : 0 < w.heap.size) (hw : Below w.heap.size w W) (h1 : oneE dSome [x] = e) (h2 : spreadV dSome [x] = z) :
    Calls Tryd.prog 28 #[.agg #[.int .i64 3, .int .i64 2, .int .i64 1], .slice (some ⟨W.heap.size, 0, none⟩) 1 1] (W.alloc (.cells #[.int .u64 (x : Int)] 63)) (RB (W.alloc (.cells #[.int .u64 (x : Int)] 63)) (.tuple #[.int .i64 z, .int .i64 e])) := by
  have hb2 : Below w.heap.size w (W.alloc (.cells #[.int .u64 (x : Int)] 63)) := below_alloc hw _
  have hT2 := tab_keep' hT hg hb2
  have s1 := sin_new' W [x] 63 (by simp) (w64_0 x hx)
  have := score_Spread dSome _ 1 [x] _ s1 hT2.1 hT2.2
  rw [h1, h2] at this
  exact this
set_option maxRecDepth 100000 in set_option maxHeartbeats 4000000 in
theorem law14_ScoreNames (w : World) (hT : TabAt 0 Lib.deBruijn64tab w) (hg : 0 < w.heap.size) : Calls Tryd.prog 8 #[] w (RB w (.bool true)) := by
  have HT := Lib.hid hT
  have HB := Lib.hid (Below.refl w.heap.size w)
  clear hT
  go_enter Tryd.func8, Tryd.ntmps8
  go_wp2_with (first | ((with_reducible refine (law14_some _).mono ?_); rintro e w1 ⟨rfl, hb⟩; have HB := Lib.hid (below_then HB.out hb); clear hb) | ((with_reducible refine (law14_sized _ _ _ _).mono ?_); rintro e w1 ⟨rfl, hb⟩; have HB := Lib.hid (below_then HB.out hb); clear hb))
  refine (of_lit 1 8 0 _ w HT.out hg HB.out exK1 exV1).mono ?_
  rintro e w2 ⟨rfl, hb⟩
  have HB := Lib.hid (below_then (below_alloc HB.out _) hb)
  clear hb
  go_wp2_with (first | ((with_reducible refine (law14_some _).mono ?_); rintro e w1 ⟨rfl, hb⟩; have HB := Lib.hid (below_then HB.out hb); clear hb) | ((with_reducible refine (law14_sized _ _ _ _).mono ?_); rintro e w1 ⟨rfl, hb⟩; have HB := Lib.hid (below_then HB.out hb); clear hb))
  refine (of_lit 3 14 0 _ w HT.out hg HB.out exK2 exV2).mono ?_
  rintro e w2 ⟨rfl, hb⟩
  have HB := Lib.hid (below_then (below_alloc HB.out _) hb)
  clear hb
  go_wp2_with (first | ((with_reducible refine (law14_some _).mono ?_); rintro e w1 ⟨rfl, hb⟩; have HB := Lib.hid (below_then HB.out hb); clear hb) | ((with_reducible refine (law14_sized _ _ _ _).mono ?_); rintro e w1 ⟨rfl, hb⟩; have HB := Lib.hid (below_then HB.out hb); clear hb))
  refine (spread_lit 1 4 0 _ w (by decide) HT.out hg HB.out exK3.2.2.1 exK3.2.2.2).mono ?_
  rintro e w2 ⟨rfl, hb⟩
  have HB := Lib.hid (below_then (below_alloc HB.out _) hb)
  clear hb
  go_wp2_with (first | ((with_reducible refine (law14_some _).mono ?_); rintro e w1 ⟨rfl, hb⟩; have HB := Lib.hid (below_then HB.out hb); clear hb) | ((with_reducible refine (law14_sized _ _ _ _).mono ?_); rintro e w1 ⟨rfl, hb⟩; have HB := Lib.hid (below_then HB.out hb); clear hb))
  refine (of_lit 4 0 2 _ w HT.out hg HB.out exK3.1 exV3).mono ?_
  rintro e w2 ⟨rfl, hb⟩
  have HB := Lib.hid (below_then (below_alloc HB.out _) hb)
  clear hb
  go_wp2_with (first | ((with_reducible refine (law14_some _).mono ?_); rintro e w1 ⟨rfl, hb⟩; have HB := Lib.hid (below_then HB.out hb); clear hb) | ((with_reducible refine (law14_sized _ _ _ _).mono ?_); rintro e w1 ⟨rfl, hb⟩; have HB := Lib.hid (below_then HB.out hb); clear hb))
  refine (spread_lit 64 0 8 _ w (by decide) HT.out hg HB.out exK3.2.1 (if_neg (by rw [exK3.2.1]; decide))).mono ?_
  rintro e w2 ⟨rfl, hb⟩
  have HB := Lib.hid (below_then (below_alloc HB.out _) hb)
  clear hb
  go_wp2_with fail
  refine (law14_alive _ (tab_keep' HT.out hg HB.out).1 (tab_keep' HT.out hg HB.out).2).mono ?_
  rintro e w3 ⟨rfl, hb⟩
  have HB3 := below_then HB.out hb
  clear hb
  go_wp2_with fail
  go_returns
  exact ⟨rfl, HB3⟩
set_option maxRecDepth 100000 in set_option maxHeartbeats 4000000 in
theorem lift_scoreNames (os : Os) (started : os.Started) (H : Type) (enc : TypeId × Value → H) (F : Stop.Interp) :
    ReturnsInHanded {} Tryd.checked os 8 .any ((OpenSpec.ofChange Rows.scoreNamesSpec).preRow enc Tryd.prog Tryd.f8 Rows.scoreNamesRow.domain false Rows.scoreNamesRow.laid) (((OpenSpec.ofChange Rows.scoreNamesSpec).at F).post enc Tryd.prog Tryd.f8 false true false false) := by
  obtain ⟨places, hx⟩ : ∃ places, DataW.whole enc Tryd.prog ((laidWorld os).forCall (fun _ _ => 0) ⟨#[], #[], []⟩).memory Tryd.f8.params.toList Rows.scoreNamesSpec.vars false #[].toList 8 = some ([], [], places) := ⟨[], by kernel_rfl⟩
  refine returnsInHanded_of_row (C := Tryd.checked) (s := OpenSpec.ofChange Rows.scoreNamesSpec) ownKnob0 started (by kernel_rfl) Tryd.func8
    (witness_row_at (enc := enc) (C := Tryd.checked) false (laidWorld os) #[] rfl (by kernel_rfl) (by kernel_rfl) (by kernel_rfl)
      (OpenSpec.preRow_of_cond 8 hx (by kernel_rfl) (fun k hk => by cases hk) (by kernel_rfl) (laidMet_of_run' 8 (by kernel_rfl) (by kernel_rfl)))) ?_
  intro W base args ds gs before hval0 hW _ _ _ hL0 _ _
  have hval : ∀ (j : Nat) t v, Tryd.f8.params[j]? = some t → args[j]? = some v → Value.okWide Tryd.prog W .any base t v := hval0
  have hT := tab_of_laid (W := W) hL0
  have hg := tab_lt hT
  have hW' := hW
  obtain ⟨p, q, hA0, hV, rfl, hfz, hnd⟩ := hW
  have hA : DataW.TrodAll enc Tryd.prog W 0 (fun _ => true) true Tryd.f8.params.toList args.toList ds p := hA0
  rw [Tryd.params8] at hA hval
  have hK := hA
  obtain ⟨rfl, rfl, rfl⟩ := trodAll_none hA
  obtain ⟨rfl, rfl⟩ := trodVars_none hV
  clear hA0 hval0
  simp only [List.append_nil] at hW'
  refine (law14_ScoreNames W hT hg).mono fun e W' ⟨he, bel⟩ => ?_
  subst he
  refine ⟨_, rfl, _, _, _, [], _, [], hW', trodAll_mk1 (shut_bool Tryd.underlying4 _), trodAll_below bel _ _ _ _ ?_ hK, rfl, bel.frame _, fun h => by cases h⟩
  intro t ht
  simp at ht <;> (rcases ht with rfl <;> exact ⟨by kernel_rfl, of_decide_eq_true (by kernel_rfl)⟩)

theorem said_scoreNames : Rows.ScoreNamesSaid :=
  OpenClaim.holds_of_cond 8 Tryd.f8 rfl rfl rfl rfl rfl rfl rfl ⟨rfl, rfl, rfl, rfl, rfl⟩ rfl rfl rfl rfl rfl (by kernel_rfl) Tryd.func8 (by kernel_rfl)
    (of_decide_eq_true (by kernel_rfl)) (by unfold Func.isWrapper; first | (rw [if_pos (by decide +kernel)]; kernel_rfl) | (rw [if_neg (by decide +kernel)]; exact ⟨rfl, rfl⟩))
    (fun os started H enc _ F => by rw [OpenClaim.pre_eq_preRow]; exact lift_scoreNames os started H enc F)

theorem plain_scoreNames (f : FuncId) (fn : Func) (hf : Tryd.pinned.checked.prog.funcNamed "tidehall/tidehalllaw14.ScoreNames" = some f) (hfn : Tryd.pinned.checked.prog.funcs[f]? = some fn) :
    false = Tryd.pinned.checked.prog.looks [] ∧ ∀ (j : Nat) t, fn.params[j]? = some t → Tryd.pinned.checked.prog.wantsStandIn t = false := by
  obtain rfl : f = 8 := Option.some.inj ((show Tryd.prog.funcNamed "tidehall/tidehalllaw14.ScoreNames" = some 8 by kernel_rfl).symm.trans hf) |>.symm
  obtain rfl : fn = Tryd.f8 := (Option.some.inj (Tryd.func8.symm.trans hfn)).symm
  refine ⟨by kernel_rfl, fun j t ht => ?_⟩
  rw [Tryd.params8] at ht
  have hm := Array.mem_of_getElem? ht
  simp at hm <;> (rcases hm with rfl <;> exact (show Tryd.prog.wantsStandIn _ = false by kernel_rfl))

theorem ScoreNames_holds : Rows.ScoreNamesCardSaid :=
  Claim7.holds_tied_plain_at .later [] _ _ _ _ said_scoreNames (fun _ h => by cases h) (by kernel_rfl) (fun _ h => by cases h) scoreNames_row_tie rfl ⟨rfl, rfl⟩ (by kernel_rfl) rfl plain_scoreNames (by kernel_rfl)
end Go.Proofs.YthabpiphfaedaaaDoor
