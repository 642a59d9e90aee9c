/- SetNames: the errors' numbers, and the chapter's examples: the call returns true. -/
import Derived.Test.YtilibdhcahdndaaDoorSetAlive
import Derived.Test.YtilibdhcahdndaaDoorRowTab
namespace Go.Proofs.YtilibdhcahdndaaDoor
open Go.ChangeShapes Go.WideShapes Go.ChangeAt Go.RowKit Go.Shelf

theorem exNames : manyV 70 [8, 32] = 2 ∧ ofErr 70 [70] = 2 ∧ ofErr 12289 [] = 2 ∧ ofErr 12288 [] = 0 ∧ sChk 70 [8] = 8 ∧ sChk 70 [0, 64] = 8 := by decide +kernel
theorem exFit2 : W64 [8] := by intro x hx; simp at hx; omega
theorem exFit3 : W64 [0, 64] := by intro x hx; simp at hx; omega

set_option maxRecDepth 100000 in set_option maxHeartbeats 4000000 in
theorem law03_SetNames (w : World) (hT : TabAt 0 Lib.deBruijn64tab w) (hg : 0 < w.heap.size) :
    Calls Tryd.prog 4 #[] w (RB w (.bool true)) := by
  obtain ⟨e1, e2, e3, e4, e5, e6⟩ := exNames
  have H1 := Lib.hid (fun (W : World) (b : Option Addr) (h : SetIn W b [8, 32]) => (show Calls Tryd.prog 13 #[.int .i64 70, .slice b 2 2] W (RB W (.tuple #[.int .i64 2, .int .i64 0])) from by
    have := set_Many 70 b 2 [8, 32] W h
    rw [e1, exList.1] at this
    exact this))
  obtain ⟨j2, H2⟩ : ∃ j2, ∀ (W : World) (b : Option Addr) (h : LIn W b [70]), Calls Tryd.prog 10 #[.int .i64 70, .slice b 1 1] W (RUE W j2 2) := ⟨ofSet 70 [70], fun W b h => by
    have := set_Of 70 b 1 [70] W h
    rw [e2] at this
    exact this⟩
  have H2 := Lib.hid H2
  obtain ⟨j3, H3⟩ : ∃ j, ∀ (W : World), Calls Tryd.prog 10 #[.int .i64 12289, .slice none 0 0] W (RUE W j 2) := ⟨ofSet 12289 [], fun W => by
    have := set_Of 12289 none 0 [] W ⟨Rd.nil _ _, by decide⟩
    rw [e3] at this
    exact this⟩
  have H3 := Lib.hid H3
  obtain ⟨j4, H4⟩ : ∃ j, ∀ (W : World), Calls Tryd.prog 10 #[.int .i64 12288, .slice none 0 0] W (RUE W j 0) := ⟨ofSet 12288 [], fun W => by
    have := set_Of 12288 none 0 [] W ⟨Rd.nil _ _, by decide⟩
    rw [e4] at this
    exact this⟩
  have H4 := Lib.hid H4
  have H5 := Lib.hid (fun (W : World) (b : Option Addr) (h : SetIn W b [8]) => (show Calls Tryd.prog 14 #[.int .i64 70, .slice b 1 1] W (fun e w' => e = .returned (.int .i64 8) ∧ w' = W) from by
    have := set_Check 70 b 1 [8] W h.rd h.len h.fit
    rw [e5] at this
    exact this))
  have H6 := Lib.hid (fun (W : World) (b : Option Addr) (h : SetIn W b [0, 64]) => (show Calls Tryd.prog 14 #[.int .i64 70, .slice b 2 2] W (fun e w' => e = .returned (.int .i64 8) ∧ w' = W) from by
    have := set_Check 70 b 2 [0, 64] W h.rd h.len h.fit
    rw [e6] at this
    exact this))
  have HT := Lib.hid hT
  clear hT e1 e2 e3 e4 e5 e6
  go_enter Tryd.func4, Tryd.ntmps4
  go_wp2_with fail
  have hb0 := below_alloc (Below.refl w.heap.size w) (.cells (wcells [8, 32]).toArray 37)
  refine (H1.out _ _ (sin_new w [8, 32] 37 (by decide) exFit)).mono ?_
  rintro e w1 ⟨rfl, hb1⟩
  have HF := Lib.hid (below_then hb0 hb1)
  clear hb0 hb1
  go_wp2_with fail
  have hb0 := below_alloc (Below.refl w1.heap.size w1) (.cells (([70] : List Int).map (Value.int .i64)).toArray 3)
  refine (H2.out _ _ (lin_new w1 [70] 3 (by decide))).mono ?_
  rintro e w2 ⟨v2, rfl, q2, hb1⟩
  have HF := Lib.hid (below_then HF.out (below_then hb0 hb1))
  obtain ⟨b2, k2, rfl, _, _⟩ := own_rd q2
  clear hb0 hb1 q2
  go_wp2_with fail
  refine (H3.out _).mono ?_
  rintro e w3 ⟨v3, rfl, q3, hb1⟩
  have HF := Lib.hid (below_then HF.out hb1)
  obtain ⟨b3, k3, rfl, _, _⟩ := own_rd q3
  clear hb1 q3
  go_wp2_with fail
  refine (H4.out _).mono ?_
  rintro e w4 ⟨v4, rfl, q4, hb1⟩
  have HF := Lib.hid (below_then HF.out hb1)
  obtain ⟨b4, k4, rfl, _, _⟩ := own_rd q4
  clear hb1 q4
  go_wp2_with fail
  refine (law03_alive _ (tab_keep HT.out hg HF.out) (Nat.lt_of_lt_of_le hg HF.out.size)).mono ?_
  rintro e w5 ⟨rfl, hb1⟩
  have HF := Lib.hid (below_then HF.out hb1)
  clear hb1
  go_wp2_with fail
  refine (H5.out _ _ ?hs).mono ?_
  case hs => exact sin_new w5 [8] 37 (by decide) exFit2
  rintro e w6 ⟨rfl, hw3⟩; have hw3 := hw3.symm; subst hw3
  go_wp2_with fail
  refine (H6.out _ _ ?hs).mono ?_
  case hs =>
    have hq := sin_new (w5.alloc (.cells #[.int .u64 8] 37)) [0, 64] 37 (by decide) exFit3
    rw [World.size_alloc] at hq
    exact hq
  rintro e w7 ⟨rfl, hw3⟩; have hw3 := hw3.symm; subst hw3
  have HF := Lib.hid (below_alloc (below_alloc HF.out (.cells #[.int .u64 8] 37)) (.cells #[.int .u64 0, .int .u64 64] 37))
  go_wp2_with fail
  go_returns
  exact ⟨rfl, HF.out⟩

set_option maxRecDepth 100000 in set_option maxHeartbeats 4000000 in
theorem lift_setNames (os : Os) (started : os.Started) (H : Type) (enc : TypeId × Value → H) (F : Stop.Interp) :
    ReturnsInHanded {} Tryd.checked os 4 .any ((OpenSpec.ofChange Rows.setNamesSpec).preRow enc Tryd.prog Tryd.f4 Rows.setNamesRow.domain false Rows.setNamesRow.laid) (((OpenSpec.ofChange Rows.setNamesSpec).at F).post enc Tryd.prog Tryd.f4 false true false false) := by
  obtain ⟨places, hx⟩ : ∃ places, DataW.whole enc Tryd.prog ((laidWorld os).forCall (fun _ _ => 0) ⟨#[], #[], []⟩).memory Tryd.f4.params.toList Rows.setNamesSpec.vars false #[].toList 8 = some ([], [], places) := ⟨[], by kernel_rfl⟩
  refine returnsInHanded_of_row (C := Tryd.checked) (s := OpenSpec.ofChange Rows.setNamesSpec) ownKnob0 started (by kernel_rfl) Tryd.func4
    (witness_row_at (enc := enc) (C := Tryd.checked) false (laidWorld os) #[] rfl (by kernel_rfl) (by kernel_rfl) (by kernel_rfl)
      (OpenSpec.preRow_of_cond 8 hx (by kernel_rfl) (fun k hk => by cases hk) (by kernel_rfl) (laidMet_of_run' 8 (by kernel_rfl) (by kernel_rfl)))) ?_
  intro W base args ds gs before hval0 hW _ _ _ hL0 _ _
  have hval : ∀ (j : Nat) t v, Tryd.f4.params[j]? = some t → args[j]? = some v → Value.okWide Tryd.prog W .any base t v := hval0
  have hT := tab_of_laid (W := W) hL0
  have hg := tab_lt hT
  have hW' := hW
  obtain ⟨p, q, hA0, hV, rfl, hfz, hnd⟩ := hW
  have hA : DataW.TrodAll enc Tryd.prog W 0 (fun _ => true) true Tryd.f4.params.toList args.toList ds p := hA0
  rw [Tryd.params4] at hA hval
  have hK := hA
  obtain ⟨rfl, rfl, rfl⟩ := trodAll_none hA
  obtain ⟨rfl, rfl⟩ := trodVars_none hV
  clear hA0 hval0
  simp only [List.append_nil] at hW'
  refine (law03_SetNames W hT hg).mono fun e W' ⟨he, bel⟩ => ?_
  subst he
  refine ⟨_, rfl, _, _, _, [], _, [], hW', trodAll_mk1 (shut_bool Tryd.underlying4 _), trodAll_below bel _ _ _ _ ?_ hK, rfl, bel.frame _, fun h => by cases h⟩
  intro t ht
  simp at ht <;> (rcases ht with rfl <;> exact ⟨by kernel_rfl, of_decide_eq_true (by kernel_rfl)⟩)

theorem said_setNames : Rows.SetNamesSaid :=
  OpenClaim.holds_of_cond 4 Tryd.f4 rfl rfl rfl rfl rfl rfl rfl ⟨rfl, rfl, rfl, rfl, rfl⟩ rfl rfl rfl rfl rfl (by kernel_rfl) Tryd.func4 (by kernel_rfl)
    (of_decide_eq_true (by kernel_rfl)) (by unfold Func.isWrapper; first | (rw [if_pos (by decide +kernel)]; kernel_rfl) | (rw [if_neg (by decide +kernel)]; exact ⟨rfl, rfl⟩))
    (fun os started H enc _ F => by rw [OpenClaim.pre_eq_preRow]; exact lift_setNames os started H enc F)

theorem plain_setNames (f : FuncId) (fn : Func) (hf : Tryd.pinned.checked.prog.funcNamed "tidehall/tidehalllaw03.SetNames" = some f) (hfn : Tryd.pinned.checked.prog.funcs[f]? = some fn) :
    false = Tryd.pinned.checked.prog.looks [] ∧ ∀ (j : Nat) t, fn.params[j]? = some t → Tryd.pinned.checked.prog.wantsStandIn t = false := by
  obtain rfl : f = 4 := Option.some.inj ((show Tryd.prog.funcNamed "tidehall/tidehalllaw03.SetNames" = some 4 by kernel_rfl).symm.trans hf) |>.symm
  obtain rfl : fn = Tryd.f4 := (Option.some.inj (Tryd.func4.symm.trans hfn)).symm
  refine ⟨by kernel_rfl, fun j t ht => ?_⟩
  rw [Tryd.params4] at ht
  have hm := Array.mem_of_getElem? ht
  simp at hm <;> (rcases hm with rfl <;> exact (show Tryd.prog.wantsStandIn _ = false by kernel_rfl))

theorem SetNames_holds : Rows.SetNamesCardSaid :=
  Claim7.holds_tied_plain_at .later [] _ _ _ _ said_setNames (fun _ h => by cases h) (by kernel_rfl) (fun _ h => by cases h) setNames_row_tie rfl ⟨rfl, rfl⟩ (by kernel_rfl) rfl plain_setNames (by kernel_rfl)
end Go.Proofs.YtilibdhcahdndaaDoor
