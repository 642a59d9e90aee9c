/- SetTells: the set of numbers, a set's numbers, how many there are, whether one is in it, or the errors, are the document's: the call returns true. -/
import Derived.Test.YtilibdhcahdndaaDoorSetVals
import Derived.Test.YtilibdhcahdndaaDoorCopy
import Derived.Test.YtilibdhcahdndaaDoorRowTab
namespace Go.Proofs.YtilibdhcahdndaaDoor
open Go.ChangeShapes Go.WideShapes Go.ChangeAt Go.RowKit Go.Shelf

set_option maxRecDepth 100000 in set_option maxHeartbeats 4000000 in
theorem law03_SetTells (n : Int) (bs bl : Option Addr) (cs cl : Nat) (s : List Nat) (l : List Int) (k : Int) (w : World) (hs : Rd w bs (wcells s) ∧ W64 s) (hl : Rd w bl (l.map (Value.int .i64))) (hns : bs = none → s.length = 0 ∧ cs = 0) (hk : k ≤ 9223372036854775807)
    (hT : TabAt 0 Lib.deBruijn64tab w) (hg : 0 < w.heap.size) :
    Calls Tryd.prog 6 #[.int .i64 n, .slice bs s.length cs, .slice bl l.length cl, .int .i64 k] w (RB w (.bool true)) := by
  obtain ⟨i0, hi, iz0, iz1, iz2⟩ := info_parts infoU64
  have HS0 := Lib.hid hs
  have HL0 := Lib.hid hl
  have haf := Lib.hid hs.2
  have HT := Lib.hid hT
  clear hs hl hT
  by_cases h1 : s.length ≤ 300
  · by_cases h2 : l.length ≤ 1000
    · have HS := Lib.hid (SetIn.mk HS0.out.1 (by omega) haf.out)
      have HL := Lib.hid (LIn.mk HL0.out (by omega))
      clear HS0 HL0
      have hJ := Lib.hid (And.intro (ofSet_fit n l) (ofSet_len n l))
      have hM := Lib.hid (listV_len n s)
      have C1 := Lib.hid (fun (W : World) (h : LIn W bl l) => set_Of n bl cl l W h)
      have D1 := Lib.hid (fun (W : World) (h : LIn W bl l) => ref03_Of n bl cl l W h)
      have C2 := Lib.hid (fun (base : Option Addr) (cap : Nat) (W : World) (h : SetIn W base s) ht hg => set_List n base cap s W h ht hg)
      have D2 := Lib.hid (fun (W : World) (h : SetIn W bs s) => ref03_List n bs cs s W h)
      have C3 := Lib.hid (fun (base : Option Addr) (cap : Nat) (W : World) (h : SetIn W base s) => set_Has n base cap s k W h)
      have D3 := Lib.hid (fun (W : World) (h : SetIn W bs s) => ref03_Has n bs cs s k W h hk)
      have C4 := Lib.hid (fun (base : Option Addr) (cap : Nat) (W : World) (h : SetIn W base s) => set_Many n base cap s W h)
      have D4 := Lib.hid (fun (W : World) (h : SetIn W bs s) => ref03_Many n bs cs s W h)
      have C5 := Lib.hid (fun (base : Option Addr) (cap : Nat) (W : World) (h : SetIn W base s) => set_Check n base cap s W h.rd h.len h.fit)
      have D5 := Lib.hid (fun (W : World) (h : SetIn W bs s) => ref03_Check n bs cs s W h)
      generalize ofSet n l = j1 at *
      generalize ofErr n l = e1 at *
      generalize listV n s = m1 at *
      generalize hasV n s k = x1 at *
      generalize manyV n s = q1 at *
      generalize sChk n s = e0 at *
      go_enter Tryd.func6, Tryd.ntmps6
      go_wp2_with (first | (refine wp_region_quiet_lit (by kernel_rfl) (by kernel_rfl) ?_; (repeat (any_goals (first | go_big_quiet_step (fail) | quiet_step (fail) | (refine wpQuiet_step (fun K hK => ?_); go_simp; split <;> (refine hK _ ?_; clear hK K))))); all_goals (refine wpQuiet_nil ?_; intro _ hw'; obtain ⟨nq, hw''⟩ := hw'; subst hw'')) | (at_builtin; refine wpList_copy _ rfl _ _ 23 rfl 37 i0 (.int .u64 0) 1 8 Tryd.underlying23 hi iz0 iz1 iz2 rfl (by decide) (by decide) rfl bs s.length cs (wcells s) rfl (by rw [wcells_len]; omega) hns ?ap1 (wcells_one s) (by omega) ?_))
      case ap1 => exact HS.out.rd.keep (by (repeat (first | (with_reducible exact Below.refl _ _) | (with_reducible assumption) | (with_reducible refine below_alloc ?_ _) | (with_reducible refine below_drewN ?_ _) | (with_reducible refine Below.drew ?_) | (with_reducible refine below_then ?_ (by with_reducible assumption)) | (with_reducible refine Below.setCell ?_ (by go_size) _))))
      intro v' w1 r1 hb1
      have hb0 : Below w.heap.size w w1 := by (repeat (first | (with_reducible exact Below.refl _ _) | (with_reducible assumption) | (with_reducible refine below_alloc ?_ _) | (with_reducible refine below_drewN ?_ _) | (with_reducible refine Below.drew ?_) | (with_reducible refine below_then ?_ (by with_reducible assumption)) | (with_reducible refine Below.setCell ?_ (by go_size) _)))
      have HF := Lib.hid hb0
      obtain ⟨ob, oc, rfl, so, _⟩ := set_of_own r1 (by omega) haf.out
      have HO := Lib.hid so
      have HS := Lib.hid (HS.out.keep hb0)
      have HL := Lib.hid (HL.out.keep hb0)
      clear so r1 hb1 hb0
      go_wp2_with fail
      refine (C1.out _ HL.out).mono ?_
      rintro e w2 ⟨v1, rfl, q1', hb1⟩
      obtain ⟨b1, k1, rfl, s1, _⟩ := set_of_own q1' (by have := hJ.out.2; omega) hJ.out.1
      have S1 := Lib.hid s1
      have HF := Lib.hid (below_then HF.out hb1)
      (have HO := Lib.hid (HO.out.keep hb1)); (have HS := Lib.hid (HS.out.keep hb1)); (have HL := Lib.hid (HL.out.keep hb1))
      clear q1' s1 hb1
      go_wp2_with fail
      refine (D1.out _ HL.out).mono ?_
      rintro e w3 ⟨v2, rfl, q2', hb1⟩
      obtain ⟨b2, k2, rfl, s2, _⟩ := set_of_own q2' (by have := hJ.out.2; omega) hJ.out.1
      have S2 := Lib.hid s2
      have HF := Lib.hid (below_then HF.out hb1)
      (have HO := Lib.hid (HO.out.keep hb1)); (have HS := Lib.hid (HS.out.keep hb1)); (have S1 := Lib.hid (S1.out.keep hb1))
      clear q2' s2 hb1
      go_wp2_with fail
      refine (C2.out ob oc _ HO.out (tab_keep HT.out hg HF.out) (Nat.lt_of_lt_of_le hg HF.out.size)).mono ?_
      rintro e w4 ⟨v3, rfl, q3', hb1⟩
      obtain ⟨b3, k3, rfl, s3, _⟩ := list_of_own q3' (by have := hM.out; omega)
      have L1 := Lib.hid s3
      have HF := Lib.hid (below_then HF.out hb1)
      (have HO := Lib.hid (HO.out.keep hb1)); (have HS := Lib.hid (HS.out.keep hb1)); (have S1 := Lib.hid (S1.out.keep hb1)); (have S2 := Lib.hid (S2.out.keep hb1))
      clear q3' s3 hb1
      go_wp2_with fail
      refine (D2.out _ HS.out).mono ?_
      rintro e w5 ⟨v4, rfl, q4', hb1⟩
      obtain ⟨b4, k4, rfl, s4, _⟩ := list_of_own q4' (by have := hM.out; omega)
      have L2 := Lib.hid s4
      have HF := Lib.hid (below_then HF.out hb1)
      (have HO := Lib.hid (HO.out.keep hb1)); (have HS := Lib.hid (HS.out.keep hb1)); (have S1 := Lib.hid (S1.out.keep hb1)); (have S2 := Lib.hid (S2.out.keep hb1)); (have L1 := Lib.hid (L1.out.keep hb1))
      clear q4' s4 hb1
      go_wp2_with fail
      refine (C3.out ob oc _ HO.out).mono ?_
      rintro e w6 ⟨rfl, hb1⟩
      (have HF := Lib.hid (below_then HF.out hb1); have HO := Lib.hid (HO.out.keep hb1); have HS := Lib.hid (HS.out.keep hb1); have S1 := Lib.hid (S1.out.keep hb1); have S2 := Lib.hid (S2.out.keep hb1); have L1 := Lib.hid (L1.out.keep hb1); have L2 := Lib.hid (L2.out.keep hb1); clear hb1)
      go_wp2_with fail
      refine (D3.out _ HS.out).mono ?_
      rintro e w7 ⟨rfl, hb1⟩
      (have HF := Lib.hid (below_then HF.out hb1); have HO := Lib.hid (HO.out.keep hb1); have HS := Lib.hid (HS.out.keep hb1); have S1 := Lib.hid (S1.out.keep hb1); have S2 := Lib.hid (S2.out.keep hb1); have L1 := Lib.hid (L1.out.keep hb1); have L2 := Lib.hid (L2.out.keep hb1); clear hb1)
      go_wp2_with fail
      refine (C4.out ob oc _ HO.out).mono ?_
      rintro e w8 ⟨rfl, hb1⟩
      (have HF := Lib.hid (below_then HF.out hb1); have HO := Lib.hid (HO.out.keep hb1); have HS := Lib.hid (HS.out.keep hb1); have S1 := Lib.hid (S1.out.keep hb1); have S2 := Lib.hid (S2.out.keep hb1); have L1 := Lib.hid (L1.out.keep hb1); have L2 := Lib.hid (L2.out.keep hb1); clear hb1)
      go_wp2_with fail
      refine (D4.out _ HS.out).mono ?_
      rintro e w9 ⟨rfl, hb1⟩
      (have HF := Lib.hid (below_then HF.out hb1); have HO := Lib.hid (HO.out.keep hb1); have HS := Lib.hid (HS.out.keep hb1); have S1 := Lib.hid (S1.out.keep hb1); have S2 := Lib.hid (S2.out.keep hb1); have L1 := Lib.hid (L1.out.keep hb1); have L2 := Lib.hid (L2.out.keep hb1); clear hb1)
      go_wp2_with fail
      refine (C5.out ob oc _ HO.out).mono ?_
      rintro e w10 ⟨rfl, hw3⟩; have hw3 := hw3.symm; subst hw3
      go_wp2_with fail
      refine (D5.out _ HS.out).mono ?_
      rintro e w10 ⟨rfl, hw3⟩; have hw3 := hw3.symm; subst hw3
      clear C1 C2 C3 C4 C5 D1 D2 D3 D4 D5
      go_wp2_with fail
      (refine (Calls.rb_eq (ref03_Same b1 b2 k1 k2 j1 j1 _ S1.out S2.out) (show Value.bool (decide (j1 = j1)) = .bool true by simp)).mono ?_)
      rintro e w11 ⟨rfl, hb1⟩
      (have HF := Lib.hid (below_then HF.out hb1); have HO := Lib.hid (HO.out.keep hb1); have HS := Lib.hid (HS.out.keep hb1); have S1 := Lib.hid (S1.out.keep hb1); have S2 := Lib.hid (S2.out.keep hb1); have L1 := Lib.hid (L1.out.keep hb1); have L2 := Lib.hid (L2.out.keep hb1); clear hb1)
      go_wp2_with fail
      refine (Calls.rb_eq (ref02_Ints b3 b4 k3 k4 m1 m1 _ L1.out L2.out) (show Value.bool (decide (m1 = m1)) = .bool true by simp)).mono ?_
      rintro e w12 ⟨rfl, hb1⟩
      (have HF := Lib.hid (below_then HF.out hb1); have HO := Lib.hid (HO.out.keep hb1); have HS := Lib.hid (HS.out.keep hb1); have S1 := Lib.hid (S1.out.keep hb1); have S2 := Lib.hid (S2.out.keep hb1); have L1 := Lib.hid (L1.out.keep hb1); have L2 := Lib.hid (L2.out.keep hb1); clear hb1)
      go_wp2_with fail
      (refine (Calls.rb_eq (ref03_Same ob bs oc cs s s _ HO.out HS.out) (show Value.bool (decide (s = s)) = .bool true by simp)).mono ?_)
      rintro e w13 ⟨rfl, hb1⟩
      have HF := Lib.hid (below_then HF.out hb1)
      go_wp2_with fail
      go_returns
      exact ⟨rfl, HF.out⟩
    · have h2' : 1000 < l.length := by omega
      go_enter Tryd.func6, Tryd.ntmps6
      go_wp2_with (refine wp_region_quiet_lit (by kernel_rfl) (by kernel_rfl) ?_; (repeat (any_goals (first | go_big_quiet_step (fail) | quiet_step (fail) | (refine wpQuiet_step (fun K hK => ?_); go_simp; split <;> (refine hK _ ?_; clear hK K))))); all_goals (refine wpQuiet_nil ?_; intro _ hw'; obtain ⟨nq, hw''⟩ := hw'; subst hw''))
      all_goals
        go_returns
        exact ⟨rfl, by (repeat (first | (with_reducible exact Below.refl _ _) | (with_reducible assumption) | (with_reducible refine below_alloc ?_ _) | (with_reducible refine below_drewN ?_ _) | (with_reducible refine Below.drew ?_) | (with_reducible refine below_then ?_ (by with_reducible assumption)) | (with_reducible refine Below.setCell ?_ (by go_size) _)))⟩
  · have h1' : 300 < s.length := by omega
    go_enter Tryd.func6, Tryd.ntmps6
    go_wp2_with (refine wp_region_quiet_lit (by kernel_rfl) (by kernel_rfl) ?_; (repeat (any_goals (first | go_big_quiet_step (fail) | quiet_step (fail) | (refine wpQuiet_step (fun K hK => ?_); go_simp; split <;> (refine hK _ ?_; clear hK K))))); all_goals (refine wpQuiet_nil ?_; intro _ hw'; obtain ⟨nq, hw''⟩ := hw'; subst hw''))
    all_goals
      go_returns
      exact ⟨rfl, by (repeat (first | (with_reducible exact Below.refl _ _) | (with_reducible assumption) | (with_reducible refine below_alloc ?_ _) | (with_reducible refine below_drewN ?_ _) | (with_reducible refine Below.drew ?_) | (with_reducible refine below_then ?_ (by with_reducible assumption)) | (with_reducible refine Below.setCell ?_ (by go_size) _)))⟩

set_option maxRecDepth 100000 in set_option maxHeartbeats 4000000 in
theorem lift_setTells (os : Os) (started : os.Started) (H : Type) (enc : TypeId × Value → H) (F : Stop.Interp) :
    ReturnsInHanded {} Tryd.checked os 6 .any ((OpenSpec.ofChange Rows.setTellsSpec).preRow enc Tryd.prog Tryd.f6 Rows.setTellsRow.domain false Rows.setTellsRow.laid) (((OpenSpec.ofChange Rows.setTellsSpec).at F).post enc Tryd.prog Tryd.f6 false true false false) := by
  obtain ⟨places, hx⟩ : ∃ places, DataW.whole enc Tryd.prog ((laidWorld os).forCall (fun _ _ => 0) ⟨#[], #[.int .i64 0, .slice none 0 0, .slice none 0 0, .int .i64 0], []⟩).memory Tryd.f6.params.toList Rows.setTellsSpec.vars false #[.int .i64 0, .slice none 0 0, .slice none 0 0, .int .i64 0].toList 8 = some ([.lit (.int .i64 0), .nil, .nil, .lit (.int .i64 0)], [], places) := ⟨[], by kernel_rfl⟩
  refine returnsInHanded_of_row (C := Tryd.checked) (s := OpenSpec.ofChange Rows.setTellsSpec) ownKnob0 started (by kernel_rfl) Tryd.func6
    (witness_row_at (enc := enc) (C := Tryd.checked) false (laidWorld os) #[.int .i64 0, .slice none 0 0, .slice none 0 0, .int .i64 0] rfl (by kernel_rfl) (by kernel_rfl) (by kernel_rfl)
      (OpenSpec.preRow_of_cond 8 hx (by kernel_rfl) (fun k hk => by cases hk) (by kernel_rfl) (laidMet_of_run' 8 (by kernel_rfl) (by kernel_rfl)))) ?_
  intro W base args ds gs before hval0 hW _ _ _ hL0 _ _
  have hval : ∀ (j : Nat) t v, Tryd.f6.params[j]? = some t → args[j]? = some v → Value.okWide Tryd.prog W .any base t v := hval0
  have hT := tab_of_laid (W := W) hL0
  have hg := tab_lt hT
  have hW' := hW
  obtain ⟨p, q, hA0, hV, rfl, hfz, hnd⟩ := hW
  have hA : DataW.TrodAll enc Tryd.prog W 0 (fun _ => true) true Tryd.f6.params.toList args.toList ds p := hA0
  rw [Tryd.params6] at hA hval
  have hK := hA
  obtain ⟨v0, vs0, d0, ds0, p0, q0, hargs, rfl, rfl, h0, r0⟩ := trodAll_cons hA
  obtain ⟨v1, vs1, d1, ds1, p1, q1, rfl, rfl, rfl, h1, r1⟩ := trodAll_cons r0
  obtain ⟨v2, vs2, d2, ds2, p2, q2, rfl, rfl, rfl, h2, r2⟩ := trodAll_cons r1
  obtain ⟨v3, vs3, d3, ds3, p3, q3, rfl, rfl, rfl, h3, r3⟩ := trodAll_cons r2
  obtain ⟨rfl, rfl, rfl⟩ := trodAll_nil r3
  obtain rfl : args = #[v0, v1, v2, v3] := by cases args; simp_all
  obtain ⟨n, rfl⟩ := okWide_int Tryd.underlying3 (hval 0 _ v0 rfl rfl)
  obtain ⟨bs, s, cs, rfl, hs, hns⟩ := open_set (hval 1 _ v1 rfl rfl) h1
  obtain ⟨bl, l, cl, rfl, hl, _, _, _⟩ := open_row Tryd.underlying24 Tryd.underlying3 (by kernel_rfl) (hval 2 _ v2 rfl rfl) h2
  obtain ⟨k, rfl, rfl, rfl, wk⟩ := open_int Tryd.underlying3 (hval 3 _ v3 rfl rfl) h3
  have hk := (bounds_i64 wk).2
  obtain ⟨rfl, rfl⟩ := trodVars_none hV
  clear hA0 hval0
  simp only [List.append_nil] at hW'
  refine (law03_SetTells n bs bl cs cl s l k W hs hl hns hk hT hg).mono fun e W' ⟨he, bel⟩ => ?_
  subst he
  refine ⟨_, rfl, _, _, _, [], _, [], hW', trodAll_mk1 (shut_bool Tryd.underlying4 _), trodAll_below bel _ _ _ _ ?_ hK, rfl, bel.frame _, fun h => by cases h⟩
  intro t ht
  simp at ht <;> (rcases ht with rfl | rfl | rfl | rfl <;> exact ⟨by kernel_rfl, of_decide_eq_true (by kernel_rfl)⟩)

theorem said_setTells : Rows.SetTellsSaid :=
  OpenClaim.holds_of_cond 6 Tryd.f6 rfl rfl rfl rfl rfl rfl rfl ⟨rfl, rfl, rfl, rfl, rfl⟩ rfl rfl rfl rfl rfl (by kernel_rfl) Tryd.func6 (by kernel_rfl)
    (of_decide_eq_true (by kernel_rfl)) (by unfold Func.isWrapper; first | (rw [if_pos (by decide +kernel)]; kernel_rfl) | (rw [if_neg (by decide +kernel)]; exact ⟨rfl, rfl⟩))
    (fun os started H enc _ F => by rw [OpenClaim.pre_eq_preRow]; exact lift_setTells os started H enc F)

theorem plain_setTells (f : FuncId) (fn : Func) (hf : Tryd.pinned.checked.prog.funcNamed "tidehall/tidehalllaw03.SetTells" = some f) (hfn : Tryd.pinned.checked.prog.funcs[f]? = some fn) :
    false = Tryd.pinned.checked.prog.looks [] ∧ ∀ (j : Nat) t, fn.params[j]? = some t → Tryd.pinned.checked.prog.wantsStandIn t = false := by
  obtain rfl : f = 6 := Option.some.inj ((show Tryd.prog.funcNamed "tidehall/tidehalllaw03.SetTells" = some 6 by kernel_rfl).symm.trans hf) |>.symm
  obtain rfl : fn = Tryd.f6 := (Option.some.inj (Tryd.func6.symm.trans hfn)).symm
  refine ⟨by kernel_rfl, fun j t ht => ?_⟩
  rw [Tryd.params6] at ht
  have hm := Array.mem_of_getElem? ht
  simp at hm <;> (rcases hm with rfl | rfl | rfl | rfl <;> exact (show Tryd.prog.wantsStandIn _ = false by kernel_rfl))

theorem SetTells_holds : Rows.SetTellsCardSaid :=
  Claim7.holds_tied_plain_at .later [] _ _ _ _ said_setTells (fun _ h => by cases h) (by kernel_rfl) (fun _ h => by cases h) setTells_row_tie rfl ⟨rfl, rfl⟩ (by kernel_rfl) rfl plain_setTells (by kernel_rfl)
end Go.Proofs.YtilibdhcahdndaaDoor
