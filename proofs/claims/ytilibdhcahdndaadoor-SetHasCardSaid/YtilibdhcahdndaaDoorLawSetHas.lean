/- SetHas: a number is in what is in both just if it is in both, in either, in one alone: the call returns true. -/
import Derived.Test.YtilibdhcahdndaaDoorSetPlain
import Derived.Test.YtilibdhcahdndaaDoorSetAlive
import Derived.Test.YtilibdhcahdndaaDoorRowTab
namespace Go.Proofs.YtilibdhcahdndaaDoor
open Go.ChangeShapes Go.WideShapes Go.ChangeAt Go.RowKit Go.Shelf

/-- What a call of Has says of a set. -/
def HasSays (n k : Int) (ws : List Nat) (x : Bool) (e : Int) : Prop := ∀ (W : World) (b : Option Addr) (c : Nat), SetIn W b ws → Calls Tryd.prog 12 #[.int .i64 n, .slice b ws.length c, .int .i64 k] W (RB W (.tuple #[.bool x, .int .i64 e]))
/-- What a call of And, Or, Less says of two. -/
def JoinSays (f : Nat) (n : Int) (a b ws : List Nat) (e : Int) : Prop := ∀ (W : World) (ba bb : Option Addr) (ca cb : Nat), SetIn W ba a → SetIn W bb b → Calls Tryd.prog f #[.int .i64 n, .slice ba a.length ca, .slice bb b.length cb] W (RUE W ws e)
theorem hasSays (n k : Int) (ws : List Nat) : HasSays n k ws (hasV n ws k) (sChk n ws) := fun W b c h => set_Has n b c ws k W h

set_option maxRecDepth 100000 in set_option maxHeartbeats 4000000 in
theorem law03_SetHas_err (n k : Int) (bs bt : Option Addr) (cs ct : Nat) (s t : List Nat) (w : World) (x y : Bool) (e f : Int) (hs : SetIn w bs s) (ht : SetIn w bt t) (l1 : s.length ≤ 300) (l2 : t.length ≤ 300)
    (h1 : HasSays n k s x e) (h2 : HasSays n k t y f) (hxy : (x = false ∧ (e != 0) = true) ∨ (e = 0 ∧ y = false ∧ (f != 0) = true))
    (hT : TabAt 0 Lib.deBruijn64tab w) (hg : 0 < w.heap.size) :
    Calls Tryd.prog 5 #[.int .i64 n, .slice bs s.length cs, .slice bt t.length ct, .int .i64 k] w (RB w (.bool true)) := by
  have HS := Lib.hid hs
  have HT := Lib.hid ht
  have HB := Lib.hid hT
  have H1 := Lib.hid h1
  have H2 := Lib.hid h2
  clear hs ht hT h1 h2
  rcases hxy with ⟨rfl, he⟩ | ⟨rfl, rfl, hf⟩
  all_goals
    go_enter Tryd.func5, Tryd.ntmps5
    go_wp2_with fail
    refine (law03_alive _ HB.out hg).mono ?_
    rintro e1 w1 ⟨rfl, hb1⟩
    have HF := Lib.hid hb1
    (have HS := Lib.hid (HS.out.keep hb1)); (have HT := Lib.hid (HT.out.keep hb1))
    clear hb1
    go_wp2_with (refine wp_region_quiet_lit (by kernel_rfl) (by kernel_rfl) ?_; (repeat (any_goals (first | go_big_quiet_step (fail) | quiet_step (fail) | (refine wpQuiet_step (fun K hK => ?_); go_simp; split <;> (refine hK _ ?_; clear hK K))))); all_goals (refine wpQuiet_nil ?_; intro _ hw'; obtain ⟨nq, hw''⟩ := hw'; subst hw''))
    refine (H1.out _ _ _ HS.out).mono ?_
    rintro e2 w2 ⟨rfl, hb1⟩
    have HF := Lib.hid (below_then HF.out hb1)
    (have HS := Lib.hid (HS.out.keep hb1)); (have HT := Lib.hid (HT.out.keep hb1))
    clear hb1
    go_wp2_with fail
    refine (H2.out _ _ _ HT.out).mono ?_
    rintro e3 w3 ⟨rfl, hb1⟩
    have HF := Lib.hid (below_then HF.out hb1)
    clear hb1
    go_wp2_with fail
    all_goals
      go_returns
      exact ⟨by simp, HF.out⟩

set_option maxRecDepth 100000 in set_option maxHeartbeats 4000000 in
theorem law03_SetHas_ok (n k : Int) (bs bt : Option Addr) (cs ct : Nat) (s t ja jo jl : List Nat) (w : World) (x y : Bool) (hs : SetIn w bs s) (ht : SetIn w bt t) (l1 : s.length ≤ 300) (l2 : t.length ≤ 300)
    (h1 : HasSays n k s x 0) (h2 : HasSays n k t y 0) (hk : x = true → 0 ≤ k ∧ k < n)
    (h3 : JoinSays 15 n s t ja 0) (h4 : JoinSays 16 n s t jo 0) (h5 : JoinSays 17 n s t jl 0)
    (h6 : HasSays n k ja (x && y) 0) (h7 : HasSays n k jo (x || y) 0) (h8 : HasSays n k jl (x && !y) 0)
    (la : ja.length ≤ 300) (lo : jo.length ≤ 300) (ll : jl.length ≤ 300) (fa : W64 ja) (fo : W64 jo) (fl : W64 jl)
    (hT : TabAt 0 Lib.deBruijn64tab w) (hg : 0 < w.heap.size) :
    Calls Tryd.prog 5 #[.int .i64 n, .slice bs s.length cs, .slice bt t.length ct, .int .i64 k] w (RB w (.bool true)) := by
  have HS := Lib.hid hs
  have HT := Lib.hid ht
  have HB := Lib.hid hT
  have HK := Lib.hid hk
  have H1 := Lib.hid h1
  have H2 := Lib.hid h2
  have H3 := Lib.hid h3
  have H4 := Lib.hid h4
  have H5 := Lib.hid h5
  have FA := Lib.hid fa
  have FO := Lib.hid fo
  have FL := Lib.hid fl
  clear hs ht hT hk h1 h2 h3 h4 h5 fa fo fl
  cases x <;> cases y <;> simp only [Bool.and_true, Bool.and_false, Bool.or_true, Bool.or_false, Bool.not_true, Bool.not_false] at h6 h7 h8
  all_goals
    have H6 := Lib.hid h6
    have H7 := Lib.hid h7
    have H8 := Lib.hid h8
    clear h6 h7 h8
    try obtain ⟨k0, k1⟩ := HK.out rfl
    go_enter Tryd.func5, Tryd.ntmps5
    go_wp2_with fail
    refine (law03_alive _ HB.out hg).mono ?_
    rintro e1 w1 ⟨rfl, hb1⟩
    have HF := Lib.hid hb1
    (have HS := Lib.hid (HS.out.keep hb1)); (have HT := Lib.hid (HT.out.keep hb1))
    clear hb1
    go_wp2_with (refine wp_region_quiet_lit (by kernel_rfl) (by kernel_rfl) ?_; (repeat (any_goals (first | go_big_quiet_step (fail) | quiet_step (fail) | (refine wpQuiet_step (fun K hK => ?_); go_simp; split <;> (refine hK _ ?_; clear hK K))))); all_goals (refine wpQuiet_nil ?_; intro _ hw'; obtain ⟨nq, hw''⟩ := hw'; subst hw''))
    refine (H1.out _ _ _ HS.out).mono ?_
    rintro e2 w2 ⟨rfl, hb1⟩
    have HF := Lib.hid (below_then HF.out hb1)
    (have HS := Lib.hid (HS.out.keep hb1)); (have HT := Lib.hid (HT.out.keep hb1))
    clear hb1
    go_wp2_with fail
    refine (H2.out _ _ _ HT.out).mono ?_
    rintro e3 w3 ⟨rfl, hb1⟩
    have HF := Lib.hid (below_then HF.out hb1)
    (have HS := Lib.hid (HS.out.keep hb1)); (have HT := Lib.hid (HT.out.keep hb1))
    clear hb1
    go_wp2_with fail
    refine (H3.out _ _ _ _ _ HS.out HT.out).mono ?_
    rintro e4 w4 ⟨v4, rfl, q4, hb1⟩
    obtain ⟨b4, k4, rfl, s4, _⟩ := set_of_own q4 (by omega) FA.out
    have HF := Lib.hid (below_then HF.out hb1)
    have S4 := Lib.hid s4
    (have HS := Lib.hid (HS.out.keep hb1)); (have HT := Lib.hid (HT.out.keep hb1))
    clear hb1 q4 s4
    go_wp2_with fail
    refine (H4.out _ _ _ _ _ HS.out HT.out).mono ?_
    rintro e5 w5 ⟨v5, rfl, q5, hb1⟩
    obtain ⟨b5, k5, rfl, s5, _⟩ := set_of_own q5 (by omega) FO.out
    have HF := Lib.hid (below_then HF.out hb1)
    have S5 := Lib.hid s5
    (have HS := Lib.hid (HS.out.keep hb1)); (have HT := Lib.hid (HT.out.keep hb1)); (have S4 := Lib.hid (S4.out.keep hb1))
    clear hb1 q5 s5
    go_wp2_with fail
    refine (H5.out _ _ _ _ _ HS.out HT.out).mono ?_
    rintro e6 w6 ⟨v6, rfl, q6, hb1⟩
    obtain ⟨b6, k6, rfl, s6, _⟩ := set_of_own q6 (by omega) FL.out
    have HF := Lib.hid (below_then HF.out hb1)
    have S6 := Lib.hid s6
    (have S4 := Lib.hid (S4.out.keep hb1)); (have S5 := Lib.hid (S5.out.keep hb1))
    clear hb1 q6 s6
    go_wp2_with fail
    refine (H6.out _ _ _ S4.out).mono ?_
    rintro e7 w7 ⟨rfl, hb1⟩
    have HF := Lib.hid (below_then HF.out hb1)
    (have S5 := Lib.hid (S5.out.keep hb1)); (have S6 := Lib.hid (S6.out.keep hb1))
    clear hb1
    go_wp2_with fail
    refine (H7.out _ _ _ S5.out).mono ?_
    rintro e8 w8 ⟨rfl, hb1⟩
    have HF := Lib.hid (below_then HF.out hb1)
    (have S6 := Lib.hid (S6.out.keep hb1))
    clear hb1
    go_wp2_with fail
    refine (H8.out _ _ _ S6.out).mono ?_
    rintro e9 w9 ⟨rfl, hb1⟩
    have HF := Lib.hid (below_then HF.out hb1)
    clear hb1
    go_wp2_with fail
    go_returns
    exact ⟨by first | rfl | simp, HF.out⟩

set_option maxRecDepth 100000 in set_option maxHeartbeats 4000000 in
theorem law03_SetHas (n k : Int) (bs bt : Option Addr) (cs ct : Nat) (s t : List Nat) (w : World) (hs : Rd w bs (wcells s) ∧ W64 s) (ht : Rd w bt (wcells t) ∧ W64 t)
    (hT : TabAt 0 Lib.deBruijn64tab w) (hg : 0 < w.heap.size) :
    Calls Tryd.prog 5 #[.int .i64 n, .slice bs s.length cs, .slice bt t.length ct, .int .i64 k] w (RB w (.bool true)) := by
  by_cases l1 : s.length ≤ 300
  · by_cases l2 : t.length ≤ 300
    · have S := SetIn.mk hs.1 (by omega) hs.2
      have T := SetIn.mk ht.1 (by omega) ht.2
      by_cases e1 : sChk n s = 0
      · by_cases e2 : sChk n t = 0
        · have e3 := sChk2_of e1 e2
          obtain ⟨j1, j2, j3⟩ := has_three e3 hs.2 ht.2 k
          obtain ⟨a1, a2, _⟩ := and_may e3 hs.2 ht.2
          obtain ⟨o1, o2, _⟩ := or_may e3 hs.2 ht.2
          obtain ⟨d1, d2, _⟩ := less_may e3 hs.2 ht.2
          have g1 := hasSays n k s
          have g2 := hasSays n k t
          have g3 := hasSays n k (joinIf andW n s t)
          have g4 := hasSays n k (joinIf orW n s t)
          have g5 := hasSays n k (joinIf lessW n s t)
          rw [e1] at g1; rw [e2] at g2; rw [a1, j1] at g3; rw [o1, j2] at g4; rw [d1, j3] at g5
          have f1 : JoinSays 15 n s t (joinIf andW n s t) 0 := fun W ba bb ca cb ha hb => by have := set_And n ba bb ca cb s t W ha hb; rw [e3] at this; unfold joinIf; rw [e3]; exact this
          have f2 : JoinSays 16 n s t (joinIf orW n s t) 0 := fun W ba bb ca cb ha hb => by have := set_Or n ba bb ca cb s t W ha hb; rw [e3] at this; unfold joinIf; rw [e3]; exact this
          have f3 : JoinSays 17 n s t (joinIf lessW n s t) 0 := fun W ba bb ca cb ha hb => by have := set_Less n ba bb ca cb s t W ha hb; rw [e3] at this; unfold joinIf; rw [e3]; exact this
          exact law03_SetHas_ok n k bs bt cs ct s t _ _ _ w _ _ S T l1 l2 g1 g2 (hasV_in hs.2) f1 f2 f3 g3 g4 g5 (by omega) (by omega) (by omega) (joinIf_fit andW_fit hs.2 ht.2) (joinIf_fit orW_fit hs.2 ht.2) (joinIf_fit lessW_fit hs.2 ht.2) hT hg
        · have g1 := hasSays n k s
          rw [e1] at g1
          exact law03_SetHas_err n k bs bt cs ct s t w _ _ _ _ S T l1 l2 g1 (hasSays n k t) (.inr ⟨rfl, if_neg e2, by simpa using e2⟩) hT hg
      · exact law03_SetHas_err n k bs bt cs ct s t w _ _ _ _ S T l1 l2 (hasSays n k s) (hasSays n k t) (.inl ⟨if_neg e1, by simpa using e1⟩) hT hg
    · have HB := Lib.hid hT
      have l2' : 300 < t.length := by omega
      clear hs ht hT
      go_enter Tryd.func5, Tryd.ntmps5
      go_wp2_with fail
      refine (law03_alive _ HB.out hg).mono ?_
      rintro e1 w1 ⟨rfl, hb1⟩
      go_wp2_with (refine wp_region_quiet_lit (by kernel_rfl) (by kernel_rfl) ?_; (repeat (any_goals (first | go_big_quiet_step (fail) | quiet_step (fail) | (refine wpQuiet_step (fun K hK => ?_); go_simp; split <;> (refine hK _ ?_; clear hK K))))); all_goals (refine wpQuiet_nil ?_; intro _ hw'; obtain ⟨nq, hw''⟩ := hw'; subst hw''))
      all_goals
        go_returns
        exact ⟨rfl, by (repeat (first | (with_reducible exact Below.refl _ _) | (with_reducible assumption) | (with_reducible refine below_alloc ?_ _) | (with_reducible refine below_drewN ?_ _) | (with_reducible refine Below.drew ?_) | (with_reducible refine below_then ?_ (by with_reducible assumption)) | (with_reducible refine Below.setCell ?_ (by go_size) _)))⟩
  · have HB := Lib.hid hT
    have l1' : 300 < s.length := by omega
    clear hs ht hT
    go_enter Tryd.func5, Tryd.ntmps5
    go_wp2_with fail
    refine (law03_alive _ HB.out hg).mono ?_
    rintro e1 w1 ⟨rfl, hb1⟩
    go_wp2_with (refine wp_region_quiet_lit (by kernel_rfl) (by kernel_rfl) ?_; (repeat (any_goals (first | go_big_quiet_step (fail) | quiet_step (fail) | (refine wpQuiet_step (fun K hK => ?_); go_simp; split <;> (refine hK _ ?_; clear hK K))))); all_goals (refine wpQuiet_nil ?_; intro _ hw'; obtain ⟨nq, hw''⟩ := hw'; subst hw''))
    all_goals
      go_returns
      exact ⟨rfl, by (repeat (first | (with_reducible exact Below.refl _ _) | (with_reducible assumption) | (with_reducible refine below_alloc ?_ _) | (with_reducible refine below_drewN ?_ _) | (with_reducible refine Below.drew ?_) | (with_reducible refine below_then ?_ (by with_reducible assumption)) | (with_reducible refine Below.setCell ?_ (by go_size) _)))⟩

set_option maxRecDepth 100000 in set_option maxHeartbeats 4000000 in
theorem lift_setHas (os : Os) (started : os.Started) (H : Type) (enc : TypeId × Value → H) (F : Stop.Interp) :
    ReturnsInHanded {} Tryd.checked os 5 .any ((OpenSpec.ofChange Rows.setHasSpec).preRow enc Tryd.prog Tryd.f5 Rows.setHasRow.domain false Rows.setHasRow.laid) (((OpenSpec.ofChange Rows.setHasSpec).at F).post enc Tryd.prog Tryd.f5 false true false false) := by
  obtain ⟨places, hx⟩ : ∃ places, DataW.whole enc Tryd.prog ((laidWorld os).forCall (fun _ _ => 0) ⟨#[], #[.int .i64 0, .slice none 0 0, .slice none 0 0, .int .i64 0], []⟩).memory Tryd.f5.params.toList Rows.setHasSpec.vars false #[.int .i64 0, .slice none 0 0, .slice none 0 0, .int .i64 0].toList 8 = some ([.lit (.int .i64 0), .nil, .nil, .lit (.int .i64 0)], [], places) := ⟨[], by kernel_rfl⟩
  refine returnsInHanded_of_row (C := Tryd.checked) (s := OpenSpec.ofChange Rows.setHasSpec) ownKnob0 started (by kernel_rfl) Tryd.func5
    (witness_row_at (enc := enc) (C := Tryd.checked) false (laidWorld os) #[.int .i64 0, .slice none 0 0, .slice none 0 0, .int .i64 0] rfl (by kernel_rfl) (by kernel_rfl) (by kernel_rfl)
      (OpenSpec.preRow_of_cond 8 hx (by kernel_rfl) (fun k hk => by cases hk) (by kernel_rfl) (laidMet_of_run' 8 (by kernel_rfl) (by kernel_rfl)))) ?_
  intro W base args ds gs before hval0 hW _ _ _ hL0 _ _
  have hval : ∀ (j : Nat) t v, Tryd.f5.params[j]? = some t → args[j]? = some v → Value.okWide Tryd.prog W .any base t v := hval0
  have hT := tab_of_laid (W := W) hL0
  have hg := tab_lt hT
  have hW' := hW
  obtain ⟨p, q, hA0, hV, rfl, hfz, hnd⟩ := hW
  have hA : DataW.TrodAll enc Tryd.prog W 0 (fun _ => true) true Tryd.f5.params.toList args.toList ds p := hA0
  rw [Tryd.params5] at hA hval
  have hK := hA
  obtain ⟨v0, vs0, d0, ds0, p0, q0, hargs, rfl, rfl, h0, r0⟩ := trodAll_cons hA
  obtain ⟨v1, vs1, d1, ds1, p1, q1, rfl, rfl, rfl, h1, r1⟩ := trodAll_cons r0
  obtain ⟨v2, vs2, d2, ds2, p2, q2, rfl, rfl, rfl, h2, r2⟩ := trodAll_cons r1
  obtain ⟨v3, vs3, d3, ds3, p3, q3, rfl, rfl, rfl, h3, r3⟩ := trodAll_cons r2
  obtain ⟨rfl, rfl, rfl⟩ := trodAll_nil r3
  obtain rfl : args = #[v0, v1, v2, v3] := by cases args; simp_all
  obtain ⟨n, rfl⟩ := okWide_int Tryd.underlying3 (hval 0 _ v0 rfl rfl)
  obtain ⟨bs, s, cs, rfl, hs, _⟩ := open_set (hval 1 _ v1 rfl rfl) h1
  obtain ⟨bt, t, ct, rfl, ht, _⟩ := open_set (hval 2 _ v2 rfl rfl) h2
  obtain ⟨k, rfl⟩ := okWide_int Tryd.underlying3 (hval 3 _ v3 rfl rfl)
  obtain ⟨rfl, rfl⟩ := trodVars_none hV
  clear hA0 hval0
  simp only [List.append_nil] at hW'
  refine (law03_SetHas n k bs bt cs ct s t W hs ht hT hg).mono fun e W' ⟨he, bel⟩ => ?_
  subst he
  refine ⟨_, rfl, _, _, _, [], _, [], hW', trodAll_mk1 (shut_bool Tryd.underlying4 _), trodAll_below bel _ _ _ _ ?_ hK, rfl, bel.frame _, fun h => by cases h⟩
  intro t ht
  simp at ht <;> (rcases ht with rfl | rfl | rfl | rfl <;> exact ⟨by kernel_rfl, of_decide_eq_true (by kernel_rfl)⟩)

theorem said_setHas : Rows.SetHasSaid :=
  OpenClaim.holds_of_cond 5 Tryd.f5 rfl rfl rfl rfl rfl rfl rfl ⟨rfl, rfl, rfl, rfl, rfl⟩ rfl rfl rfl rfl rfl (by kernel_rfl) Tryd.func5 (by kernel_rfl)
    (of_decide_eq_true (by kernel_rfl)) (by unfold Func.isWrapper; first | (rw [if_pos (by decide +kernel)]; kernel_rfl) | (rw [if_neg (by decide +kernel)]; exact ⟨rfl, rfl⟩))
    (fun os started H enc _ F => by rw [OpenClaim.pre_eq_preRow]; exact lift_setHas os started H enc F)

theorem plain_setHas (f : FuncId) (fn : Func) (hf : Tryd.pinned.checked.prog.funcNamed "tidehall/tidehalllaw03.SetHas" = some f) (hfn : Tryd.pinned.checked.prog.funcs[f]? = some fn) :
    false = Tryd.pinned.checked.prog.looks [] ∧ ∀ (j : Nat) t, fn.params[j]? = some t → Tryd.pinned.checked.prog.wantsStandIn t = false := by
  obtain rfl : f = 5 := Option.some.inj ((show Tryd.prog.funcNamed "tidehall/tidehalllaw03.SetHas" = some 5 by kernel_rfl).symm.trans hf) |>.symm
  obtain rfl : fn = Tryd.f5 := (Option.some.inj (Tryd.func5.symm.trans hfn)).symm
  refine ⟨by kernel_rfl, fun j t ht => ?_⟩
  rw [Tryd.params5] at ht
  have hm := Array.mem_of_getElem? ht
  simp at hm <;> (rcases hm with rfl | rfl | rfl | rfl <;> exact (show Tryd.prog.wantsStandIn _ = false by kernel_rfl))

theorem SetHas_holds : Rows.SetHasCardSaid :=
  Claim7.holds_tied_plain_at .later [] _ _ _ _ said_setHas (fun _ h => by cases h) (by kernel_rfl) (fun _ h => by cases h) setHas_row_tie rfl ⟨rfl, rfl⟩ (by kernel_rfl) rfl plain_setHas (by kernel_rfl)
end Go.Proofs.YtilibdhcahdndaaDoor
