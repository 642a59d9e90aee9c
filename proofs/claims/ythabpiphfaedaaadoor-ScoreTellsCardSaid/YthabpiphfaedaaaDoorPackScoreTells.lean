/- ScoreTells: how many open sides a set has toward another one, the score of a place, and how scattered what is free is, or the errors, are the document's: the call returns true. -/
import Derived.Test.YthabpiphfaedaaaDoorQ0RefScD
import Derived.Test.YthabpiphfaedaaaDoorQ11ScoreTells
namespace Go.Proofs.YthabpiphfaedaaaDoor

section
open Go.ChangeShapes Go.WideShapes Go.ChangeAt Go.RowKit Go.Shelf

set_option maxRecDepth 100000 in set_option maxHeartbeats 4000000 in
theorem core_ScoreTells (d : V3) (ba bb : Option Addr) (ca cb : Nat) (a b : List Nat) (p : Pl) (w : World) (SA : SetIn w ba a) (SB : SetIn w bb b) (l1 : a.length ≤ 100) (l2 : b.length ≤ 100)
    (hT : TabAt 0 Lib.deBruijn64tab w) (hg : 0 < w.heap.size) :
    Calls Tryd.prog 9 #[.agg #[.int .i64 d.x, .int .i64 d.y, .int .i64 d.z], .slice ba a.length ca, .slice bb b.length cb, .agg #[.int .i64 p.b.b.x, .int .i64 p.b.b.y, .int .i64 p.b.b.z, .int .i64 p.b.s.x, .int .i64 p.b.s.y, .int .i64 p.b.s.z, .bool p.t0, .bool p.t1, .bool p.t2]] w (RB w (.bool true)) := by
  have A1 := Lib.hid (fun W (hw : Below w.heap.size w W) => score_Open d ba bb ca cb a b W (SA.keep hw) (SB.keep hw) (tab_keep' hT hg hw).1 (tab_keep' hT hg hw).2)
  have A2 := Lib.hid (fun W (hw : Below w.heap.size w W) => ref14_Open d ba bb ca cb a b W (SA.keep hw) (SB.keep hw))
  have B1 := Lib.hid (fun W (hw : Below w.heap.size w W) => score_Of d p ba ca a W (SA.keep hw) (tab_keep' hT hg hw).1 (tab_keep' hT hg hw).2)
  have B2 := Lib.hid (fun W (hw : Below w.heap.size w W) => ref14_Of d p ba ca a W (SA.keep hw))
  have C1 := Lib.hid (fun W (hw : Below w.heap.size w W) => score_Spread d ba ca a W (SA.keep hw) (tab_keep' hT hg hw).1 (tab_keep' hT hg hw).2)
  have C2 := Lib.hid (fun W (hw : Below w.heap.size w W) => ref14_Spread d ba ca a W (SA.keep hw))
  have g1 : decide (100 < a.length) = false := decide_eq_false (by omega)
  have g2 : decide (100 < b.length) = false := decide_eq_false (by omega)
  generalize openV d a b = x1 at *
  generalize openE d a b = x2 at *
  generalize scoreV d p a = x3 at *
  generalize scoreE d p a = x4 at *
  generalize spreadV d a = x5 at *
  generalize oneE d a = x6 at *
  have HB := Lib.hid (show Below w.heap.size w ((w.alloc (.cells #[.int .i64 d.x, .int .i64 d.y, .int .i64 d.z] 23)).alloc (.cells #[.int .i64 p.b.b.x, .int .i64 p.b.b.y, .int .i64 p.b.b.z, .int .i64 p.b.s.x, .int .i64 p.b.s.y, .int .i64 p.b.s.z, .bool p.t0, .bool p.t1, .bool p.t2] 28)) by (repeat (first | (with_reducible exact Below.refl _ _) | (with_reducible assumption) | (with_reducible refine below_alloc ?_ _) | (with_reducible refine below_drewN ?_ _) | (with_reducible refine Below.drew ?_) | (with_reducible refine below_then ?_ (by with_reducible assumption)) | (with_reducible refine Below.setCell ?_ (by go_size) _))))
  have BD := Lib.hid ((Blk.new w 23 #[.int .i64 d.x, .int .i64 d.y, .int .i64 d.z]).alloc (.cells #[.int .i64 p.b.b.x, .int .i64 p.b.b.y, .int .i64 p.b.b.z, .int .i64 p.b.s.x, .int .i64 p.b.s.y, .int .i64 p.b.s.z, .bool p.t0, .bool p.t1, .bool p.t2] 28))
  have BP := Lib.hid ((by have := Blk.new (w.alloc (.cells #[.int .i64 d.x, .int .i64 d.y, .int .i64 d.z] 23)) 28 #[.int .i64 p.b.b.x, .int .i64 p.b.b.y, .int .i64 p.b.b.z, .int .i64 p.b.s.x, .int .i64 p.b.s.y, .int .i64 p.b.s.z, .bool p.t0, .bool p.t1, .bool p.t2]; rwa [World.size_alloc] at this : Blk ((w.alloc (.cells #[.int .i64 d.x, .int .i64 d.y, .int .i64 d.z] 23)).alloc (.cells #[.int .i64 p.b.b.x, .int .i64 p.b.b.y, .int .i64 p.b.b.z, .int .i64 p.b.s.x, .int .i64 p.b.s.y, .int .i64 p.b.s.z, .bool p.t0, .bool p.t1, .bool p.t2] 28)) (w.heap.size + 1) 28 #[.int .i64 p.b.b.x, .int .i64 p.b.b.y, .int .i64 p.b.b.z, .int .i64 p.b.s.x, .int .i64 p.b.s.y, .int .i64 p.b.s.z, .bool p.t0, .bool p.t1, .bool p.t2]))
  clear SA SB hT hg
  go_enter Tryd.func9, Tryd.ntmps9
  go_wp2_with fail
  refine (A1.out _ HB.out).mono ?_
  rintro e w1 ⟨rfl, hb⟩
  (have BD := Lib.hid (BD.out.below hb); have BP := Lib.hid (BP.out.below hb); have HB := Lib.hid (below_then HB.out hb); clear hb)
  (have d0 := (BD.out).cell 0 _ rfl; have d1 := (BD.out).cell 1 _ rfl; have d2 := (BD.out).cell 2 _ rfl)
  go_wp2_with fail
  refine (A2.out _ HB.out).mono ?_
  rintro e w2 ⟨rfl, hb⟩
  (have BD := Lib.hid (BD.out.below hb); have BP := Lib.hid (BP.out.below hb); have HB := Lib.hid (below_then HB.out hb); clear hb)
  (clear d0 d1 d2)
  (have d0 := (BD.out).cell 0 _ rfl; have d1 := (BD.out).cell 1 _ rfl; have d2 := (BD.out).cell 2 _ rfl)
  (have p0 := (BP.out).cell 0 _ rfl; have p1 := (BP.out).cell 1 _ rfl; have p2 := (BP.out).cell 2 _ rfl; have p3 := (BP.out).cell 3 _ rfl; have p4 := (BP.out).cell 4 _ rfl; have p5 := (BP.out).cell 5 _ rfl; have p6 := (BP.out).cell 6 _ rfl; have p7 := (BP.out).cell 7 _ rfl; have p8 := (BP.out).cell 8 _ rfl)
  go_wp2_with fail
  refine (B1.out _ HB.out).mono ?_
  rintro e w3 ⟨rfl, hb⟩
  (have BD := Lib.hid (BD.out.below hb); have BP := Lib.hid (BP.out.below hb); have HB := Lib.hid (below_then HB.out hb); clear hb)
  (clear d0 d1 d2)
  (clear p0 p1 p2 p3 p4 p5 p6 p7 p8)
  (have d0 := (BD.out).cell 0 _ rfl; have d1 := (BD.out).cell 1 _ rfl; have d2 := (BD.out).cell 2 _ rfl)
  (have p0 := (BP.out).cell 0 _ rfl; have p1 := (BP.out).cell 1 _ rfl; have p2 := (BP.out).cell 2 _ rfl; have p3 := (BP.out).cell 3 _ rfl; have p4 := (BP.out).cell 4 _ rfl; have p5 := (BP.out).cell 5 _ rfl; have p6 := (BP.out).cell 6 _ rfl; have p7 := (BP.out).cell 7 _ rfl; have p8 := (BP.out).cell 8 _ rfl)
  go_wp2_with fail
  refine (B2.out _ HB.out).mono ?_
  rintro e w4 ⟨rfl, hb⟩
  (have BD := Lib.hid (BD.out.below hb); have BP := Lib.hid (BP.out.below hb); have HB := Lib.hid (below_then HB.out hb); clear hb)
  (clear d0 d1 d2)
  (clear p0 p1 p2 p3 p4 p5 p6 p7 p8)
  (have d0 := (BD.out).cell 0 _ rfl; have d1 := (BD.out).cell 1 _ rfl; have d2 := (BD.out).cell 2 _ rfl)
  go_wp2_with fail
  refine (C1.out _ HB.out).mono ?_
  rintro e w5 ⟨rfl, hb⟩
  (have BD := Lib.hid (BD.out.below hb); have BP := Lib.hid (BP.out.below hb); have HB := Lib.hid (below_then HB.out hb); clear hb)
  (clear d0 d1 d2)
  (have d0 := (BD.out).cell 0 _ rfl; have d1 := (BD.out).cell 1 _ rfl; have d2 := (BD.out).cell 2 _ rfl)
  go_wp2_with fail
  refine (C2.out _ HB.out).mono ?_
  rintro e w6 ⟨rfl, hb⟩
  (have BD := Lib.hid (BD.out.below hb); have BP := Lib.hid (BP.out.below hb); have HB := Lib.hid (below_then HB.out hb); clear hb)
  (clear d0 d1 d2)
  go_wp2_with fail
  go_returns
  exact ⟨rfl, HB.out⟩
set_option maxRecDepth 100000 in set_option maxHeartbeats 4000000 in
theorem law14_ScoreTells (d : V3) (ba bb : Option Addr) (ca cb : Nat) (a b : List Nat) (p : Pl) (w : World) (ha : Rd w ba (wcells a) ∧ W64 a) (hb : Rd w bb (wcells b) ∧ W64 b)
    (hT : TabAt 0 Lib.deBruijn64tab w) (hg : 0 < w.heap.size) :
    Calls Tryd.prog 9 #[.agg #[.int .i64 d.x, .int .i64 d.y, .int .i64 d.z], .slice ba a.length ca, .slice bb b.length cb, .agg #[.int .i64 p.b.b.x, .int .i64 p.b.b.y, .int .i64 p.b.b.z, .int .i64 p.b.s.x, .int .i64 p.b.s.y, .int .i64 p.b.s.z, .bool p.t0, .bool p.t1, .bool p.t2]] w (RB w (.bool true)) := by
  by_cases h1 : 100 < a.length
  · have g1 : decide (100 < a.length) = true := decide_eq_true h1
    clear ha hb hT hg
    go_enter Tryd.func9, Tryd.ntmps9
    go_wp2_with fail
    go_returns
    exact ⟨rfl, by (repeat (first | (with_reducible exact Below.refl _ _) | (with_reducible assumption) | (with_reducible refine below_alloc ?_ _) | (with_reducible refine below_drewN ?_ _) | (with_reducible refine Below.drew ?_) | (with_reducible refine below_then ?_ (by with_reducible assumption)) | (with_reducible refine Below.setCell ?_ (by go_size) _)))⟩
  by_cases h2 : 100 < b.length
  · have g1 : decide (100 < a.length) = false := decide_eq_false h1
    have g2 : decide (100 < b.length) = true := decide_eq_true h2
    clear ha hb hT hg
    go_enter Tryd.func9, Tryd.ntmps9
    go_wp2_with fail
    go_returns
    exact ⟨rfl, by (repeat (first | (with_reducible exact Below.refl _ _) | (with_reducible assumption) | (with_reducible refine below_alloc ?_ _) | (with_reducible refine below_drewN ?_ _) | (with_reducible refine Below.drew ?_) | (with_reducible refine below_then ?_ (by with_reducible assumption)) | (with_reducible refine Below.setCell ?_ (by go_size) _)))⟩
  exact core_ScoreTells d ba bb ca cb a b p w (SetIn.mk ha.1 (by omega) ha.2) (SetIn.mk hb.1 (by omega) hb.2) (by omega) (by omega) hT hg
set_option maxRecDepth 100000 in set_option maxHeartbeats 4000000 in
theorem lift_scoreTells (os : Os) (started : os.Started) (H : Type) (enc : TypeId × Value → H) (F : Stop.Interp) :
    ReturnsInHanded {} Tryd.checked os 9 .any ((OpenSpec.ofChange Rows.scoreTellsSpec).preRow enc Tryd.prog Tryd.f9 Rows.scoreTellsRow.domain false Rows.scoreTellsRow.laid) (((OpenSpec.ofChange Rows.scoreTellsSpec).at F).post enc Tryd.prog Tryd.f9 false true false false) := by
  obtain ⟨places, hx⟩ : ∃ places, DataW.whole enc Tryd.prog ((laidWorld os).forCall (fun _ _ => 0) ⟨#[], #[.agg #[.int .i64 0, .int .i64 0, .int .i64 0], .slice none 0 0, .slice none 0 0, .agg #[.int .i64 0, .int .i64 0, .int .i64 0, .int .i64 0, .int .i64 0, .int .i64 0, .bool false, .bool false, .bool false]], []⟩).memory Tryd.f9.params.toList Rows.scoreTellsSpec.vars false #[.agg #[.int .i64 0, .int .i64 0, .int .i64 0], .slice none 0 0, .slice none 0 0, .agg #[.int .i64 0, .int .i64 0, .int .i64 0, .int .i64 0, .int .i64 0, .int .i64 0, .bool false, .bool false, .bool false]].toList 8 = some ([.agg [.lit (.int .i64 0), .lit (.int .i64 0), .lit (.int .i64 0)], .nil, .nil, .agg [.agg [.agg [.lit (.int .i64 0), .lit (.int .i64 0), .lit (.int .i64 0)], .agg [.lit (.int .i64 0), .lit (.int .i64 0), .lit (.int .i64 0)]], .agg [.lit (.bool false), .lit (.bool false), .lit (.bool false)]]], [], places) := ⟨[], by kernel_rfl⟩
  refine returnsInHanded_of_row (C := Tryd.checked) (s := OpenSpec.ofChange Rows.scoreTellsSpec) ownKnob0 started (by kernel_rfl) Tryd.func9
    (witness_row_at (enc := enc) (C := Tryd.checked) false (laidWorld os) #[.agg #[.int .i64 0, .int .i64 0, .int .i64 0], .slice none 0 0, .slice none 0 0, .agg #[.int .i64 0, .int .i64 0, .int .i64 0, .int .i64 0, .int .i64 0, .int .i64 0, .bool false, .bool false, .bool false]] rfl (by kernel_rfl) (by kernel_rfl) (by kernel_rfl)
      (OpenSpec.preRow_of_cond 8 hx (by kernel_rfl) (fun k hk => by cases hk) (by kernel_rfl) (laidMet_of_run' 8 (by kernel_rfl) (by kernel_rfl)))) ?_
  intro W base args ds gs before hval0 hW _ _ _ hL0 _ _
  have hval : ∀ (j : Nat) t v, Tryd.f9.params[j]? = some t → args[j]? = some v → Value.okWide Tryd.prog W .any base t v := hval0
  have hT := tab_of_laid (W := W) hL0
  have hg := tab_lt hT
  have hW' := hW
  obtain ⟨p, q, hA0, hV, rfl, hfz, hnd⟩ := hW
  have hA : DataW.TrodAll enc Tryd.prog W 0 (fun _ => true) true Tryd.f9.params.toList args.toList ds p := hA0
  rw [Tryd.params9] at hA hval
  have hK := hA
  obtain ⟨v0, vs0, d0, ds0, p0, q0, hargs, rfl, rfl, h0, r0⟩ := trodAll_cons hA
  obtain ⟨v1, vs1, d1, ds1, p1, q1, rfl, rfl, rfl, h1, r1⟩ := trodAll_cons r0
  obtain ⟨v2, vs2, d2, ds2, p2, q2, rfl, rfl, rfl, h2, r2⟩ := trodAll_cons r1
  obtain ⟨v3, vs3, d3, ds3, p3, q3, rfl, rfl, rfl, h3, r3⟩ := trodAll_cons r2
  obtain ⟨rfl, rfl, rfl⟩ := trodAll_nil r3
  obtain rfl : args = #[v0, v1, v2, v3] := by cases args; simp_all
  obtain ⟨d, rfl⟩ := open_dims (hval 0 _ v0 rfl rfl)
  obtain ⟨ba, a, ca, rfl, ha, _⟩ := open_set (hval 1 _ v1 rfl rfl) h1
  obtain ⟨bb, b, cb, rfl, hb, _⟩ := open_set (hval 2 _ v2 rfl rfl) h2
  obtain ⟨p', rfl⟩ := open_place (hval 3 _ v3 rfl rfl)
  obtain ⟨rfl, rfl⟩ := trodVars_none hV
  clear hA0 hval0
  simp only [List.append_nil] at hW'
  refine (law14_ScoreTells d ba bb ca cb a b p' W ha hb hT hg).mono fun e W' ⟨he, bel⟩ => ?_
  subst he
  refine ⟨_, rfl, _, _, _, [], _, [], hW', trodAll_mk1 (shut_bool Tryd.underlying4 _), trodAll_below bel _ _ _ _ ?_ hK, rfl, bel.frame _, fun h => by cases h⟩
  intro t ht
  simp at ht <;> (rcases ht with rfl | rfl | rfl | rfl <;> exact ⟨by kernel_rfl, of_decide_eq_true (by kernel_rfl)⟩)

theorem said_scoreTells : Rows.ScoreTellsSaid :=
  OpenClaim.holds_of_cond 9 Tryd.f9 rfl rfl rfl rfl rfl rfl rfl ⟨rfl, rfl, rfl, rfl, rfl⟩ rfl rfl rfl rfl rfl (by kernel_rfl) Tryd.func9 (by kernel_rfl)
    (of_decide_eq_true (by kernel_rfl)) (by unfold Func.isWrapper; first | (rw [if_pos (by decide +kernel)]; kernel_rfl) | (rw [if_neg (by decide +kernel)]; exact ⟨rfl, rfl⟩))
    (fun os started H enc _ F => by rw [OpenClaim.pre_eq_preRow]; exact lift_scoreTells os started H enc F)

theorem plain_scoreTells (f : FuncId) (fn : Func) (hf : Tryd.pinned.checked.prog.funcNamed "tidehall/tidehalllaw14.ScoreTells" = some f) (hfn : Tryd.pinned.checked.prog.funcs[f]? = some fn) :
    false = Tryd.pinned.checked.prog.looks [] ∧ ∀ (j : Nat) t, fn.params[j]? = some t → Tryd.pinned.checked.prog.wantsStandIn t = false := by
  obtain rfl : f = 9 := Option.some.inj ((show Tryd.prog.funcNamed "tidehall/tidehalllaw14.ScoreTells" = some 9 by kernel_rfl).symm.trans hf) |>.symm
  obtain rfl : fn = Tryd.f9 := (Option.some.inj (Tryd.func9.symm.trans hfn)).symm
  refine ⟨by kernel_rfl, fun j t ht => ?_⟩
  rw [Tryd.params9] at ht
  have hm := Array.mem_of_getElem? ht
  simp at hm <;> (rcases hm with rfl | rfl | rfl | rfl <;> exact (show Tryd.prog.wantsStandIn _ = false by kernel_rfl))

theorem ScoreTells_holds : Rows.ScoreTellsCardSaid :=
  Claim7.holds_tied_plain_at .later [] _ _ _ _ said_scoreTells (fun _ h => by cases h) (by kernel_rfl) (fun _ h => by cases h) scoreTells_row_tie rfl ⟨rfl, rfl⟩ (by kernel_rfl) rfl plain_scoreTells (by kernel_rfl)
end
end Go.Proofs.YthabpiphfaedaaaDoor
