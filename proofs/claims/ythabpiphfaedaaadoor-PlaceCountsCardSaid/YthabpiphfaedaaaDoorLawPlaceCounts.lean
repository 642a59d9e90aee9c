/- PlaceCounts: a place takes its box's midplanes, and along each axis as many cables as its lines tell: the call returns true. -/
import Derived.Test.YthabpiphfaedaaaDoorPlApart
import Derived.Test.YthabpiphfaedaaaDoorPlCount
import Derived.Test.YthabpiphfaedaaaDoorRowPlace
import Derived.Test.YthabpiphfaedaaaDoorRowTab
import Derived.Test.YthabpiphfaedaaaDoorInts
namespace Go.Proofs.YthabpiphfaedaaaDoor
open Go.ChangeShapes Go.WideShapes Go.ChangeAt Go.RowKit Go.Shelf

theorem tab_keep6 {w W : World} (hT : TabAt 0 Lib.deBruijn64tab w) (hg : 0 < w.heap.size) (hb : Below w.heap.size w W) : TabAt 0 Lib.deBruijn64tab W ∧ 0 < W.heap.size :=
  ⟨fun j hj => (hb.cell (p := ⟨0, j, none⟩) hg).trans (hT j hj), Nat.lt_of_lt_of_le hg hb.size⟩
set_option maxRecDepth 100000 in set_option maxHeartbeats 4000000 in
theorem law06_PlaceCounts (d : V3) (p : Pl) (w : World) (hT : TabAt 0 Lib.deBruijn64tab w) (hg : 0 < w.heap.size) :
    Calls Tryd.prog 3 #[.agg #[.int .i64 d.x, .int .i64 d.y, .int .i64 d.z], .agg #[.int .i64 p.b.b.x, .int .i64 p.b.b.y, .int .i64 p.b.b.z, .int .i64 p.b.s.x, .int .i64 p.b.s.y, .int .i64 p.b.s.z, .bool p.t0, .bool p.t1, .bool p.t2]] w (RB w (.bool true)) := by
  have H1 := Lib.hid (fun W => place_Sets d p W)
  have FP := Lib.hid (And.intro (midsV_fit d p) (linksV_fit d p))
  have l1 := midsV_len d p
  have l2 := linksV_len d p
  by_cases hz : plChk d p = 0
  · have hf := pl_facts hz
    have hd := hf.may
    have HN := Lib.hid (fun W => by have := pos_Many d W; rw [V3.many_ok hd, V3.err_ok hd] at this; exact this)
    have HO := Lib.hid (fun W => box_Nodes_ok d p.b W hd hf.box)
    have HL1 := Lib.hid (fun ba ca W (hw : Below w.heap.size w W) (h : SetIn W ba (midsV d p)) => by have := set_List d.n ba ca (midsV d p) W h (tab_keep6 hT hg hw).1 (tab_keep6 hT hg hw).2; rw [mids_list hf, hf.mChk] at this; exact this)
    have HL2 := Lib.hid (fun ba ca W (hw : Below w.heap.size w W) (h : SetIn W ba (linksV d p)) => by have := set_List (3 * d.n) ba ca (linksV d p) W h (tab_keep6 hT hg hw).1 (tab_keep6 hT hg hw).2; rw [hf.lChk] at this; exact this)
    have hnn := V3.n_le hd
    have hal := Bx.all_len' d p.b hd
    have hll : ((listV (3 * d.n) (linksV d p)).length : Int) = p.parts d 3 := by rw [links_many hf, cabs_parts hz]
    have HP := Lib.hid (fun k (hk : k < 3) => part_facts hz hk)
    generalize listV (3 * d.n) (linksV d p) = K at *
    generalize d.n = n at *
    have hq : ∀ k, p.part d k = (((p.b.all d).length : Int) / p.b.s.at k) * (if p.tor k then d.at k else p.b.s.at k - 1) := fun k => rfl
    generalize p.b.all d = M at *
    generalize midsV d p = A at *
    generalize linksV d p = B at *
    rw [hz] at H1
    have HLL := Lib.hid hll
    clear hz hf hd hT hg hll hq
    go_enter Tryd.func3, Tryd.ntmps3
    go_wp2_with fail
    refine (law06_alive _).mono ?_
    rintro e w1 ⟨rfl, hb⟩
    have BD := Lib.hid (((Blk.new w 23 #[.int .i64 d.x, .int .i64 d.y, .int .i64 d.z]).alloc (.cells #[.int .i64 p.b.b.x, .int .i64 p.b.b.y, .int .i64 p.b.b.z, .int .i64 p.b.s.x, .int .i64 p.b.s.y, .int .i64 p.b.s.z, .bool p.t0, .bool p.t1, .bool p.t2] 28)).below hb)
    have bp := (Blk.new (w.alloc (.cells #[.int .i64 d.x, .int .i64 d.y, .int .i64 d.z] 23)) 28 #[.int .i64 p.b.b.x, .int .i64 p.b.b.y, .int .i64 p.b.b.z, .int .i64 p.b.s.x, .int .i64 p.b.s.y, .int .i64 p.b.s.z, .bool p.t0, .bool p.t1, .bool p.t2]).below hb
    simp only [World.size_alloc] at bp
    have BP := Lib.hid bp
    have HB := Lib.hid (below_then (show Below w.heap.size w ((w.alloc (.cells #[.int .i64 d.x, .int .i64 d.y, .int .i64 d.z] 23)).alloc (.cells #[.int .i64 p.b.b.x, .int .i64 p.b.b.y, .int .i64 p.b.b.z, .int .i64 p.b.s.x, .int .i64 p.b.s.y, .int .i64 p.b.s.z, .bool p.t0, .bool p.t1, .bool p.t2] 28)) by (repeat (first | (with_reducible exact Below.refl _ _) | (with_reducible assumption) | (with_reducible refine below_alloc ?_ _) | (with_reducible refine below_drewN ?_ _) | (with_reducible refine Below.drew ?_) | (with_reducible refine below_then ?_ (by with_reducible assumption)) | (with_reducible refine Below.setCell ?_ (by go_size) _)))) hb)
    clear hb bp
    ((have d0 := (BD.out).cell 0 _ rfl; have d1 := (BD.out).cell 1 _ rfl; have d2 := (BD.out).cell 2 _ rfl); (have p0 := (BP.out).cell 0 _ rfl; have p1 := (BP.out).cell 1 _ rfl; have p2 := (BP.out).cell 2 _ rfl; have p3 := (BP.out).cell 3 _ rfl; have p4 := (BP.out).cell 4 _ rfl; have p5 := (BP.out).cell 5 _ rfl; have p6 := (BP.out).cell 6 _ rfl; have p7 := (BP.out).cell 7 _ rfl; have p8 := (BP.out).cell 8 _ rfl); go_wp2_with fail)
    refine (H1.out _).mono ?_
    rintro e w2 ⟨v1, u1, rfl, o1, r1, hb⟩
    obtain ⟨ba, ca, rfl, sa, _⟩ := set_of_own o1 (by omega) FP.out.1
    obtain ⟨bb, cb, rfl, sb, _⟩ := set_of_own r1 (by omega) FP.out.2
    have SA := Lib.hid sa
    have SB := Lib.hid sb
    (have BD := Lib.hid (BD.out.below hb); have BP := Lib.hid (BP.out.below hb); have HB := Lib.hid (below_then HB.out hb))
    clear hb o1 r1 sa sb
    (clear d0 d1 d2 p0 p1 p2 p3 p4 p5 p6 p7 p8)
    ((have d0 := (BD.out).cell 0 _ rfl; have d1 := (BD.out).cell 1 _ rfl; have d2 := (BD.out).cell 2 _ rfl); (have p0 := (BP.out).cell 0 _ rfl; have p1 := (BP.out).cell 1 _ rfl; have p2 := (BP.out).cell 2 _ rfl; have p3 := (BP.out).cell 3 _ rfl; have p4 := (BP.out).cell 4 _ rfl; have p5 := (BP.out).cell 5 _ rfl; have p6 := (BP.out).cell 6 _ rfl; have p7 := (BP.out).cell 7 _ rfl; have p8 := (BP.out).cell 8 _ rfl); go_wp2_with fail)
    refine (HN.out _).mono ?_
    rintro e w3 ⟨rfl, hb⟩
    have SA := Lib.hid (SA.out.keep hb)
    have SB := Lib.hid (SB.out.keep hb)
    (have BD := Lib.hid (BD.out.below hb); have BP := Lib.hid (BP.out.below hb); have HB := Lib.hid (below_then HB.out hb))
    clear hb
    (clear d0 d1 d2 p0 p1 p2 p3 p4 p5 p6 p7 p8)
    ((have d0 := (BD.out).cell 0 _ rfl; have d1 := (BD.out).cell 1 _ rfl; have d2 := (BD.out).cell 2 _ rfl); (have p0 := (BP.out).cell 0 _ rfl; have p1 := (BP.out).cell 1 _ rfl; have p2 := (BP.out).cell 2 _ rfl; have p3 := (BP.out).cell 3 _ rfl; have p4 := (BP.out).cell 4 _ rfl; have p5 := (BP.out).cell 5 _ rfl; have p6 := (BP.out).cell 6 _ rfl; have p7 := (BP.out).cell 7 _ rfl; have p8 := (BP.out).cell 8 _ rfl); go_wp2_with fail)
    refine (HO.out _).mono ?_
    rintro e w4 ⟨v4, rfl, o4, hb⟩
    obtain ⟨bm, cm, rfl, lm, _⟩ := list_of_own o4 (by omega)
    have LM := Lib.hid lm
    have SA := Lib.hid (SA.out.keep hb)
    have SB := Lib.hid (SB.out.keep hb)
    (have BD := Lib.hid (BD.out.below hb); have BP := Lib.hid (BP.out.below hb); have HB := Lib.hid (below_then HB.out hb))
    clear hb o4 lm
    (clear d0 d1 d2 p0 p1 p2 p3 p4 p5 p6 p7 p8)
    go_wp2_with fail
    refine (HL1.out ba ca _ HB.out SA.out).mono ?_
    rintro e w5 ⟨v5, rfl, o5, hb⟩
    obtain ⟨bn, cn, rfl, ln, _⟩ := list_of_own o5 (by omega)
    have LN := Lib.hid ln
    have LM := Lib.hid (LM.out.keep hb)
    have SB := Lib.hid (SB.out.keep hb)
    (have BD := Lib.hid (BD.out.below hb); have BP := Lib.hid (BP.out.below hb); have HB := Lib.hid (below_then HB.out hb))
    clear hb o5 ln
    go_wp2_with fail
    refine (HL2.out bb cb _ HB.out SB.out).mono ?_
    rintro e w6 ⟨v6, rfl, o6, hb⟩
    obtain ⟨bk, ck, rfl, _, _⟩ := own_rd o6
    have LN := Lib.hid (LN.out.keep hb)
    have LM := Lib.hid (LM.out.keep hb)
    (have BD := Lib.hid (BD.out.below hb); have BP := Lib.hid (BP.out.below hb); have HB := Lib.hid (below_then HB.out hb))
    clear hb o6
    go_wp2_with fail
    go_loop [17, 18] (fun v i => ∃ k : Nat, k ≤ 3 ∧ i = .int .i64 k ∧ v = .int .i64 (p.parts d k)) (fun _ i => 3 - (intOf i).toNat)
    case atStart => exact ⟨0, by omega, rfl, rfl⟩
    case round =>
      obtain ⟨k, hk, rfl, rfl⟩ := hrel
      by_cases hlt : k < 3
      · obtain ⟨⟨s0, s1⟩, ⟨r0, r1⟩, ⟨q0, q1⟩, htd, hsum, o0, o1, ht1, hf1⟩ := HP.out k hlt
        have hcs := size_cell BP.out k hlt
        have hct := tor_cell BP.out k hlt
        have hcd := BD.out.dims.at k hlt
        have HS := Lib.hid hsum
        have hsz : p.b.s.at k ≠ 0 := by omega
        generalize p.b.s.at k = S at *
        generalize d.at k = D at *
        obtain ⟨Q, hQ⟩ : ∃ Q, Q = (M.length : Int) / S := ⟨_, rfl⟩
        rw [← hQ] at htd q0 q1 ht1 hf1
        clear hQ hsum
        generalize p.part d k = P at *
        generalize p.parts d k = O at *
        cases ht : p.tor k with
        | true =>
          have hm := ht1 ht
          rw [ht] at hct
          clear ht ht1 hf1
          go_wp2_with fail
          go_round
          case rel => exact ⟨k + 1, by omega, by go_num, by rw [← HS.out]⟩
          case measure => (simp [intOf] <;> omega)
        | false =>
          have hm := hf1 ht
          rw [ht] at hct
          clear ht ht1 hf1
          go_wp2_with fail
          go_round
          case rel => exact ⟨k + 1, by omega, by go_num, by rw [← HS.out]⟩
          case measure => (simp [intOf] <;> omega)
      · obtain rfl : k = 3 := by omega
        have hkl : ((K.length : Nat) : Int) = p.parts d 3 := HLL.out
        generalize p.parts d 3 = O at *
        have hkb : (((K.length : Nat) : Int) == O) = true := by simpa using hkl
        clear hkl
        go_wp2_with fail
        refine (Calls.rb_eq (ref02_Ints bm bn cm cn M M _ LM.out LN.out) (show Value.bool (decide (M = M)) = .bool true by simp)).mono ?_
        rintro e w7 ⟨rfl, hb⟩
        have HB7 := below_then HB.out hb
        clear hb
        go_wp2_with fail
        go_returns
        exact ⟨rfl, HB7⟩
  · have HC := Lib.hid (fun W => place_Check d p W)
    have e1 : midsV d p = [] := if_neg hz
    have e2 : linksV d p = [] := if_neg hz
    have hy : (plChk d p != 0) = true := by simpa using hz
    rw [e1, e2] at H1
    generalize plChk d p = E at *
    clear hz hT hg e1 e2 l1 l2 FP
    go_enter Tryd.func3, Tryd.ntmps3
    go_wp2_with fail
    refine (law06_alive _).mono ?_
    rintro e w1 ⟨rfl, hb⟩
    have BD := Lib.hid (((Blk.new w 23 #[.int .i64 d.x, .int .i64 d.y, .int .i64 d.z]).alloc (.cells #[.int .i64 p.b.b.x, .int .i64 p.b.b.y, .int .i64 p.b.b.z, .int .i64 p.b.s.x, .int .i64 p.b.s.y, .int .i64 p.b.s.z, .bool p.t0, .bool p.t1, .bool p.t2] 28)).below hb)
    have bp := (Blk.new (w.alloc (.cells #[.int .i64 d.x, .int .i64 d.y, .int .i64 d.z] 23)) 28 #[.int .i64 p.b.b.x, .int .i64 p.b.b.y, .int .i64 p.b.b.z, .int .i64 p.b.s.x, .int .i64 p.b.s.y, .int .i64 p.b.s.z, .bool p.t0, .bool p.t1, .bool p.t2]).below hb
    simp only [World.size_alloc] at bp
    have BP := Lib.hid bp
    have HB := Lib.hid (below_then (show Below w.heap.size w ((w.alloc (.cells #[.int .i64 d.x, .int .i64 d.y, .int .i64 d.z] 23)).alloc (.cells #[.int .i64 p.b.b.x, .int .i64 p.b.b.y, .int .i64 p.b.b.z, .int .i64 p.b.s.x, .int .i64 p.b.s.y, .int .i64 p.b.s.z, .bool p.t0, .bool p.t1, .bool p.t2] 28)) by (repeat (first | (with_reducible exact Below.refl _ _) | (with_reducible assumption) | (with_reducible refine below_alloc ?_ _) | (with_reducible refine below_drewN ?_ _) | (with_reducible refine Below.drew ?_) | (with_reducible refine below_then ?_ (by with_reducible assumption)) | (with_reducible refine Below.setCell ?_ (by go_size) _)))) hb)
    clear hb bp
    ((have d0 := (BD.out).cell 0 _ rfl; have d1 := (BD.out).cell 1 _ rfl; have d2 := (BD.out).cell 2 _ rfl); (have p0 := (BP.out).cell 0 _ rfl; have p1 := (BP.out).cell 1 _ rfl; have p2 := (BP.out).cell 2 _ rfl; have p3 := (BP.out).cell 3 _ rfl; have p4 := (BP.out).cell 4 _ rfl; have p5 := (BP.out).cell 5 _ rfl; have p6 := (BP.out).cell 6 _ rfl; have p7 := (BP.out).cell 7 _ rfl; have p8 := (BP.out).cell 8 _ rfl); go_wp2_with fail)
    refine (H1.out _).mono ?_
    rintro e w2 ⟨v1, u1, rfl, o1, r1, hb⟩
    obtain ⟨ba, ca, rfl, _, _⟩ := own_rd o1
    obtain ⟨bb, cb, rfl, _, _⟩ := own_rd r1
    (have BD := Lib.hid (BD.out.below hb); have BP := Lib.hid (BP.out.below hb); have HB := Lib.hid (below_then HB.out hb))
    clear hb o1 r1
    (clear d0 d1 d2 p0 p1 p2 p3 p4 p5 p6 p7 p8)
    ((have d0 := (BD.out).cell 0 _ rfl; have d1 := (BD.out).cell 1 _ rfl; have d2 := (BD.out).cell 2 _ rfl); (have p0 := (BP.out).cell 0 _ rfl; have p1 := (BP.out).cell 1 _ rfl; have p2 := (BP.out).cell 2 _ rfl; have p3 := (BP.out).cell 3 _ rfl; have p4 := (BP.out).cell 4 _ rfl; have p5 := (BP.out).cell 5 _ rfl; have p6 := (BP.out).cell 6 _ rfl; have p7 := (BP.out).cell 7 _ rfl; have p8 := (BP.out).cell 8 _ rfl); go_wp2_with fail)
    refine (HC.out _).mono ?_
    rintro e w3 ⟨rfl, hb⟩
    have HB3 := below_then HB.out hb
    clear hb
    (clear d0 d1 d2 p0 p1 p2 p3 p4 p5 p6 p7 p8)
    go_wp2_with fail
    go_returns
    exact ⟨by simp, HB3⟩
set_option maxRecDepth 100000 in set_option maxHeartbeats 4000000 in
theorem lift_placeCounts (os : Os) (started : os.Started) (H : Type) (enc : TypeId × Value → H) (F : Stop.Interp) :
    ReturnsInHanded {} Tryd.checked os 3 .any ((OpenSpec.ofChange Rows.placeCountsSpec).preRow enc Tryd.prog Tryd.f3 Rows.placeCountsRow.domain false Rows.placeCountsRow.laid) (((OpenSpec.ofChange Rows.placeCountsSpec).at F).post enc Tryd.prog Tryd.f3 false true false false) := by
  obtain ⟨places, hx⟩ : ∃ places, DataW.whole enc Tryd.prog ((laidWorld os).forCall (fun _ _ => 0) ⟨#[], #[.agg #[.int .i64 0, .int .i64 0, .int .i64 0], .agg #[.int .i64 0, .int .i64 0, .int .i64 0, .int .i64 0, .int .i64 0, .int .i64 0, .bool false, .bool false, .bool false]], []⟩).memory Tryd.f3.params.toList Rows.placeCountsSpec.vars false #[.agg #[.int .i64 0, .int .i64 0, .int .i64 0], .agg #[.int .i64 0, .int .i64 0, .int .i64 0, .int .i64 0, .int .i64 0, .int .i64 0, .bool false, .bool false, .bool false]].toList 8 = some ([.agg [.lit (.int .i64 0), .lit (.int .i64 0), .lit (.int .i64 0)], .agg [.agg [.agg [.lit (.int .i64 0), .lit (.int .i64 0), .lit (.int .i64 0)], .agg [.lit (.int .i64 0), .lit (.int .i64 0), .lit (.int .i64 0)]], .agg [.lit (.bool false), .lit (.bool false), .lit (.bool false)]]], [], places) := ⟨[], by kernel_rfl⟩
  refine returnsInHanded_of_row (C := Tryd.checked) (s := OpenSpec.ofChange Rows.placeCountsSpec) ownKnob0 started (by kernel_rfl) Tryd.func3
    (witness_row_at (enc := enc) (C := Tryd.checked) false (laidWorld os) #[.agg #[.int .i64 0, .int .i64 0, .int .i64 0], .agg #[.int .i64 0, .int .i64 0, .int .i64 0, .int .i64 0, .int .i64 0, .int .i64 0, .bool false, .bool false, .bool false]] rfl (by kernel_rfl) (by kernel_rfl) (by kernel_rfl)
      (OpenSpec.preRow_of_cond 8 hx (by kernel_rfl) (fun k hk => by cases hk) (by kernel_rfl) (laidMet_of_run' 8 (by kernel_rfl) (by kernel_rfl)))) ?_
  intro W base args ds gs before hval0 hW _ _ _ hL0 _ _
  have hval : ∀ (j : Nat) t v, Tryd.f3.params[j]? = some t → args[j]? = some v → Value.okWide Tryd.prog W .any base t v := hval0
  have hT := tab_of_laid (W := W) hL0
  have hg := tab_lt hT
  have hW' := hW
  obtain ⟨p, q, hA0, hV, rfl, hfz, hnd⟩ := hW
  have hA : DataW.TrodAll enc Tryd.prog W 0 (fun _ => true) true Tryd.f3.params.toList args.toList ds p := hA0
  rw [Tryd.params3] at hA hval
  have hK := hA
  obtain ⟨v0, vs0, d0, ds0, p0, q0, hargs, rfl, rfl, h0, r0⟩ := trodAll_cons hA
  obtain ⟨v1, vs1, d1, ds1, p1, q1, rfl, rfl, rfl, h1, r1⟩ := trodAll_cons r0
  obtain ⟨rfl, rfl, rfl⟩ := trodAll_nil r1
  obtain rfl : args = #[v0, v1] := by cases args; simp_all
  obtain ⟨d, rfl⟩ := open_dims (hval 0 _ v0 rfl rfl)
  obtain ⟨p, rfl⟩ := open_place (hval 1 _ v1 rfl rfl)
  obtain ⟨rfl, rfl⟩ := trodVars_none hV
  clear hA0 hval0
  simp only [List.append_nil] at hW'
  refine (law06_PlaceCounts d p W hT hg).mono fun e W' ⟨he, bel⟩ => ?_
  subst he
  refine ⟨_, rfl, _, _, _, [], _, [], hW', trodAll_mk1 (shut_bool Tryd.underlying4 _), trodAll_below bel _ _ _ _ ?_ hK, rfl, bel.frame _, fun h => by cases h⟩
  intro t ht
  simp at ht <;> (rcases ht with rfl | rfl <;> exact ⟨by kernel_rfl, of_decide_eq_true (by kernel_rfl)⟩)

theorem said_placeCounts : Rows.PlaceCountsSaid :=
  OpenClaim.holds_of_cond 3 Tryd.f3 rfl rfl rfl rfl rfl rfl rfl ⟨rfl, rfl, rfl, rfl, rfl⟩ rfl rfl rfl rfl rfl (by kernel_rfl) Tryd.func3 (by kernel_rfl)
    (of_decide_eq_true (by kernel_rfl)) (by unfold Func.isWrapper; first | (rw [if_pos (by decide +kernel)]; kernel_rfl) | (rw [if_neg (by decide +kernel)]; exact ⟨rfl, rfl⟩))
    (fun os started H enc _ F => by rw [OpenClaim.pre_eq_preRow]; exact lift_placeCounts os started H enc F)

theorem plain_placeCounts (f : FuncId) (fn : Func) (hf : Tryd.pinned.checked.prog.funcNamed "tidehall/tidehalllaw06.PlaceCounts" = some f) (hfn : Tryd.pinned.checked.prog.funcs[f]? = some fn) :
    false = Tryd.pinned.checked.prog.looks [] ∧ ∀ (j : Nat) t, fn.params[j]? = some t → Tryd.pinned.checked.prog.wantsStandIn t = false := by
  obtain rfl : f = 3 := Option.some.inj ((show Tryd.prog.funcNamed "tidehall/tidehalllaw06.PlaceCounts" = some 3 by kernel_rfl).symm.trans hf) |>.symm
  obtain rfl : fn = Tryd.f3 := (Option.some.inj (Tryd.func3.symm.trans hfn)).symm
  refine ⟨by kernel_rfl, fun j t ht => ?_⟩
  rw [Tryd.params3] at ht
  have hm := Array.mem_of_getElem? ht
  simp at hm <;> (rcases hm with rfl | rfl <;> exact (show Tryd.prog.wantsStandIn _ = false by kernel_rfl))

theorem PlaceCounts_holds : Rows.PlaceCountsCardSaid :=
  Claim7.holds_tied_plain_at .later [] _ _ _ _ said_placeCounts (fun _ h => by cases h) (by kernel_rfl) (fun _ h => by cases h) placeCounts_row_tie rfl ⟨rfl, rfl⟩ (by kernel_rfl) rfl plain_placeCounts (by kernel_rfl)
end Go.Proofs.YthabpiphfaedaaaDoor
