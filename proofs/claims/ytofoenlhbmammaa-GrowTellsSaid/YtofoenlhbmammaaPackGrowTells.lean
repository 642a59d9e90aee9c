/- GrowTells: all free boxes, those that lie in no other one, the largest's size and a box grown are the document's: the call returns true. -/
import Derived.Test.YtofoenlhbmammaaQ0GrowXG13
import Derived.Test.YtofoenlhbmammaaQ0RowSG13
import Derived.Test.YtofoenlhbmammaaQ0RefGCG13
import Derived.Test.YtofoenlhbmammaaQ0RefGGG13
set_option linter.unusedVariables false
set_option linter.unusedSimpArgs false
namespace Go.Proofs.Ytofoenlhbmammaa

section
open Go.ChangeShapes Go.WideShapes Go.ChangeAt Go.RowKit Go.Shelf

/-- Dimensions, a box, a set, as they lie. -/
structure GtW (w W : World) (d : V3) (b : Bx) (bs : Option Addr) (ms : List Nat) : Prop where
  d : Blk W w.heap.size 23 #[.int .i64 d.x, .int .i64 d.y, .int .i64 d.z]
  b : Blk W (w.heap.size + 1) 27 #[.int .i64 b.b.x, .int .i64 b.b.y, .int .i64 b.b.z, .int .i64 b.s.x, .int .i64 b.s.y, .int .i64 b.s.z]
  s : SetIn W bs ms
  hb : Below w.heap.size w W
theorem GtW.keep {w W W' : World} {d : V3} {b : Bx} {bs : Option Addr} {ms : List Nat} (h : GtW w W d b bs ms) (hb : Below W.heap.size W W') : GtW w W' d b bs ms := ⟨h.d.below hb, h.b.below hb, h.s.keep hb, below_then h.hb hb⟩
set_option maxRecDepth 100000 in set_option maxHeartbeats 4000000 in
theorem core_GrowTells (d : V3) (b : Bx) (bs : Option Addr) (cs : Nat) (ms : List Nat) (w : World) (hs : SetIn w bs ms) (l1 : ms.length ≤ 100) (hsm : smallB d = true) : Calls Try.prog 6 #[.agg #[.int .i64 d.x, .int .i64 d.y, .int .i64 d.z], .slice bs ms.length cs, .agg #[.int .i64 b.b.x, .int .i64 b.b.y, .int .i64 b.b.z, .int .i64 b.s.x, .int .i64 b.s.y, .int .i64 b.s.z]] w (RB w (.bool true)) := by
  have SM := Lib.hid (fun W => Calls.rb_eq (law13_small d W) (show Value.bool (smallB d) = .bool true by rw [hsm]))
  have FR := Lib.hid (fun W (h : SetIn W bs ms) => grow_Free d bs cs ms W h)
  have RF := Lib.hid (fun W (h : SetIn W bs ms) => ref13_Free d bs cs ms W h)
  have MO := Lib.hid (fun W (h : SetIn W bs ms) => grow_Most d bs cs ms W h)
  have RM := Lib.hid (fun W (h : SetIn W bs ms) => ref13_Most d bs cs ms W h)
  have LG := Lib.hid (fun W (h : SetIn W bs ms) => grow_Largest d bs cs ms W h)
  have RL := Lib.hid (fun W (h : SetIn W bs ms) => ref13_Largest d bs cs ms W h)
  have GR := Lib.hid (fun W (h : SetIn W bs ms) => grow_Grown d b bs cs ms W h)
  have RG := Lib.hid (fun W (h : SetIn W bs ms) => ref13_Grown d b bs cs ms W h)
  have q1 : decide (100 < ms.length) = false := decide_eq_false (by omega)
  have T := Lib.hid (show GtW w ((w.alloc (.cells #[.int .i64 d.x, .int .i64 d.y, .int .i64 d.z] 23)).alloc (.cells #[.int .i64 b.b.x, .int .i64 b.b.y, .int .i64 b.b.z, .int .i64 b.s.x, .int .i64 b.s.y, .int .i64 b.s.z] 27)) d b bs ms from ⟨(Blk.new w _ _).alloc _, (by have h := Blk.new (w.alloc (.cells #[.int .i64 d.x, .int .i64 d.y, .int .i64 d.z] 23)) 27 #[.int .i64 b.b.x, .int .i64 b.b.y, .int .i64 b.b.z, .int .i64 b.s.x, .int .i64 b.s.y, .int .i64 b.s.z]; rw [World.size_alloc] at h; exact h), hs.keep (by (repeat (first | (with_reducible exact Below.refl _ _) | (with_reducible assumption) | (with_reducible refine below_alloc ?_ _) | (with_reducible refine below_drewN ?_ _) | (with_reducible refine Below.drew ?_) | (with_reducible refine below_then ?_ (by with_reducible assumption)) | (with_reducible refine Below.setCell ?_ (by go_size) _)))), by (repeat (first | (with_reducible exact Below.refl _ _) | (with_reducible assumption) | (with_reducible refine below_alloc ?_ _) | (with_reducible refine below_drewN ?_ _) | (with_reducible refine Below.drew ?_) | (with_reducible refine below_then ?_ (by with_reducible assumption)) | (with_reducible refine Below.setCell ?_ (by go_size) _)))⟩)
  have hlen := frV_len d ms
  have hlen2 : (mostL d (frV d ms)).length ≤ 4096 := Nat.le_trans (List.length_filter_le _ _) hlen
  have hgd : Try.prog.eqGuardType Try.prog.depth 27 = false := by kernel_rfl
  generalize topL (frV d ms) = tl at *
  generalize frV d ms = A at *
  generalize mostL d A = L at *
  generalize frE d ms = E at *
  generalize gnE d ms b = gE at *
  generalize gnV d ms b = g at *
  clear hs hsm
  have heq : ∀ w, (binOp .eql 27 (.agg #[.int .i64 g.b.x, .int .i64 g.b.y, .int .i64 g.b.z, .int .i64 g.s.x, .int .i64 g.s.y, .int .i64 g.s.z]) (.agg #[.int .i64 g.b.x, .int .i64 g.b.y, .int .i64 g.b.z, .int .i64 g.s.x, .int .i64 g.s.y, .int .i64 g.s.z])).run Try.prog w = .ok (.bool true) w := fun w => by rw [run_eql_box, decide_eq_true rfl]
  have SA := Lib.hid (fun W u v (h1 : XS W u A) (h2 : XS W v A) => Calls.rb_eq (xs_same h1 h2) (show Value.bool (decide (A = A)) = .bool true by rw [decide_eq_true rfl]))
  have SL := Lib.hid (fun W u v (h1 : XS W u L) (h2 : XS W v L) => Calls.rb_eq (xs_same h1 h2) (show Value.bool (decide (L = L)) = .bool true by rw [decide_eq_true rfl]))
  go_enter Try.func6, Try.ntmps6
  go_wp2_with fail
  refine (SM.out _).mono ?_
  rintro e w2 ⟨rfl, hb⟩
  have T := Lib.hid (T.out.keep hb)
  clear hb SM
  (have d0 := T.out.d.cell 0 _ rfl; have d1 := T.out.d.cell 1 _ rfl; have d2 := T.out.d.cell 2 _ rfl; have dl := T.out.d.lt)
  go_wp2_with fail
  refine (FR.out _ T.out.s).mono ?_
  rintro e w3 ⟨v1, rfl, ho, hb⟩
  have T := Lib.hid (T.out.keep hb)
  have X1 := Lib.hid (xs_of_own ho (by omega))
  clear hb ho FR
  clear d0 d1 d2 dl
  (have d0 := T.out.d.cell 0 _ rfl; have d1 := T.out.d.cell 1 _ rfl; have d2 := T.out.d.cell 2 _ rfl; have dl := T.out.d.lt)
  go_wp2_with fail
  refine (RF.out _ T.out.s).mono ?_
  rintro e w4 ⟨v2, rfl, ho, hb⟩
  have T := Lib.hid (T.out.keep hb)
  have X1 := Lib.hid (X1.out.keep hb)
  have X2 := Lib.hid (xs_of_own ho (by omega))
  clear hb ho RF
  clear d0 d1 d2 dl
  (have d0 := T.out.d.cell 0 _ rfl; have d1 := T.out.d.cell 1 _ rfl; have d2 := T.out.d.cell 2 _ rfl; have dl := T.out.d.lt)
  go_wp2_with fail
  refine (MO.out _ T.out.s).mono ?_
  rintro e w5 ⟨v3, rfl, ho, hb⟩
  have T := Lib.hid (T.out.keep hb)
  have X1 := Lib.hid (X1.out.keep hb)
  have X2 := Lib.hid (X2.out.keep hb)
  have Y1 := Lib.hid (xs_of_own ho (by omega))
  clear hb ho MO
  clear d0 d1 d2 dl
  (have d0 := T.out.d.cell 0 _ rfl; have d1 := T.out.d.cell 1 _ rfl; have d2 := T.out.d.cell 2 _ rfl; have dl := T.out.d.lt)
  go_wp2_with fail
  refine (RM.out _ T.out.s).mono ?_
  rintro e w6 ⟨v4, rfl, ho, hb⟩
  have T := Lib.hid (T.out.keep hb)
  have X1 := Lib.hid (X1.out.keep hb)
  have X2 := Lib.hid (X2.out.keep hb)
  have Y1 := Lib.hid (Y1.out.keep hb)
  have Y2 := Lib.hid (xs_of_own ho (by omega))
  clear hb ho RM
  clear d0 d1 d2 dl
  (have d0 := T.out.d.cell 0 _ rfl; have d1 := T.out.d.cell 1 _ rfl; have d2 := T.out.d.cell 2 _ rfl; have dl := T.out.d.lt)
  go_wp2_with fail
  refine (LG.out _ T.out.s).mono ?_
  rintro e w7 ⟨rfl, hb⟩
  have T := Lib.hid (T.out.keep hb)
  have X1 := Lib.hid (X1.out.keep hb)
  have X2 := Lib.hid (X2.out.keep hb)
  have Y1 := Lib.hid (Y1.out.keep hb)
  have Y2 := Lib.hid (Y2.out.keep hb)
  clear hb LG
  clear d0 d1 d2 dl
  (have d0 := T.out.d.cell 0 _ rfl; have d1 := T.out.d.cell 1 _ rfl; have d2 := T.out.d.cell 2 _ rfl; have dl := T.out.d.lt)
  go_wp2_with fail
  refine (RL.out _ T.out.s).mono ?_
  rintro e w8 ⟨rfl, hb⟩
  have T := Lib.hid (T.out.keep hb)
  have X1 := Lib.hid (X1.out.keep hb)
  have X2 := Lib.hid (X2.out.keep hb)
  have Y1 := Lib.hid (Y1.out.keep hb)
  have Y2 := Lib.hid (Y2.out.keep hb)
  clear hb RL
  clear d0 d1 d2 dl
  (have d0 := T.out.d.cell 0 _ rfl; have d1 := T.out.d.cell 1 _ rfl; have d2 := T.out.d.cell 2 _ rfl; have dl := T.out.d.lt)
  go_wp2_with fail
  refine (SA.out _ _ _ X1.out X2.out).mono ?_
  rintro e w9 ⟨rfl, hb⟩
  have T := Lib.hid (T.out.keep hb)
  have X1 := Lib.hid (X1.out.keep hb)
  have X2 := Lib.hid (X2.out.keep hb)
  have Y1 := Lib.hid (Y1.out.keep hb)
  have Y2 := Lib.hid (Y2.out.keep hb)
  clear hb SA
  clear d0 d1 d2 dl
  (have d0 := T.out.d.cell 0 _ rfl; have d1 := T.out.d.cell 1 _ rfl; have d2 := T.out.d.cell 2 _ rfl; have dl := T.out.d.lt)
  go_wp2_with fail
  refine (SL.out _ _ _ Y1.out Y2.out).mono ?_
  rintro e w10 ⟨rfl, hb⟩
  have T := Lib.hid (T.out.keep hb)
  clear hb SL
  clear d0 d1 d2 dl
  (have d0 := T.out.d.cell 0 _ rfl; have d1 := T.out.d.cell 1 _ rfl; have d2 := T.out.d.cell 2 _ rfl; have dl := T.out.d.lt)
  cases hE : (E == 4) with
  | true =>
    go_wp2_with fail
    go_returns
    exact ⟨by simp, T.out.hb⟩
  | false =>
    (have b0 := T.out.b.cell 0 _ rfl; have b1 := T.out.b.cell 1 _ rfl; have b2 := T.out.b.cell 2 _ rfl; have b3 := T.out.b.cell 3 _ rfl; have b4 := T.out.b.cell 4 _ rfl; have b5 := T.out.b.cell 5 _ rfl; have bl := T.out.b.lt)
    go_wp2_with fail
    refine (GR.out _ T.out.s).mono ?_
    rintro e w11 ⟨rfl, hb⟩
    clear d0 d1 d2 dl
    clear b0 b1 b2 b3 b4 b5 bl
    have HP := Lib.hid (Blk.new w11 27 #[.int .i64 g.b.x, .int .i64 g.b.y, .int .i64 g.b.z, .int .i64 g.s.x, .int .i64 g.s.y, .int .i64 g.s.z])
    have T := Lib.hid (T.out.keep hb)
    have T := Lib.hid (T.out.keep (below_alloc (Below.refl _ _) (.cells #[.int .i64 g.b.x, .int .i64 g.b.y, .int .i64 g.b.z, .int .i64 g.s.x, .int .i64 g.s.y, .int .i64 g.s.z] 27)))
    clear hb GR
    (have d0 := T.out.d.cell 0 _ rfl; have d1 := T.out.d.cell 1 _ rfl; have d2 := T.out.d.cell 2 _ rfl; have dl := T.out.d.lt)
    (have b0 := T.out.b.cell 0 _ rfl; have b1 := T.out.b.cell 1 _ rfl; have b2 := T.out.b.cell 2 _ rfl; have b3 := T.out.b.cell 3 _ rfl; have b4 := T.out.b.cell 4 _ rfl; have b5 := T.out.b.cell 5 _ rfl; have bl := T.out.b.lt)
    go_wp2_with fail
    refine (RG.out _ T.out.s).mono ?_
    rintro e w12 ⟨rfl, hb⟩
    clear d0 d1 d2 dl
    clear b0 b1 b2 b3 b4 b5 bl
    have hP := HP.out.below hb
    have T := Lib.hid (T.out.keep hb)
    clear hb RG HP
    have g0 := hP.cell 0 _ rfl
    have g1 := hP.cell 1 _ rfl
    have g2 := hP.cell 2 _ rfl
    have g3 := hP.cell 3 _ rfl
    have g4 := hP.cell 4 _ rfl
    have g5 := hP.cell 5 _ rfl
    have gl := hP.lt
    clear hP
    have HB := Lib.hid (below_alloc T.out.hb (.cells #[.int .i64 g.b.x, .int .i64 g.b.y, .int .i64 g.b.z, .int .i64 g.s.x, .int .i64 g.s.y, .int .i64 g.s.z] 27))
    go_wp2_with fail
    go_returns
    exact ⟨by simp, HB.out⟩
set_option maxRecDepth 100000 in set_option maxHeartbeats 4000000 in
theorem law13_GrowTells (d : V3) (b : Bx) (bs : Option Addr) (cs : Nat) (ms : List Nat) (w : World) (ha : Rd w bs (wcells ms) ∧ W64 ms) : Calls Try.prog 6 #[.agg #[.int .i64 d.x, .int .i64 d.y, .int .i64 d.z], .slice bs ms.length cs, .agg #[.int .i64 b.b.x, .int .i64 b.b.y, .int .i64 b.b.z, .int .i64 b.s.x, .int .i64 b.s.y, .int .i64 b.s.z]] w (RB w (.bool true)) := by
  by_cases l1 : 100 < ms.length
  · have q1 : decide (100 < ms.length) = true := decide_eq_true l1
    clear ha
    go_enter Try.func6, Try.ntmps6
    go_wp2_with fail
    go_returns
    exact ⟨rfl, by (repeat (first | (with_reducible exact Below.refl _ _) | (with_reducible assumption) | (with_reducible refine below_alloc ?_ _) | (with_reducible refine below_drewN ?_ _) | (with_reducible refine Below.drew ?_) | (with_reducible refine below_then ?_ (by with_reducible assumption)) | (with_reducible refine Below.setCell ?_ (by go_size) _)))⟩
  cases hsm : smallB d with
  | true => exact core_GrowTells d b bs cs ms w (SetIn.mk ha.1 (by omega) ha.2) (by omega) hsm
  | false =>
    have SM := Lib.hid (fun W => Calls.rb_eq (law13_small d W) (show Value.bool (smallB d) = .bool false by rw [hsm]))
    have q1 : decide (100 < ms.length) = false := decide_eq_false (by omega)
    clear ha hsm
    go_enter Try.func6, Try.ntmps6
    go_wp2_with fail
    refine (SM.out _).mono ?_
    rintro e w2 ⟨rfl, hb⟩
    have HB := Lib.hid (below_then (show Below w.heap.size w _ by (repeat (first | (with_reducible exact Below.refl _ _) | (with_reducible assumption) | (with_reducible refine below_alloc ?_ _) | (with_reducible refine below_drewN ?_ _) | (with_reducible refine Below.drew ?_) | (with_reducible refine below_then ?_ (by with_reducible assumption)) | (with_reducible refine Below.setCell ?_ (by go_size) _)))) hb)
    clear hb
    go_wp2_with fail
    go_returns
    exact ⟨rfl, HB.out⟩

set_option maxRecDepth 100000 in set_option maxHeartbeats 4000000 in
theorem lift_growTells (os : Os) (started : os.Started) (H : Type) (enc : TypeId × Value → H) :
    ReturnsInHanded {} Try.checked os 6 .any (Rows.growTellsSpec.pre6 enc Try.prog Try.f6 Rows.growTellsRow.domain false) (Rows.growTellsSpec.post enc Try.prog Try.f6 false true false false) := by
  refine returnsInHanded_of_change (C := Try.checked) ownKnob0 started (by kernel_rfl) Try.func6
    (ChangeSpec.witness6 (enc := enc) (C := Try.checked) false ⟨#[], #[.agg #[.int .i64 0, .int .i64 0, .int .i64 0], .slice none 0 0, .agg #[.int .i64 0, .int .i64 0, .int .i64 0, .int .i64 0, .int .i64 0, .int .i64 0]], []⟩ 8 (by kernel_rfl) (by kernel_rfl) (by kernel_rfl) (by kernel_rfl)) ?_
  intro W base args ds gs before hval0 hW hcnd _
  have hval : ∀ (j : Nat) t v, Try.f6.params[j]? = some t → args[j]? = some v → Value.okWide Try.prog W .any base t v := hval0
  have hW' := hW
  obtain ⟨p, q, hA0, hV, rfl, hfz, hnd⟩ := hW
  have hA : DataW.TrodAll enc Try.prog W 0 (fun _ => true) true Try.f6.params.toList args.toList ds p := hA0
  rw [Try.params6] at hA hval
  have hK := hA
  obtain ⟨v0, vs0, d0, ds0, p0, q0, hargs, rfl, rfl, h0, r0⟩ := trodAll_cons hA
  obtain ⟨v1, vs1, d1, ds1, p1, q1, rfl, rfl, rfl, h1, r1⟩ := trodAll_cons r0
  obtain ⟨v2, vs2, d2, ds2, p2, q2, rfl, rfl, rfl, h2, r2⟩ := trodAll_cons r1
  obtain ⟨rfl, rfl, rfl⟩ := trodAll_nil r2
  obtain rfl : args = #[v0, v1, v2] := by cases args; simp_all
  obtain ⟨d, rfl⟩ := open_dims (hval 0 _ v0 rfl rfl)
  obtain ⟨bs, ms, cs, rfl, ha, _⟩ := open_set (hval 1 _ v1 rfl rfl) h1
  obtain ⟨b, rfl⟩ := open_box (hval 2 _ v2 rfl rfl)
  obtain ⟨rfl, rfl⟩ := trodVars_none hV
  clear hA0 hval0
  simp only [List.append_nil] at hW' hK
  refine (law13_GrowTells d b bs cs ms W ha).mono fun e W' ⟨he, bel⟩ => ?_
  subst he
  refine ⟨_, rfl, _, _, _, [], _, [], hW', trodAll_mk1 (shut_bool Try.underlying4 _), trodAll_below bel _ _ _ _ ?_ hK, rfl, bel.frame _, fun h => by cases h⟩
  intro t ht
  simp at ht <;> (rcases ht with rfl | rfl | rfl <;> exact ⟨by kernel_rfl, of_decide_eq_true (by kernel_rfl)⟩)

theorem holds_growTells : Rows.growTellsRow.holds Try.pinned (OpenSpec.ofChange Rows.growTellsSpec) :=
  OpenClaim.holds_of_wide 6 Try.f6 rfl rfl rfl rfl rfl rfl rfl ⟨rfl, rfl, rfl, rfl, rfl⟩ rfl rfl rfl rfl rfl (by kernel_rfl) Try.func6 (by kernel_rfl)
    (of_decide_eq_true (by kernel_rfl)) (by unfold Func.isWrapper; first | (rw [if_pos (by decide +kernel)]; kernel_rfl) | (rw [if_neg (by decide +kernel)]; exact ⟨rfl, rfl⟩))
    (fun os started H enc _ => lift_growTells os started H enc)

theorem GrowTells_holds : Rows.GrowTellsSaid := holds_growTells
end
end Go.Proofs.Ytofoenlhbmammaa
