/- FREE: the chapter's calendars and place; its first examples. -/
import Derived.Test.YtofoenlhbmammaaGreatQ13F11
import Derived.Test.YtofoenlhbmammaaGreatQ0FreeSF11
set_option linter.unusedVariables false
set_option linter.unusedSimpArgs false
namespace Go.Proofs.YtofoenlhbmammaaGreat

section
open Go.RowKit Go.Shelf

set_option maxRecDepth 100000 in set_option maxHeartbeats 4000000 in
theorem law11_some (w : World) : Calls Tryz.prog 18 #[] w (RYB w twoY true) := by
  obtain ⟨W0, hW0⟩ : ∃ W0, W0 = w.alloc (.cells #[.int .i64 0, .int .i64 0, .int .i64 0, .slice none 0 0, .slice none 0 0] 26) := ⟨_, rfl⟩
  have RB := Lib.hid (show Blk W0 w.heap.size 26 #[.int .i64 0, .int .i64 0, .int .i64 0, .slice none 0 0, .slice none 0 0] by rw [hW0]; exact Blk.new ..)
  have HB := Lib.hid (show Below w.heap.size w W0 by rw [hW0]; (repeat (first | (with_reducible exact Below.refl _ _) | (with_reducible assumption) | (with_reducible refine below_alloc ?_ _) | (with_reducible refine below_drewN ?_ _) | (with_reducible refine Below.drew ?_) | (with_reducible refine below_then ?_ (by with_reducible assumption)) | (with_reducible refine Below.setCell ?_ (by go_size) _))))
  have N1 := Lib.hid (fun W => by have := RYS.of (cals_New ⟨2, 1, 1⟩ W) (by rw [ex_new]; decide); rw [ex_new, ex_newE] at this; exact this)
  have P1 := Lib.hid (fun W v a b (h : YS W v ⟨⟨2, 1, 1⟩, [[], []], [[], [], [], [], [], []]⟩) (ha : SS W a [1]) (hb : SS W b [1]) => by have := y_Put ⟨0, 3, 5⟩ h ha hb; rw [ex_putE, ex_putV] at this; exact this)
  have HW := Lib.hid hW0
  clear hW0
  go_enter Tryz.func18, Tryz.ntmps18
  go_upto_region 1 with fail
  rw [← HW.out]
  go_wp2_with fail
  refine (N1.out _).mono ?_
  rintro e w1 ⟨v, rfl, hv, hb1⟩
  obtain ⟨bn, bl, cn, cl, rfl, hn, hl⟩ := hv.ex
  have RB := Lib.hid (RB.out.below hb1)
  have HB := Lib.hid (below_then HB.out hb1)
  have HY := Lib.hid hv
  clear hb1 hn hl hv
  go_wp2_with fail
  obtain ⟨W2, hW2⟩ : ∃ W2, W2 = ((w1.alloc (.cells #[.int .i64 2, .int .i64 1, .int .i64 1, .slice bn 2 cn, .slice bl 6 cl] 26)).alloc (.cells #[.int .u64 1] 56)).alloc (.cells #[.int .u64 1] 56) := ⟨_, rfl⟩
  rw [← hW2]
  have hb2 : Below w1.heap.size w1 W2 := by rw [hW2]; (repeat (first | (with_reducible exact Below.refl _ _) | (with_reducible assumption) | (with_reducible refine below_alloc ?_ _) | (with_reducible refine below_drewN ?_ _) | (with_reducible refine Below.drew ?_) | (with_reducible refine below_then ?_ (by with_reducible assumption)) | (with_reducible refine Below.setCell ?_ (by go_size) _)))
  have S1 : SS W2 (.slice (some ⟨w1.heap.size + 1, 0, none⟩) 1 1) [1] := by
    have := SS.new1 (w1.alloc (.cells #[.int .i64 2, .int .i64 1, .int .i64 1, .slice bn 2 cn, .slice bl 6 cl] 26)) 56 1 (by decide)
    rw [show (w1.alloc (.cells #[.int .i64 2, .int .i64 1, .int .i64 1, .slice bn 2 cn, .slice bl 6 cl] 26)).heap.size = w1.heap.size + 1 by simp] at this
    rw [hW2]
    exact this.keep ((Below.refl _ _).alloc (Nat.le_refl _) _)
  have S2 : SS W2 (.slice (some ⟨w1.heap.size + 1 + 1, 0, none⟩) 1 1) [1] := by
    have := SS.new1 ((w1.alloc (.cells #[.int .i64 2, .int .i64 1, .int .i64 1, .slice bn 2 cn, .slice bl 6 cl] 26)).alloc (.cells #[.int .u64 1] 56)) 56 1 (by decide)
    rw [show ((w1.alloc (.cells #[.int .i64 2, .int .i64 1, .int .i64 1, .slice bn 2 cn, .slice bl 6 cl] 26)).alloc (.cells #[.int .u64 1] 56)).heap.size = w1.heap.size + 1 + 1 by simp] at this
    rw [hW2]
    exact this
  have RB := Lib.hid (RB.out.below hb2)
  have HB := Lib.hid (below_then HB.out hb2)
  refine (P1.out _ _ _ _ (HY.out.keep hb2) S1 S2).mono ?_
  clear hb2 S1 S2 HY hW2
  rintro e w3 ⟨u, v, rfl, hu, hv, hb3⟩
  obtain ⟨bm, cm, rfl⟩ := hu.slice
  obtain ⟨bk, ck, rfl⟩ := hv.slice
  have hRW := RB.out.lt
  have RB := Lib.hid (RB.out.below hb3)
  have HB := Lib.hid (below_then HB.out hb3)
  have HU := Lib.hid hu
  have HV := Lib.hid hv
  clear hb3 hu hv
  unfold twoY at *
  go_upto_region 3 with fail
  obtain ⟨w4, hw4⟩ : ∃ w4, w4 = w3.alloc (.cells #[.int .i64 2, .int .i64 1, .int .i64 1, .slice bm 2 cm, .slice bk 6 ck] 26) := ⟨_, rfl⟩
  rw [← hw4]
  have hb4 : Below w3.heap.size w3 w4 := by rw [hw4]; (repeat (first | (with_reducible exact Below.refl _ _) | (with_reducible assumption) | (with_reducible refine below_alloc ?_ _) | (with_reducible refine below_drewN ?_ _) | (with_reducible refine Below.drew ?_) | (with_reducible refine below_then ?_ (by with_reducible assumption)) | (with_reducible refine Below.setCell ?_ (by go_size) _)))
  have YB := Lib.hid (show Blk w4 w3.heap.size 26 #[.int .i64 2, .int .i64 1, .int .i64 1, .slice bm 2 cm, .slice bk 6 ck] by rw [hw4]; exact Blk.new ..)
  have RB := Lib.hid (RB.out.below hb4)
  have HB := Lib.hid (below_then HB.out hb4)
  have HU := Lib.hid (HU.out.keep hb4)
  have HV := Lib.hid (HV.out.keep hb4)
  clear hb4 hw4
  have y0 := YB.out.cell 0 _ rfl
  have y1 := YB.out.cell 1 _ rfl
  have y2 := YB.out.cell 2 _ rfl
  have y3 := YB.out.cell 3 _ rfl
  have y4 := YB.out.cell 4 _ rfl
  have hYl := YB.out.lt
  have hRl := RB.out.lt
  have q0 := RB.out.cell 0 _ rfl
  have q1 := RB.out.cell 1 _ rfl
  have q2 := RB.out.cell 2 _ rfl
  have q3 := RB.out.cell 3 _ rfl
  have q4 := RB.out.cell 4 _ rfl
  have g0 := RB.out.frozen 0
  have g1 := RB.out.frozen 1
  have g2 := RB.out.frozen 2
  have g3 := RB.out.frozen 3
  have g4 := RB.out.frozen 4
  have hne : w.heap.size ≠ w3.heap.size := fun e => by
    have h1 := YB.out
    have h2 := RB.out
    rw [e] at h2
    unfold Blk at h1 h2
    rw [h1] at h2
    cases h2
  go_wp2_with fail
  obtain ⟨WF, hWF⟩ : ∃ WF, WF = ((((((w4.setCell ⟨w.heap.size, 0, none⟩ (.int .i64 2)).setCell ⟨w.heap.size, 1, none⟩ (.int .i64 1)).setCell ⟨w.heap.size, 2, none⟩ (.int .i64 1)).setCell ⟨w.heap.size, 3, none⟩ (.slice bm 2 cm)).setCell ⟨w.heap.size, 4, none⟩ (.slice bk 6 ck))) := ⟨_, rfl⟩
  rw [← hWF]
  have RF : Blk WF w.heap.size 26 #[.int .i64 2, .int .i64 1, .int .i64 1, .slice bm 2 cm, .slice bk 6 ck] := by rw [hWF]; exact RB.out.five'
  have LU : LO WF W2.heap.size (.slice bm 2 cm) [[⟨0, 3, 5⟩], []] := by rw [hWF]; exact (LO.five HU.out hRW (Nat.le_refl _)).keep (by (repeat (first | (with_reducible exact Below.refl _ _) | (with_reducible assumption) | (with_reducible refine below_alloc ?_ _) | (with_reducible refine below_drewN ?_ _) | (with_reducible refine Below.drew ?_) | (with_reducible refine below_then ?_ (by with_reducible assumption)) | (with_reducible refine Below.setCell ?_ (by go_size) _))))
  have LV : LO WF W2.heap.size (.slice bk 6 ck) [[⟨0, 3, 5⟩], [], [], [], [], []] := by rw [hWF]; exact (LO.five HV.out hRW (Nat.le_refl _)).keep (by (repeat (first | (with_reducible exact Below.refl _ _) | (with_reducible assumption) | (with_reducible refine below_alloc ?_ _) | (with_reducible refine below_drewN ?_ _) | (with_reducible refine Below.drew ?_) | (with_reducible refine below_then ?_ (by with_reducible assumption)) | (with_reducible refine Below.setCell ?_ (by go_size) _))))
  have HF : Below w.heap.size w WF := by rw [hWF]; exact below_five HB.out (Nat.le_refl _)
  obtain ⟨_, _, e1, _, g1⟩ := LU.cc (by decide) (by decide)
  obtain ⟨_, _, e2, _, g2⟩ := LV.cc (by decide) (by decide)
  cases e1
  cases e2
  have r0 := RF.cell 0 (.int .i64 2) rfl
  have r1 := RF.cell 1 (.int .i64 1) rfl
  have r2 := RF.cell 2 (.int .i64 1) rfl
  have r3 := RF.cell 3 (.slice bm 2 cm) rfl
  have r4 := RF.cell 4 (.slice bk 6 ck) rfl
  refine bodyPost_ret (by simp [results, Tryz.results18, go_sem, r0, r1, r2, r3, r4]; try rfl) rfl ?_
  exact ⟨_, rfl, ⟨bm, bk, cm, ck, rfl, g1, g2⟩, HF⟩

def oneP : Pl := ⟨⟨⟨0, 0, 0⟩, ⟨1, 1, 1⟩⟩, false, false, false⟩
theorem ex_av : avV twoY [0] [0] 2 4 = ([1], [1]) ∧ avE twoY [0] [0] 2 4 = 0 := ⟨by kernel_rfl, by kernel_rfl⟩
theorem ex_soon : soonV twoY oneP [0] [0] 0 2 = 3 ∧ soonE twoY oneP [0] [0] 0 2 = 0 := ⟨by kernel_rfl, by kernel_rfl⟩
set_option maxRecDepth 100000 in set_option maxHeartbeats 4000000 in
theorem law11_one (w : World) : Calls Tryz.prog 19 #[] w (RB w (.agg #[.int .i64 0, .int .i64 0, .int .i64 0, .int .i64 1, .int .i64 1, .int .i64 1, .bool false, .bool false, .bool false])) := by
  go_enter Tryz.func19, Tryz.ntmps19
  go_wp2_with fail
  go_returns
  exact ⟨rfl, by (repeat (first | (with_reducible exact Below.refl _ _) | (with_reducible assumption) | (with_reducible refine below_alloc ?_ _) | (with_reducible refine below_drewN ?_ _) | (with_reducible refine Below.drew ?_) | (with_reducible refine below_then ?_ (by with_reducible assumption)) | (with_reducible refine Below.setCell ?_ (by go_size) _)))⟩
/-- Two sets of one word, laid one after the other. -/
theorem ss_two (W : World) (t : TypeId) (x y : Nat) (hx : x < 18446744073709551616) (hy : y < 18446744073709551616) :
    SS ((W.alloc (.cells #[.int .u64 x] t)).alloc (.cells #[.int .u64 y] t)) (.slice (some ⟨W.heap.size, 0, none⟩) 1 1) [x] ∧ SS ((W.alloc (.cells #[.int .u64 x] t)).alloc (.cells #[.int .u64 y] t)) (.slice (some ⟨W.heap.size + 1, 0, none⟩) 1 1) [y] ∧
    Below W.heap.size W ((W.alloc (.cells #[.int .u64 x] t)).alloc (.cells #[.int .u64 y] t)) := by
  refine ⟨(SS.new1 W t x hx).keep (by (repeat (first | (with_reducible exact Below.refl _ _) | (with_reducible assumption) | (with_reducible refine below_alloc ?_ _) | (with_reducible refine below_drewN ?_ _) | (with_reducible refine Below.drew ?_) | (with_reducible refine below_then ?_ (by with_reducible assumption)) | (with_reducible refine Below.setCell ?_ (by go_size) _)))), ?_, by (repeat (first | (with_reducible exact Below.refl _ _) | (with_reducible assumption) | (with_reducible refine below_alloc ?_ _) | (with_reducible refine below_drewN ?_ _) | (with_reducible refine Below.drew ?_) | (with_reducible refine below_then ?_ (by with_reducible assumption)) | (with_reducible refine Below.setCell ?_ (by go_size) _)))⟩
  have := SS.new1 (W.alloc (.cells #[.int .u64 x] t)) t y hy
  rwa [World.size_alloc] at this
theorem ss_blk {W : World} {B : Nat} {t : TypeId} {x : Nat} (h : Blk W B t #[.int .u64 x]) (hx : x < 18446744073709551616) : SS W (.slice (some ⟨B, 0, none⟩) 1 1) [x] :=
  ⟨_, _, rfl, ⟨fun k v hk => by
    match k, hk with
    | 0, hk => exact ⟨B, 0, rfl, by cases hk; exact h.cell 0 _ rfl⟩
    | k + 1, hk => simp [wcells] at hk, by simp, fun y hy => by simp at hy; omega⟩⟩
theorem ss_two0 (W : World) (t : TypeId) :
    SS ((W.alloc (.cells #[.int .u64 0] t)).alloc (.cells #[.int .u64 0] t)) (.slice (some ⟨W.heap.size, 0, none⟩) 1 1) [0] ∧ SS ((W.alloc (.cells #[.int .u64 0] t)).alloc (.cells #[.int .u64 0] t)) (.slice (some ⟨W.heap.size + 1, 0, none⟩) 1 1) [0] ∧
    Below W.heap.size W ((W.alloc (.cells #[.int .u64 0] t)).alloc (.cells #[.int .u64 0] t)) := ss_two W t 0 0 (by decide) (by decide)
theorem ss_new0 (W : World) (t : TypeId) : SS (W.alloc (.cells #[.int .u64 0] t)) (.slice (some ⟨W.heap.size, 0, none⟩) 1 1) [0] := SS.new1 W t 0 (by decide)
set_option maxRecDepth 100000 in set_option maxHeartbeats 4000000 in
theorem law11_alive (w : World) : Calls Tryz.prog 20 #[] w (RB w (.bool true)) := by
  have N1 := Lib.hid (fun W => law11_some W)
  have N2 := Lib.hid (fun W => law11_one W)
  have B1 := Lib.hid (fun W v a b (h : YS W v twoY) (h1 : SS W a [0]) (h2 : SS W b [0]) => by have := free_Avoid v twoY a b [0] [0] 2 4 W h h1 h2; rw [ex_av.1, ex_av.2] at this; exact this)
  have B2 := Lib.hid (fun W v a b (h : YS W v twoY) (h1 : SS W a [0]) (h2 : SS W b [0]) => show Calls Tryz.prog 14 #[v, .agg #[.int .i64 0, .int .i64 0, .int .i64 0, .int .i64 1, .int .i64 1, .int .i64 1, .bool false, .bool false, .bool false], a, b, .int .i64 0, .int .i64 2] W (RB W (.tuple #[.int .i64 3, .int .i64 0])) from by have := free_Soon v twoY oneP a b [0] [0] 0 2 W h h1 h2; rw [ex_soon.1, ex_soon.2] at this; exact this)
  have E1 := Lib.hid (fun W u v (h : SS W u [1]) (h2 : SS W v [1]) => Calls.rb_eq (SS.same h h2) (show Value.bool (decide ([1] = [1])) = .bool true by simp))
  go_enter Tryz.func20, Tryz.ntmps20
  go_wp2_with fail
  refine (N1.out _).mono ?_
  rintro e w1 ⟨v, rfl, hv, hb1⟩
  obtain ⟨bn, bl, cn, cl, rfl, _⟩ := hv.ex
  have HY := Lib.hid hv
  have HB := Lib.hid hb1
  clear hv hb1
  go_upto_region 2 with fail
  obtain ⟨W1, hW1⟩ : ∃ W1, W1 = w1.alloc (.cells #[.int .i64 twoY.d.x, .int .i64 twoY.d.y, .int .i64 twoY.d.z, (.slice bn twoY.ns.length cn), (.slice bl twoY.ls.length cl)] 26) := ⟨_, rfl⟩
  rw [← hW1]
  have hb2 : Below w1.heap.size w1 W1 := by rw [hW1]; (repeat (first | (with_reducible exact Below.refl _ _) | (with_reducible assumption) | (with_reducible refine below_alloc ?_ _) | (with_reducible refine below_drewN ?_ _) | (with_reducible refine Below.drew ?_) | (with_reducible refine below_then ?_ (by with_reducible assumption)) | (with_reducible refine Below.setCell ?_ (by go_size) _)))
  have YB := Lib.hid (show Blk W1 w1.heap.size 26 #[.int .i64 twoY.d.x, .int .i64 twoY.d.y, .int .i64 twoY.d.z, (.slice bn twoY.ns.length cn), (.slice bl twoY.ls.length cl)] by rw [hW1]; exact Blk.new ..)
  have HY := Lib.hid (HY.out.keep hb2)
  have HB := Lib.hid (below_then HB.out hb2)
  clear hb2 hW1
  (have y0 := YB.out.cell 0 _ rfl; have y1 := YB.out.cell 1 _ rfl; have y2 := YB.out.cell 2 _ rfl; have y3 := YB.out.cell 3 _ rfl; have y4 := YB.out.cell 4 _ rfl)
  obtain ⟨s1, s2, hbs⟩ := ss_two W1 56 0 0 (by decide) (by decide)
  have S1 := Lib.hid s1
  have S2 := Lib.hid s2
  have HBS := Lib.hid hbs
  clear s1 s2 hbs
  go_wp2_with fail
  refine (B1.out _ _ _ _ (HY.out.keep HBS.out) S1.out S2.out).mono ?_
  rintro e w2 ⟨a1, a2, rfl, A1, A2, hb⟩
  have hb' := below_then HBS.out hb
  have YB := Lib.hid (YB.out.below hb')
  have HY := Lib.hid (HY.out.keep hb')
  have HB := Lib.hid (below_then HB.out hb')
  have A1 := Lib.hid A1
  have A2 := Lib.hid A2
  clear hb hb' y0 y1 y2 y3 y4 S1 S2 HBS
  (have y0 := YB.out.cell 0 _ rfl; have y1 := YB.out.cell 1 _ rfl; have y2 := YB.out.cell 2 _ rfl; have y3 := YB.out.cell 3 _ rfl; have y4 := YB.out.cell 4 _ rfl)
  have hly := YB.out.lt
  go_upto_region 3 with fail
  go_cut [6, 7] (fun s6 s7 wx => s6 = .int .i64 3 ∧ s7 = .int .i64 0 ∧ Below w2.heap.size w2 wx)
  case first =>
    go_region_with (first
      | (go_at_call 19; (with_reducible refine (N2.out _).mono ?_); rintro e wo ⟨rfl, hbo⟩; have YBo := YB.out.below (below_then (show Below w2.heap.size w2 _ by (repeat (first | (with_reducible exact Below.refl _ _) | (with_reducible assumption) | (with_reducible refine below_alloc ?_ _) | (with_reducible refine below_drewN ?_ _) | (with_reducible refine Below.drew ?_) | (with_reducible refine below_then ?_ (by with_reducible assumption)) | (with_reducible refine Below.setCell ?_ (by go_size) _)))) hbo); have yo0 := YBo.cell 0 _ rfl; have yo1 := YBo.cell 1 _ rfl; have yo2 := YBo.cell 2 _ rfl; have yo3 := YBo.cell 3 _ rfl; have yo4 := YBo.cell 4 _ rfl; have hlyo := YBo.lt)
      | (go_at_call 14; (with_reducible refine (B2.out _ _ _ _ ?_ ?_ ?_).mono ?_); (focus (exact HY.out.keep (by (repeat (first | (with_reducible exact Below.refl _ _) | (with_reducible assumption) | (with_reducible refine below_alloc ?_ _) | (with_reducible refine below_drewN ?_ _) | (with_reducible refine Below.drew ?_) | (with_reducible refine below_then ?_ (by with_reducible assumption)) | (with_reducible refine Below.setCell ?_ (by go_size) _)))))); (focus (first | exact (ss_two0 _ 56).1 | exact (ss_two0 _ 56).2.1 | exact ss_new0 _ 56 | exact (ss_new0 _ 56).keep (by (repeat (first | (with_reducible exact Below.refl _ _) | (with_reducible assumption) | (with_reducible refine below_alloc ?_ _) | (with_reducible refine below_drewN ?_ _) | (with_reducible refine Below.drew ?_) | (with_reducible refine below_then ?_ (by with_reducible assumption)) | (with_reducible refine Below.setCell ?_ (by go_size) _)))) | exact (ss_two0 _ 56).1.keep (by (repeat (first | (with_reducible exact Below.refl _ _) | (with_reducible assumption) | (with_reducible refine below_alloc ?_ _) | (with_reducible refine below_drewN ?_ _) | (with_reducible refine Below.drew ?_) | (with_reducible refine below_then ?_ (by with_reducible assumption)) | (with_reducible refine Below.setCell ?_ (by go_size) _)))) | exact (ss_two0 _ 56).2.1.keep (by (repeat (first | (with_reducible exact Below.refl _ _) | (with_reducible assumption) | (with_reducible refine below_alloc ?_ _) | (with_reducible refine below_drewN ?_ _) | (with_reducible refine Below.drew ?_) | (with_reducible refine below_then ?_ (by with_reducible assumption)) | (with_reducible refine Below.setCell ?_ (by go_size) _)))))); (focus (first | exact (ss_two0 _ 56).1 | exact (ss_two0 _ 56).2.1 | exact ss_new0 _ 56 | exact (ss_new0 _ 56).keep (by (repeat (first | (with_reducible exact Below.refl _ _) | (with_reducible assumption) | (with_reducible refine below_alloc ?_ _) | (with_reducible refine below_drewN ?_ _) | (with_reducible refine Below.drew ?_) | (with_reducible refine below_then ?_ (by with_reducible assumption)) | (with_reducible refine Below.setCell ?_ (by go_size) _)))) | exact (ss_two0 _ 56).1.keep (by (repeat (first | (with_reducible exact Below.refl _ _) | (with_reducible assumption) | (with_reducible refine below_alloc ?_ _) | (with_reducible refine below_drewN ?_ _) | (with_reducible refine Below.drew ?_) | (with_reducible refine below_then ?_ (by with_reducible assumption)) | (with_reducible refine Below.setCell ?_ (by go_size) _)))) | exact (ss_two0 _ 56).2.1.keep (by (repeat (first | (with_reducible exact Below.refl _ _) | (with_reducible assumption) | (with_reducible refine below_alloc ?_ _) | (with_reducible refine below_drewN ?_ _) | (with_reducible refine Below.drew ?_) | (with_reducible refine below_then ?_ (by with_reducible assumption)) | (with_reducible refine Below.setCell ?_ (by go_size) _)))))); rintro e wz ⟨rfl, hbz⟩; have HZ := below_then (show Below w2.heap.size w2 _ by (repeat (first | (with_reducible exact Below.refl _ _) | (with_reducible assumption) | (with_reducible refine below_alloc ?_ _) | (with_reducible refine below_drewN ?_ _) | (with_reducible refine Below.drew ?_) | (with_reducible refine below_then ?_ (by with_reducible assumption)) | (with_reducible refine Below.setCell ?_ (by go_size) _)))) hbz))
    all_goals
      go_wp2_with fail
      go_meet
      exact ⟨rfl, rfl, HZ⟩
  case rest =>
    obtain ⟨rfl, rfl, hcb⟩ := hcut
    have HA1 := Lib.hid (A1.out.keep hcb)
    have HA2 := Lib.hid (A2.out.keep hcb)
    have HBZ := Lib.hid (below_then HB.out hcb)
    clear hcb
    go_wp2_with fail
    refine (E1.out _ _ _ (HA1.out.keep (by (repeat (first | (with_reducible exact Below.refl _ _) | (with_reducible assumption) | (with_reducible refine below_alloc ?_ _) | (with_reducible refine below_drewN ?_ _) | (with_reducible refine Below.drew ?_) | (with_reducible refine below_then ?_ (by with_reducible assumption)) | (with_reducible refine Below.setCell ?_ (by go_size) _))))) (SS.new1 wc 56 1 (by decide))).mono ?_
    rintro e w4 ⟨rfl, hb⟩
    have hb4 := below_then (show Below wc.heap.size wc _ by (repeat (first | (with_reducible exact Below.refl _ _) | (with_reducible assumption) | (with_reducible refine below_alloc ?_ _) | (with_reducible refine below_drewN ?_ _) | (with_reducible refine Below.drew ?_) | (with_reducible refine below_then ?_ (by with_reducible assumption)) | (with_reducible refine Below.setCell ?_ (by go_size) _)))) hb
    have HA2 := Lib.hid (HA2.out.keep hb4)
    have HBZ := Lib.hid (below_then HBZ.out hb4)
    clear hb hb4
    go_wp2_with fail
    refine (E1.out _ _ _ (HA2.out.keep (by (repeat (first | (with_reducible exact Below.refl _ _) | (with_reducible assumption) | (with_reducible refine below_alloc ?_ _) | (with_reducible refine below_drewN ?_ _) | (with_reducible refine Below.drew ?_) | (with_reducible refine below_then ?_ (by with_reducible assumption)) | (with_reducible refine Below.setCell ?_ (by go_size) _))))) (SS.new1 w4 56 1 (by decide))).mono ?_
    rintro e w5 ⟨rfl, hb⟩
    have HBZ := Lib.hid (below_then HBZ.out (below_then (show Below w4.heap.size w4 _ by (repeat (first | (with_reducible exact Below.refl _ _) | (with_reducible assumption) | (with_reducible refine below_alloc ?_ _) | (with_reducible refine below_drewN ?_ _) | (with_reducible refine Below.drew ?_) | (with_reducible refine below_then ?_ (by with_reducible assumption)) | (with_reducible refine Below.setCell ?_ (by go_size) _)))) hb))
    clear hb
    go_wp2_with fail
    go_returns
    exact ⟨rfl, HBZ.out⟩
end
end Go.Proofs.YtofoenlhbmammaaGreat
