/- WHEN: the chapter's calendars, and its first examples. -/
import Derived.Test.YtfikgjcmnooglaaWhenCode
import Derived.Test.YtfikgjcmnooglaaInts
namespace Go.Proofs.Ytfikgjcmnooglaa
open Go.RowKit Go.Shelf

theorem mi_Ints {W : World} {u v : Value} {l : List Int} (hu : MIn W u l) (hv : MIn W v l) (hl : l.length ≤ 100000000) : Calls Try.prog 70 #[u, v] W (RB W (.bool true)) := by
  obtain ⟨b, c, rfl, h1⟩ := hu.ex
  obtain ⟨b2, c2, rfl, h2⟩ := hv.ex
  exact Calls.rb_eq (ref02_Ints b b2 c c2 l l W ⟨h1, by omega⟩ ⟨h2, by omega⟩) (show Value.bool (decide (l = l)) = .bool true by simp)
theorem mi_two {W : World} {B : Nat} {f g : Int} {t : TypeId} (h : Blk W B t #[.int .i64 f, .int .i64 g]) (cap : Nat) : MIn W (.slice (some ⟨B, 0, none⟩) 2 cap) [f, g] :=
  ⟨some ⟨B, 0, none⟩, cap, rfl, fun i v hi => by
    match i, hi with
    | 0, hi => exact ⟨B, 0, rfl, by cases hi; exact h.cell 0 _ rfl⟩
    | 1, hi => exact ⟨B, 0, rfl, by cases hi; exact h.cell 1 _ rfl⟩
    | i + 2, hi => simp [wi] at hi⟩
theorem ex_t0 : timesV twoY 0 = [0, 3] ∧ timesE twoY 0 = 0 := ⟨by kernel_rfl, by kernel_rfl⟩
theorem ex_t3 : timesV twoY 3 = [3] ∧ timesE twoY 3 = 0 := ⟨by kernel_rfl, by kernel_rfl⟩
theorem ex_t40 : timesV twoY 1099511627776 = [] ∧ timesE twoY 1099511627776 = 2 := ⟨by kernel_rfl, by kernel_rfl⟩
theorem ex_e5 : endsV twoY 5 = [3] := by kernel_rfl
theorem ex_e6 : endsV twoY 6 = [] := by kernel_rfl
theorem ex_chk : twoY.chk = 0 := by kernel_rfl
theorem ex_last : lastV twoY = 3 := by kernel_rfl
set_option maxRecDepth 100000 in set_option maxHeartbeats 4000000 in
theorem law10_some (w : World) : Calls Try.prog 71 #[] w (RYB w twoY true) := by
  obtain ⟨W0, hW0⟩ : ∃ W0, W0 = w.alloc (.cells #[.int .i64 0, .int .i64 0, .int .i64 0, .slice none 0 0, .slice none 0 0] 42) := ⟨_, rfl⟩
  have RB := Lib.hid (show Blk W0 w.heap.size 42 #[.int .i64 0, .int .i64 0, .int .i64 0, .slice none 0 0, .slice none 0 0] by rw [hW0]; exact Blk.new ..)
  have HB := Lib.hid (show Below w.heap.size w W0 by rw [hW0]; (repeat (first | (with_reducible exact Below.refl _ _) | (with_reducible assumption) | (with_reducible refine below_alloc ?_ _) | (with_reducible refine below_drewN ?_ _) | (with_reducible refine Below.drew ?_) | (with_reducible refine below_then ?_ (by with_reducible assumption)) | (with_reducible refine Below.setCell ?_ (by go_size) _))))
  have N1 := Lib.hid (fun W => by have := RYS.of (cals_New ⟨2, 1, 1⟩ W) (by rw [ex_new]; decide); rw [ex_new, ex_newE] at this; exact this)
  have P1 := Lib.hid (fun W v a b (h : YS W v ⟨⟨2, 1, 1⟩, [[], []], [[], [], [], [], [], []]⟩) (ha : SS W a [1]) (hb : SS W b [1]) => by have := y_Put ⟨0, 3, 5⟩ h ha hb; rw [ex_putE, ex_putV] at this; exact this)
  have HW := Lib.hid hW0
  clear hW0
  go_enter Try.func71, Try.ntmps71
  go_upto_region 1 with fail
  rw [← HW.out]
  go_wp2_with fail
  refine (N1.out _).mono ?_
  rintro e w1 ⟨v, rfl, hv, hb1⟩
  obtain ⟨bn, bl, cn, cl, rfl, hn, hl⟩ := hv.ex
  have RB := Lib.hid (RB.out.below hb1)
  have HB := Lib.hid (below_then HB.out hb1)
  have HY := Lib.hid hv
  clear hb1 hn hl hv
  go_wp2_with fail
  obtain ⟨W2, hW2⟩ : ∃ W2, W2 = ((w1.alloc (.cells #[.int .i64 2, .int .i64 1, .int .i64 1, .slice bn 2 cn, .slice bl 6 cl] 42)).alloc (.cells #[.int .u64 1] 82)).alloc (.cells #[.int .u64 1] 82) := ⟨_, rfl⟩
  rw [← hW2]
  have hb2 : Below w1.heap.size w1 W2 := by rw [hW2]; (repeat (first | (with_reducible exact Below.refl _ _) | (with_reducible assumption) | (with_reducible refine below_alloc ?_ _) | (with_reducible refine below_drewN ?_ _) | (with_reducible refine Below.drew ?_) | (with_reducible refine below_then ?_ (by with_reducible assumption)) | (with_reducible refine Below.setCell ?_ (by go_size) _)))
  have S1 : SS W2 (.slice (some ⟨w1.heap.size + 1, 0, none⟩) 1 1) [1] := by
    have := SS.new1 (w1.alloc (.cells #[.int .i64 2, .int .i64 1, .int .i64 1, .slice bn 2 cn, .slice bl 6 cl] 42)) 82 1 (by decide)
    rw [show (w1.alloc (.cells #[.int .i64 2, .int .i64 1, .int .i64 1, .slice bn 2 cn, .slice bl 6 cl] 42)).heap.size = w1.heap.size + 1 by simp] at this
    rw [hW2]
    exact this.keep ((Below.refl _ _).alloc (Nat.le_refl _) _)
  have S2 : SS W2 (.slice (some ⟨w1.heap.size + 1 + 1, 0, none⟩) 1 1) [1] := by
    have := SS.new1 ((w1.alloc (.cells #[.int .i64 2, .int .i64 1, .int .i64 1, .slice bn 2 cn, .slice bl 6 cl] 42)).alloc (.cells #[.int .u64 1] 82)) 82 1 (by decide)
    rw [show ((w1.alloc (.cells #[.int .i64 2, .int .i64 1, .int .i64 1, .slice bn 2 cn, .slice bl 6 cl] 42)).alloc (.cells #[.int .u64 1] 82)).heap.size = w1.heap.size + 1 + 1 by simp] at this
    rw [hW2]
    exact this
  have RB := Lib.hid (RB.out.below hb2)
  have HB := Lib.hid (below_then HB.out hb2)
  refine (P1.out _ _ _ _ (HY.out.keep hb2) S1 S2).mono ?_
  clear hb2 S1 S2 HY hW2
  rintro e w3 ⟨u, v, rfl, hu, hv, hb3⟩
  obtain ⟨bm, cm, rfl⟩ := hu.slice
  obtain ⟨bk, ck, rfl⟩ := hv.slice
  have hRW := RB.out.lt
  have RB := Lib.hid (RB.out.below hb3)
  have HB := Lib.hid (below_then HB.out hb3)
  have HU := Lib.hid hu
  have HV := Lib.hid hv
  clear hb3 hu hv
  unfold twoY at *
  go_upto_region 3 with fail
  obtain ⟨w4, hw4⟩ : ∃ w4, w4 = w3.alloc (.cells #[.int .i64 2, .int .i64 1, .int .i64 1, .slice bm 2 cm, .slice bk 6 ck] 42) := ⟨_, rfl⟩
  rw [← hw4]
  have hb4 : Below w3.heap.size w3 w4 := by rw [hw4]; (repeat (first | (with_reducible exact Below.refl _ _) | (with_reducible assumption) | (with_reducible refine below_alloc ?_ _) | (with_reducible refine below_drewN ?_ _) | (with_reducible refine Below.drew ?_) | (with_reducible refine below_then ?_ (by with_reducible assumption)) | (with_reducible refine Below.setCell ?_ (by go_size) _)))
  have YB := Lib.hid (show Blk w4 w3.heap.size 42 #[.int .i64 2, .int .i64 1, .int .i64 1, .slice bm 2 cm, .slice bk 6 ck] by rw [hw4]; exact Blk.new ..)
  have RB := Lib.hid (RB.out.below hb4)
  have HB := Lib.hid (below_then HB.out hb4)
  have HU := Lib.hid (HU.out.keep hb4)
  have HV := Lib.hid (HV.out.keep hb4)
  clear hb4 hw4
  have y0 := YB.out.cell 0 _ rfl
  have y1 := YB.out.cell 1 _ rfl
  have y2 := YB.out.cell 2 _ rfl
  have y3 := YB.out.cell 3 _ rfl
  have y4 := YB.out.cell 4 _ rfl
  have hYl := YB.out.lt
  have hRl := RB.out.lt
  have q0 := RB.out.cell 0 _ rfl
  have q1 := RB.out.cell 1 _ rfl
  have q2 := RB.out.cell 2 _ rfl
  have q3 := RB.out.cell 3 _ rfl
  have q4 := RB.out.cell 4 _ rfl
  have g0 := RB.out.frozen 0
  have g1 := RB.out.frozen 1
  have g2 := RB.out.frozen 2
  have g3 := RB.out.frozen 3
  have g4 := RB.out.frozen 4
  have hne : w.heap.size ≠ w3.heap.size := fun e => by
    have h1 := YB.out
    have h2 := RB.out
    rw [e] at h2
    unfold Blk at h1 h2
    rw [h1] at h2
    cases h2
  go_wp2_with fail
  obtain ⟨WF, hWF⟩ : ∃ WF, WF = ((((((w4.setCell ⟨w.heap.size, 0, none⟩ (.int .i64 2)).setCell ⟨w.heap.size, 1, none⟩ (.int .i64 1)).setCell ⟨w.heap.size, 2, none⟩ (.int .i64 1)).setCell ⟨w.heap.size, 3, none⟩ (.slice bm 2 cm)).setCell ⟨w.heap.size, 4, none⟩ (.slice bk 6 ck))) := ⟨_, rfl⟩
  rw [← hWF]
  have RF : Blk WF w.heap.size 42 #[.int .i64 2, .int .i64 1, .int .i64 1, .slice bm 2 cm, .slice bk 6 ck] := by rw [hWF]; exact RB.out.five'
  have LU : LO WF W2.heap.size (.slice bm 2 cm) [[⟨0, 3, 5⟩], []] := by rw [hWF]; exact (LO.five HU.out hRW (Nat.le_refl _)).keep (by (repeat (first | (with_reducible exact Below.refl _ _) | (with_reducible assumption) | (with_reducible refine below_alloc ?_ _) | (with_reducible refine below_drewN ?_ _) | (with_reducible refine Below.drew ?_) | (with_reducible refine below_then ?_ (by with_reducible assumption)) | (with_reducible refine Below.setCell ?_ (by go_size) _))))
  have LV : LO WF W2.heap.size (.slice bk 6 ck) [[⟨0, 3, 5⟩], [], [], [], [], []] := by rw [hWF]; exact (LO.five HV.out hRW (Nat.le_refl _)).keep (by (repeat (first | (with_reducible exact Below.refl _ _) | (with_reducible assumption) | (with_reducible refine below_alloc ?_ _) | (with_reducible refine below_drewN ?_ _) | (with_reducible refine Below.drew ?_) | (with_reducible refine below_then ?_ (by with_reducible assumption)) | (with_reducible refine Below.setCell ?_ (by go_size) _))))
  have HF : Below w.heap.size w WF := by rw [hWF]; exact below_five HB.out (Nat.le_refl _)
  obtain ⟨_, _, e1, _, g1⟩ := LU.cc (by decide) (by decide)
  obtain ⟨_, _, e2, _, g2⟩ := LV.cc (by decide) (by decide)
  cases e1
  cases e2
  have r0 := RF.cell 0 (.int .i64 2) rfl
  have r1 := RF.cell 1 (.int .i64 1) rfl
  have r2 := RF.cell 2 (.int .i64 1) rfl
  have r3 := RF.cell 3 (.slice bm 2 cm) rfl
  have r4 := RF.cell 4 (.slice bk 6 ck) rfl
  refine bodyPost_ret (by simp [results, Try.results71, go_sem, r0, r1, r2, r3, r4]; try rfl) rfl ?_
  exact ⟨_, rfl, ⟨bm, bk, cm, ck, rfl, g1, g2⟩, HF⟩
set_option maxRecDepth 100000 in set_option maxHeartbeats 4000000 in
theorem law10_alive (w : World) : Calls Try.prog 72 #[] w (RB w (.bool true)) := by
  have N1 := Lib.hid (fun W => law10_some W)
  have B1 := Lib.hid (fun W v (h : YS W v twoY) => by have := when_Times 0 v twoY W h; rw [ex_t0.1, ex_t0.2] at this; exact this)
  have B2 := Lib.hid (fun W v (h : YS W v twoY) => by have := when_Times 3 v twoY W h; rw [ex_t3.1, ex_t3.2] at this; exact this)
  have E1 := Lib.hid (fun W u v (h : MIn W u [0, 3]) (h2 : MIn W v [0, 3]) => mi_Ints h h2 (by decide))
  have E2 := Lib.hid (fun W u v (h : MIn W u [3]) (h2 : MIn W v [3]) => mi_Ints h h2 (by decide))
  go_enter Try.func72, Try.ntmps72
  go_wp2_with fail
  refine (N1.out _).mono ?_
  rintro e w1 ⟨v, rfl, hv, hb1⟩
  obtain ⟨bn, bl, cn, cl, rfl, _⟩ := hv.ex
  have HY := Lib.hid hv
  have HB := Lib.hid hb1
  clear hv hb1
  go_upto_region 2 with fail
  obtain ⟨W1, hW1⟩ : ∃ W1, W1 = w1.alloc (.cells #[.int .i64 twoY.d.x, .int .i64 twoY.d.y, .int .i64 twoY.d.z, (.slice bn twoY.ns.length cn), (.slice bl twoY.ls.length cl)] 42) := ⟨_, rfl⟩
  rw [← hW1]
  have hb2 : Below w1.heap.size w1 W1 := by rw [hW1]; (repeat (first | (with_reducible exact Below.refl _ _) | (with_reducible assumption) | (with_reducible refine below_alloc ?_ _) | (with_reducible refine below_drewN ?_ _) | (with_reducible refine Below.drew ?_) | (with_reducible refine below_then ?_ (by with_reducible assumption)) | (with_reducible refine Below.setCell ?_ (by go_size) _)))
  have YB := Lib.hid (show Blk W1 w1.heap.size 42 #[.int .i64 twoY.d.x, .int .i64 twoY.d.y, .int .i64 twoY.d.z, (.slice bn twoY.ns.length cn), (.slice bl twoY.ls.length cl)] by rw [hW1]; exact Blk.new ..)
  have HY := Lib.hid (HY.out.keep hb2)
  have HB := Lib.hid (below_then HB.out hb2)
  clear hb2 hW1
  (have y0 := YB.out.cell 0 _ rfl; have y1 := YB.out.cell 1 _ rfl; have y2 := YB.out.cell 2 _ rfl; have y3 := YB.out.cell 3 _ rfl; have y4 := YB.out.cell 4 _ rfl)
  go_wp2_with fail
  refine (B1.out _ _ HY.out).mono ?_
  rintro e w2 ⟨a1, rfl, A1, hb⟩
  have YB := Lib.hid (YB.out.below hb)
  have HY := Lib.hid (HY.out.keep hb)
  have HB := Lib.hid (below_then HB.out hb)
  have A1 := Lib.hid A1
  clear hb y0 y1 y2 y3 y4
  (have y0 := YB.out.cell 0 _ rfl; have y1 := YB.out.cell 1 _ rfl; have y2 := YB.out.cell 2 _ rfl; have y3 := YB.out.cell 3 _ rfl; have y4 := YB.out.cell 4 _ rfl)
  go_wp2_with fail
  refine (B2.out _ _ HY.out).mono ?_
  rintro e w3 ⟨c1, rfl, C1, hb⟩
  have A1 := Lib.hid (A1.out.keep hb)
  have HB := Lib.hid (below_then HB.out hb)
  have C1 := Lib.hid C1
  clear hb y0 y1 y2 y3 y4 YB HY
  go_wp2_with fail
  refine (E1.out _ _ _ (A1.out.keep (by (repeat (first | (with_reducible exact Below.refl _ _) | (with_reducible assumption) | (with_reducible refine below_alloc ?_ _) | (with_reducible refine below_drewN ?_ _) | (with_reducible refine Below.drew ?_) | (with_reducible refine below_then ?_ (by with_reducible assumption)) | (with_reducible refine Below.setCell ?_ (by go_size) _))))) (mi_two (Blk.new ..) _)).mono ?_
  rintro e w4 ⟨rfl, hb⟩
  have hb2 := below_then (show Below w3.heap.size w3 (w3.alloc (.cells #[.int .i64 0, .int .i64 3] 3)) by (repeat (first | (with_reducible exact Below.refl _ _) | (with_reducible assumption) | (with_reducible refine below_alloc ?_ _) | (with_reducible refine below_drewN ?_ _) | (with_reducible refine Below.drew ?_) | (with_reducible refine below_then ?_ (by with_reducible assumption)) | (with_reducible refine Below.setCell ?_ (by go_size) _)))) hb
  have C1 := Lib.hid (C1.out.keep hb2)
  have HB := Lib.hid (below_then HB.out hb2)
  clear hb hb2
  go_wp2_with fail
  refine (E2.out _ _ _ (C1.out.keep (by (repeat (first | (with_reducible exact Below.refl _ _) | (with_reducible assumption) | (with_reducible refine below_alloc ?_ _) | (with_reducible refine below_drewN ?_ _) | (with_reducible refine Below.drew ?_) | (with_reducible refine below_then ?_ (by with_reducible assumption)) | (with_reducible refine Below.setCell ?_ (by go_size) _))))) (mi_one (Blk.new ..) _)).mono ?_
  rintro e w5 ⟨rfl, hb⟩
  have HB := Lib.hid (below_then (below_then HB.out (show Below w4.heap.size w4 (w4.alloc (.cells #[.int .i64 3] 3)) by (repeat (first | (with_reducible exact Below.refl _ _) | (with_reducible assumption) | (with_reducible refine below_alloc ?_ _) | (with_reducible refine below_drewN ?_ _) | (with_reducible refine Below.drew ?_) | (with_reducible refine below_then ?_ (by with_reducible assumption)) | (with_reducible refine Below.setCell ?_ (by go_size) _))))) hb)
  clear hb
  go_wp2_with fail
  go_returns
  exact ⟨rfl, HB.out⟩
end Go.Proofs.Ytfikgjcmnooglaa
