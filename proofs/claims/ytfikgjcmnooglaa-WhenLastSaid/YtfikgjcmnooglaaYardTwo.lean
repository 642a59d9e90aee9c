/- YARDS: the chapter's calendars, and first examples. -/
import Derived.Test.YtfikgjcmnooglaaYardX
import Derived.Test.YtfikgjcmnooglaaYardC
import Derived.BigRegion
namespace Go.Proofs.Ytfikgjcmnooglaa

section
open Go.RowKit Go.Shelf

theorem putE_ok_len {c : List Sl} {s : Sl} (h : putE c s = 0) : (putV c s).length ≤ 10000 := by
  have h1 := (putE_0 h).2.2.2
  have h2 := putV_len c s
  omega
/-- New calendars, as they may be read, and an error. -/
def RYS (w : World) (y : Yd) (x : Int) : Ending → World → Prop := fun e w' => ∃ v, e = .returned (.tuple #[v, .int .i64 x]) ∧ YS w' v y ∧ Below w.heap.size w w'
theorem RYS.of {P : Program} {f : FuncId} {args : Array Value} {w : World} {y : Yd} {x : Int} (h : Calls P f args w (RYE w y x)) (h1 : (y.ns.length ≤ 1000 ∧ ∀ c ∈ y.ns, c.length ≤ 10000) ∧ (y.ls.length ≤ 1000 ∧ ∀ c ∈ y.ls, c.length ≤ 10000)) : Calls P f args w (RYS w y x) :=
  h.mono fun e w' ⟨u, v, he, hu, hv, hb⟩ => by
    obtain ⟨b1, k1, rfl, _, g1⟩ := hu.cc h1.1.1 h1.1.2
    obtain ⟨b2, k2, rfl, _, g2⟩ := hv.cc h1.2.1 h1.2.2
    exact ⟨_, he, ⟨b1, b2, k1, k2, rfl, g1, g2⟩, hb⟩
theorem YS.smalls {w : World} {v : Value} {y : Yd} (h : YS w v y) : (y.ns.length ≤ 1000 ∧ ∀ c ∈ y.ns, c.length ≤ 10000) ∧ (y.ls.length ≤ 1000 ∧ ∀ c ∈ y.ls, c.length ≤ 10000) := by
  obtain ⟨bn, bl, cn, cl, e, h1, h2⟩ := h.ex
  exact ⟨⟨h1.many, h1.small⟩, ⟨h2.many, h2.small⟩⟩
theorem y_Put {w : World} {v a b : Value} {y : Yd} {ms ks : List Nat} (s : Sl) (h : YS w v y) (ha : SS w a ms) (hb : SS w b ks) : Calls Try.prog 48 #[v, .int .i64 s.o, a, b, .agg #[.int .i64 s.f, .int .i64 s.t]] w (RYE w (yPutV y ms ks s) (yPutE y ms ks s)) := by
  obtain ⟨bn, bl, cn, cl, rfl, h1, h2⟩ := h.ex
  obtain ⟨bm, cm, rfl, hm⟩ := ha.ex
  obtain ⟨bk, ck, rfl, hk⟩ := hb.ex
  cases hok : y.okB with
  | true => exact cals_Put_go y.d bn bl cn cl y.ns y.ls bm bk cm ck ms ks s w h1 h2 hm hk hok
  | false =>
    have hE : yPutE y ms ks s = 8 := by unfold yPutE; rw [hok]; rfl
    have hV : yPutV y ms ks s = Yd.zero := by unfold yPutV; rw [hE]; rfl
    rw [hE, hV]
    exact cals_Put_bad y.d bn bl cn cl y.ns y.ls bm bk cm ck ms ks s w h1 h2 hok
theorem SS.new1 (W : World) (t : TypeId) (x : Nat) (h : x < 18446744073709551616) : SS (W.alloc (.cells #[.int .u64 (x : Int)] t)) (.slice (some ⟨W.heap.size, 0, none⟩) 1 1) [x] := by
  refine ⟨_, 1, rfl, ⟨fun i v hv => ⟨W.heap.size, 0, rfl, ?_⟩, by simp, fun y hy => by simp at hy; omega⟩⟩
  match i, hv with
  | 0, hv =>
    rw [World.cell?_alloc_new]
    simpa [wcells] using hv
  | i + 1, hv => simp [wcells] at hv
/-! ### the chapter's calendars -/
def twoY : Yd := ⟨⟨2, 1, 1⟩, [[⟨0, 3, 5⟩], []], [[⟨0, 3, 5⟩], [], [], [], [], []]⟩
theorem ex_new : newV ⟨2, 1, 1⟩ = ⟨⟨2, 1, 1⟩, [[], []], [[], [], [], [], [], []]⟩ := by kernel_rfl
theorem ex_newE : V3.err ⟨2, 1, 1⟩ = 0 := by kernel_rfl
theorem ex_putE : yPutE ⟨⟨2, 1, 1⟩, [[], []], [[], [], [], [], [], []]⟩ [1] [1] ⟨0, 3, 5⟩ = 0 := by kernel_rfl
theorem ex_putV : yPutV ⟨⟨2, 1, 1⟩, [[], []], [[], [], [], [], [], []]⟩ [1] [1] ⟨0, 3, 5⟩ = twoY := by kernel_rfl
theorem ex_busy1 : busyV twoY 2 4 = ([1], [1]) ∧ busyE twoY 2 4 = 0 := ⟨by kernel_rfl, by kernel_rfl⟩
theorem ex_busy2 : busyV twoY 3 4 = ([0], [0]) ∧ busyE twoY 3 4 = 0 := ⟨by kernel_rfl, by kernel_rfl⟩
theorem ex_put80 : yPutE twoY [3] [0] ⟨2, 9, 6⟩ = 80 := by kernel_rfl
theorem ex_put8 : yPutE twoY [4] [0] ⟨2, 9, 6⟩ = 8 := by kernel_rfl
theorem ex_put2 : yPutE twoY [0] [0] ⟨2, 9, 0⟩ = 2 := by kernel_rfl
/-- New calendars, as they may be read, and whether all is well. -/
def RYB (w : World) (y : Yd) (x : Bool) : Ending → World → Prop := fun e w' => ∃ v, e = .returned (.tuple #[v, .bool x]) ∧ YS w' v y ∧ Below w.heap.size w w'
set_option maxRecDepth 100000 in set_option maxHeartbeats 4000000 in
theorem law09_two (w : World) : Calls Try.prog 47 #[] w (RYB w twoY true) := by
  obtain ⟨W0, hW0⟩ : ∃ W0, W0 = w.alloc (.cells #[.int .i64 0, .int .i64 0, .int .i64 0, .slice none 0 0, .slice none 0 0] 42) := ⟨_, rfl⟩
  have RB := Lib.hid (show Blk W0 w.heap.size 42 #[.int .i64 0, .int .i64 0, .int .i64 0, .slice none 0 0, .slice none 0 0] by rw [hW0]; exact Blk.new ..)
  have HB := Lib.hid (show Below w.heap.size w W0 by rw [hW0]; (repeat (first | (with_reducible exact Below.refl _ _) | (with_reducible assumption) | (with_reducible refine below_alloc ?_ _) | (with_reducible refine below_drewN ?_ _) | (with_reducible refine Below.drew ?_) | (with_reducible refine below_then ?_ (by with_reducible assumption)) | (with_reducible refine Below.setCell ?_ (by go_size) _))))
  have N1 := Lib.hid (fun W => by have := RYS.of (cals_New ⟨2, 1, 1⟩ W) (by rw [ex_new]; decide); rw [ex_new, ex_newE] at this; exact this)
  have P1 := Lib.hid (fun W v a b (h : YS W v ⟨⟨2, 1, 1⟩, [[], []], [[], [], [], [], [], []]⟩) (ha : SS W a [1]) (hb : SS W b [1]) => by have := y_Put ⟨0, 3, 5⟩ h ha hb; rw [ex_putE, ex_putV] at this; exact this)
  have HW := Lib.hid hW0
  clear hW0
  go_enter Try.func47, Try.ntmps47
  go_upto_region 1 with fail
  rw [← HW.out]
  go_wp2_with fail
  refine (N1.out _).mono ?_
  rintro e w1 ⟨v, rfl, hv, hb1⟩
  obtain ⟨bn, bl, cn, cl, rfl, hn, hl⟩ := hv.ex
  have RB := Lib.hid (RB.out.below hb1)
  have HB := Lib.hid (below_then HB.out hb1)
  have HY := Lib.hid hv
  clear hb1 hn hl hv
  go_wp2_with fail
  obtain ⟨W2, hW2⟩ : ∃ W2, W2 = ((w1.alloc (.cells #[.int .i64 2, .int .i64 1, .int .i64 1, .slice bn 2 cn, .slice bl 6 cl] 42)).alloc (.cells #[.int .u64 1] 82)).alloc (.cells #[.int .u64 1] 82) := ⟨_, rfl⟩
  rw [← hW2]
  have hb2 : Below w1.heap.size w1 W2 := by rw [hW2]; (repeat (first | (with_reducible exact Below.refl _ _) | (with_reducible assumption) | (with_reducible refine below_alloc ?_ _) | (with_reducible refine below_drewN ?_ _) | (with_reducible refine Below.drew ?_) | (with_reducible refine below_then ?_ (by with_reducible assumption)) | (with_reducible refine Below.setCell ?_ (by go_size) _)))
  have S1 : SS W2 (.slice (some ⟨w1.heap.size + 1, 0, none⟩) 1 1) [1] := by
    have := SS.new1 (w1.alloc (.cells #[.int .i64 2, .int .i64 1, .int .i64 1, .slice bn 2 cn, .slice bl 6 cl] 42)) 82 1 (by decide)
    rw [show (w1.alloc (.cells #[.int .i64 2, .int .i64 1, .int .i64 1, .slice bn 2 cn, .slice bl 6 cl] 42)).heap.size = w1.heap.size + 1 by simp] at this
    rw [hW2]
    exact this.keep ((Below.refl _ _).alloc (Nat.le_refl _) _)
  have S2 : SS W2 (.slice (some ⟨w1.heap.size + 1 + 1, 0, none⟩) 1 1) [1] := by
    have := SS.new1 ((w1.alloc (.cells #[.int .i64 2, .int .i64 1, .int .i64 1, .slice bn 2 cn, .slice bl 6 cl] 42)).alloc (.cells #[.int .u64 1] 82)) 82 1 (by decide)
    rw [show ((w1.alloc (.cells #[.int .i64 2, .int .i64 1, .int .i64 1, .slice bn 2 cn, .slice bl 6 cl] 42)).alloc (.cells #[.int .u64 1] 82)).heap.size = w1.heap.size + 1 + 1 by simp] at this
    rw [hW2]
    exact this
  have RB := Lib.hid (RB.out.below hb2)
  have HB := Lib.hid (below_then HB.out hb2)
  refine (P1.out _ _ _ _ (HY.out.keep hb2) S1 S2).mono ?_
  clear hb2 S1 S2 HY hW2
  rintro e w3 ⟨u, v, rfl, hu, hv, hb3⟩
  obtain ⟨bm, cm, rfl⟩ := hu.slice
  obtain ⟨bk, ck, rfl⟩ := hv.slice
  have hRW := RB.out.lt
  have RB := Lib.hid (RB.out.below hb3)
  have HB := Lib.hid (below_then HB.out hb3)
  have HU := Lib.hid hu
  have HV := Lib.hid hv
  clear hb3 hu hv
  unfold twoY at *
  go_upto_region 3 with fail
  obtain ⟨w4, hw4⟩ : ∃ w4, w4 = w3.alloc (.cells #[.int .i64 2, .int .i64 1, .int .i64 1, .slice bm 2 cm, .slice bk 6 ck] 42) := ⟨_, rfl⟩
  rw [← hw4]
  have hb4 : Below w3.heap.size w3 w4 := by rw [hw4]; (repeat (first | (with_reducible exact Below.refl _ _) | (with_reducible assumption) | (with_reducible refine below_alloc ?_ _) | (with_reducible refine below_drewN ?_ _) | (with_reducible refine Below.drew ?_) | (with_reducible refine below_then ?_ (by with_reducible assumption)) | (with_reducible refine Below.setCell ?_ (by go_size) _)))
  have YB := Lib.hid (show Blk w4 w3.heap.size 42 #[.int .i64 2, .int .i64 1, .int .i64 1, .slice bm 2 cm, .slice bk 6 ck] by rw [hw4]; exact Blk.new ..)
  have RB := Lib.hid (RB.out.below hb4)
  have HB := Lib.hid (below_then HB.out hb4)
  have HU := Lib.hid (HU.out.keep hb4)
  have HV := Lib.hid (HV.out.keep hb4)
  clear hb4 hw4
  have y0 := YB.out.cell 0 _ rfl
  have y1 := YB.out.cell 1 _ rfl
  have y2 := YB.out.cell 2 _ rfl
  have y3 := YB.out.cell 3 _ rfl
  have y4 := YB.out.cell 4 _ rfl
  have hYl := YB.out.lt
  have hRl := RB.out.lt
  have q0 := RB.out.cell 0 _ rfl
  have q1 := RB.out.cell 1 _ rfl
  have q2 := RB.out.cell 2 _ rfl
  have q3 := RB.out.cell 3 _ rfl
  have q4 := RB.out.cell 4 _ rfl
  have g0 := RB.out.frozen 0
  have g1 := RB.out.frozen 1
  have g2 := RB.out.frozen 2
  have g3 := RB.out.frozen 3
  have g4 := RB.out.frozen 4
  have hne : w.heap.size ≠ w3.heap.size := fun e => by
    have h1 := YB.out
    have h2 := RB.out
    rw [e] at h2
    unfold Blk at h1 h2
    rw [h1] at h2
    cases h2
  go_region
  obtain ⟨WF, hWF⟩ : ∃ WF, WF = ((((((w4.setCell ⟨w.heap.size, 0, none⟩ (.int .i64 2)).setCell ⟨w.heap.size, 1, none⟩ (.int .i64 1)).setCell ⟨w.heap.size, 2, none⟩ (.int .i64 1)).setCell ⟨w.heap.size, 3, none⟩ (.slice bm 2 cm)).setCell ⟨w.heap.size, 4, none⟩ (.slice bk 6 ck))).drew := ⟨_, rfl⟩
  rw [← hWF]
  have RF : Blk WF w.heap.size 42 #[.int .i64 2, .int .i64 1, .int .i64 1, .slice bm 2 cm, .slice bk 6 ck] := by rw [hWF]; exact RB.out.five'
  have LU : LO WF W2.heap.size (.slice bm 2 cm) [[⟨0, 3, 5⟩], []] := by rw [hWF]; exact (LO.five HU.out hRW (Nat.le_refl _)).keep (by (repeat (first | (with_reducible exact Below.refl _ _) | (with_reducible assumption) | (with_reducible refine below_alloc ?_ _) | (with_reducible refine below_drewN ?_ _) | (with_reducible refine Below.drew ?_) | (with_reducible refine below_then ?_ (by with_reducible assumption)) | (with_reducible refine Below.setCell ?_ (by go_size) _))))
  have LV : LO WF W2.heap.size (.slice bk 6 ck) [[⟨0, 3, 5⟩], [], [], [], [], []] := by rw [hWF]; exact (LO.five HV.out hRW (Nat.le_refl _)).keep (by (repeat (first | (with_reducible exact Below.refl _ _) | (with_reducible assumption) | (with_reducible refine below_alloc ?_ _) | (with_reducible refine below_drewN ?_ _) | (with_reducible refine Below.drew ?_) | (with_reducible refine below_then ?_ (by with_reducible assumption)) | (with_reducible refine Below.setCell ?_ (by go_size) _))))
  have HF : Below w.heap.size w WF := by rw [hWF]; exact (below_five HB.out (Nat.le_refl _)).drew
  obtain ⟨_, _, e1, _, g1⟩ := LU.cc (by decide) (by decide)
  obtain ⟨_, _, e2, _, g2⟩ := LV.cc (by decide) (by decide)
  cases e1
  cases e2
  have r0 := RF.cell 0 (.int .i64 2) rfl
  have r1 := RF.cell 1 (.int .i64 1) rfl
  have r2 := RF.cell 2 (.int .i64 1) rfl
  have r3 := RF.cell 3 (.slice bm 2 cm) rfl
  have r4 := RF.cell 4 (.slice bk 6 ck) rfl
  go_wp2_with fail
  refine bodyPost_ret (by simp [results, Try.results47, go_sem, r0, r1, r2, r3, r4]; try rfl) rfl ?_
  exact ⟨_, rfl, ⟨bm, bk, cm, ck, rfl, g1, g2⟩, HF⟩
end

section
open Go.RowKit Go.Shelf

set_option maxRecDepth 100000 in set_option maxHeartbeats 4000000 in
theorem law09_alive (w : World) : Calls Try.prog 49 #[] w (RB w (.bool true)) := by
  have N1 := Lib.hid (fun W => law09_two W)
  have B1 := Lib.hid (fun W v (h : YS W v twoY) => by have := y_Busy h 2 4; rw [ex_busy1.1, ex_busy1.2] at this; exact this)
  have B2 := Lib.hid (fun W v (h : YS W v twoY) => by have := y_Busy h 3 4; rw [ex_busy2.1, ex_busy2.2] at this; exact this)
  have E1 := Lib.hid (fun W u v (x : List Nat) (h : SS W u x) (h2 : SS W v x) => Calls.rb_eq (h.same h2) (show Value.bool (decide (x = x)) = .bool true by simp))
  go_enter Try.func49, Try.ntmps49
  go_wp2_with fail
  refine (N1.out _).mono ?_
  rintro e w1 ⟨v, rfl, hv, hb1⟩
  obtain ⟨bn, bl, cn, cl, rfl, _⟩ := hv.ex
  have HY := Lib.hid hv
  have HB := Lib.hid hb1
  clear hv hb1
  go_upto_region 2 with fail
  obtain ⟨W1, hW1⟩ : ∃ W1, W1 = w1.alloc (.cells #[.int .i64 twoY.d.x, .int .i64 twoY.d.y, .int .i64 twoY.d.z, (.slice bn twoY.ns.length cn), (.slice bl twoY.ls.length cl)] 42) := ⟨_, rfl⟩
  rw [← hW1]
  have hb2 : Below w1.heap.size w1 W1 := by rw [hW1]; (repeat (first | (with_reducible exact Below.refl _ _) | (with_reducible assumption) | (with_reducible refine below_alloc ?_ _) | (with_reducible refine below_drewN ?_ _) | (with_reducible refine Below.drew ?_) | (with_reducible refine below_then ?_ (by with_reducible assumption)) | (with_reducible refine Below.setCell ?_ (by go_size) _)))
  have YB := Lib.hid (show Blk W1 w1.heap.size 42 #[.int .i64 twoY.d.x, .int .i64 twoY.d.y, .int .i64 twoY.d.z, (.slice bn twoY.ns.length cn), (.slice bl twoY.ls.length cl)] by rw [hW1]; exact Blk.new ..)
  have HY := Lib.hid (HY.out.keep hb2)
  have HB := Lib.hid (below_then HB.out hb2)
  clear hb2 hW1
  (have y0 := YB.out.cell 0 _ rfl; have y1 := YB.out.cell 1 _ rfl; have y2 := YB.out.cell 2 _ rfl; have y3 := YB.out.cell 3 _ rfl; have y4 := YB.out.cell 4 _ rfl)
  go_wp2_with fail
  refine (B1.out _ _ HY.out).mono ?_
  rintro e w2 ⟨a1, a2, rfl, A1, A2, hb⟩
  have YB := Lib.hid (YB.out.below hb)
  have HY := Lib.hid (HY.out.keep hb)
  have HB := Lib.hid (below_then HB.out hb)
  have A1 := Lib.hid A1
  have A2 := Lib.hid A2
  clear hb y0 y1 y2 y3 y4
  (have y0 := YB.out.cell 0 _ rfl; have y1 := YB.out.cell 1 _ rfl; have y2 := YB.out.cell 2 _ rfl; have y3 := YB.out.cell 3 _ rfl; have y4 := YB.out.cell 4 _ rfl)
  go_wp2_with fail
  refine (B2.out _ _ HY.out).mono ?_
  rintro e w3 ⟨c1, c2, rfl, C1, C2, hb⟩
  have A1 := Lib.hid (A1.out.keep hb)
  have A2 := Lib.hid (A2.out.keep hb)
  have C1 := Lib.hid C1
  have C2 := Lib.hid C2
  have HB := Lib.hid (below_then HB.out hb)
  clear hb y0 y1 y2 y3 y4
  go_wp2_with fail
  (refine (E1.out _ _ _ [1] (A1.out.keep ((Below.refl _ _).alloc (Nat.le_refl _) _)) (SS.new1 w3 82 1 (by decide))).mono ?_; rintro e w4 ⟨rfl, hb0⟩; have hb := ((Below.refl (w3).heap.size w3).alloc (Nat.le_refl _) (.cells #[.int .u64 1] 82)).trans (hb0.mono (by simp)); clear hb0; have HB := Lib.hid (below_then HB.out hb))
  have A2 := Lib.hid (A2.out.keep hb)
  have C1 := Lib.hid (C1.out.keep hb)
  have C2 := Lib.hid (C2.out.keep hb)
  clear hb
  go_wp2_with fail
  (refine (E1.out _ _ _ [1] (A2.out.keep ((Below.refl _ _).alloc (Nat.le_refl _) _)) (SS.new1 w4 82 1 (by decide))).mono ?_; rintro e w5 ⟨rfl, hb0⟩; have hb := ((Below.refl (w4).heap.size w4).alloc (Nat.le_refl _) (.cells #[.int .u64 1] 82)).trans (hb0.mono (by simp)); clear hb0; have HB := Lib.hid (below_then HB.out hb))
  have C1 := Lib.hid (C1.out.keep hb)
  have C2 := Lib.hid (C2.out.keep hb)
  clear hb
  go_wp2_with fail
  (refine (E1.out _ _ _ [0] (C1.out.keep ((Below.refl _ _).alloc (Nat.le_refl _) _)) (SS.new1 w5 82 0 (by decide))).mono ?_; rintro e w6 ⟨rfl, hb0⟩; have hb := ((Below.refl (w5).heap.size w5).alloc (Nat.le_refl _) (.cells #[.int .u64 0] 82)).trans (hb0.mono (by simp)); clear hb0; have HB := Lib.hid (below_then HB.out hb))
  have C2 := Lib.hid (C2.out.keep hb)
  clear hb
  go_wp2_with fail
  (refine (E1.out _ _ _ [0] (C2.out.keep ((Below.refl _ _).alloc (Nat.le_refl _) _)) (SS.new1 w6 82 0 (by decide))).mono ?_; rintro e w7 ⟨rfl, hb0⟩; have hb := ((Below.refl (w6).heap.size w6).alloc (Nat.le_refl _) (.cells #[.int .u64 0] 82)).trans (hb0.mono (by simp)); clear hb0; have HB := Lib.hid (below_then HB.out hb))
  clear hb
  go_wp2_with fail
  go_returns
  exact ⟨rfl, HB.out⟩
end
end Go.Proofs.Ytfikgjcmnooglaa
