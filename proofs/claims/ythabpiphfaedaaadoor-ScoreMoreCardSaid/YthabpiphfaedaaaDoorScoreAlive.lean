/- LAW 14: the chapter's first examples stand. -/
import Derived.Test.YthabpiphfaedaaaDoorScoreC
import Derived.Test.YthabpiphfaedaaaDoorSetAlive
namespace Go.Proofs.YthabpiphfaedaaaDoor
open Go.RowKit Go.Shelf

def dSome : V3 := ⟨3, 2, 1⟩
theorem exO1 : openE dSome [1] [2] = 0 ∧ openV dSome [1] [2] = 1 := by decide +kernel
theorem exO2 : openE dSome [1] [8] = 0 ∧ openV dSome [1] [8] = 2 := by decide +kernel
theorem exO3 : openE dSome [7] [56] = 0 ∧ openV dSome [7] [56] = 6 := by decide +kernel
theorem fit1 (x : Nat) (h : x < 100) : W64 [x] := by intro y hy; simp at hy; omega
set_option maxRecDepth 100000 in set_option maxHeartbeats 4000000 in
theorem law14_some (w : World) : Calls Tryd.prog 32 #[] w (RB w (.agg #[.int .i64 3, .int .i64 2, .int .i64 1])) := by
  go_enter Tryd.func32, Tryd.ntmps32
  go_wp2_with fail
  go_returns
  exact ⟨rfl, by (repeat (first | (with_reducible exact Below.refl _ _) | (with_reducible assumption) | (with_reducible refine below_alloc ?_ _) | (with_reducible refine below_drewN ?_ _) | (with_reducible refine Below.drew ?_) | (with_reducible refine below_then ?_ (by with_reducible assumption)) | (with_reducible refine Below.setCell ?_ (by go_size) _)))⟩
theorem open_lit (x y : Nat) (z : Int) (W w : World) (hx : x < 100) (hy : y < 100) (hT : TabAt 0 Lib.deBruijn64tab w) (hg : 0 < w.heap.size) (hw : Below w.heap.size w W) (h : openE dSome [x] [y] = 0 ∧ openV dSome [x] [y] = z) :
    Calls Tryd.prog 24 #[.agg #[.int .i64 3, .int .i64 2, .int .i64 1], .slice (some ⟨W.heap.size, 0, none⟩) 1 1, .slice (some ⟨W.heap.size + 1, 0, none⟩) 1 1] ((W.alloc (.cells #[.int .u64 (x : Int)] 63)).alloc (.cells #[.int .u64 (y : Int)] 63)) (RB ((W.alloc (.cells #[.int .u64 (x : Int)] 63)).alloc (.cells #[.int .u64 (y : Int)] 63)) (.tuple #[.int .i64 z, .int .i64 0])) := by
  have hb2 : Below w.heap.size w ((W.alloc (.cells #[.int .u64 (x : Int)] 63)).alloc (.cells #[.int .u64 (y : Int)] 63)) := below_alloc (below_alloc hw _) _
  have hT2 := tab_keep' hT hg hb2
  have s1 := (sin_new W [x] 63 (by simp) (fit1 x hx)).keep (below_alloc (Below.refl (W.alloc (.cells (wcells [x]).toArray 63)).heap.size _) (.cells (wcells [y]).toArray 63))
  have s2 := sin_new (W.alloc (.cells (wcells [x]).toArray 63)) [y] 63 (by simp) (fit1 y hy)
  rw [World.size_alloc] at s2
  have := score_Open dSome _ _ 1 1 [x] [y] _ s1 s2 hT2.1 hT2.2
  rw [h.1, h.2] at this
  exact this
set_option maxRecDepth 100000 in set_option maxHeartbeats 4000000 in
theorem law14_alive (w : World) (hT : TabAt 0 Lib.deBruijn64tab w) (hg : 0 < w.heap.size) :
    Calls Tryd.prog 23 #[] w (RB w (.bool true)) := by
  have HT := Lib.hid hT
  clear hT
  go_enter Tryd.func23, Tryd.ntmps23
  go_wp2_with ((with_reducible refine (law14_some _).mono ?_); rintro e w1 ⟨rfl, hB⟩)
  refine (open_lit 1 2 1 _ w (by decide) (by decide) HT.out hg hB exO1).mono ?_
  rintro e w2 ⟨rfl, hb1⟩
  have hB2 := below_then (below_alloc (below_alloc hB _) _) hb1
  clear hb1 hB
  go_wp2_with ((with_reducible refine (law14_some _).mono ?_); rintro e w3 ⟨rfl, hb3⟩; have hB3 := below_then hB2 hb3)
  refine (open_lit 1 8 2 _ w (by decide) (by decide) HT.out hg hB3 exO2).mono ?_
  rintro e w4 ⟨rfl, hb1⟩
  have hB4 := below_then (below_alloc (below_alloc hB3 _) _) hb1
  clear hb1 hb3 hB3 hB2
  go_wp2_with ((with_reducible refine (law14_some _).mono ?_); rintro e w5 ⟨rfl, hb5⟩; have hB5 := below_then hB4 hb5)
  refine (open_lit 7 56 6 _ w (by decide) (by decide) HT.out hg hB5 exO3).mono ?_
  rintro e w6 ⟨rfl, hb1⟩
  have hB6 := below_then (below_alloc (below_alloc hB5 _) _) hb1
  clear hb1 hb5 hB5 hB4
  go_wp2_with fail
  go_returns
  exact ⟨rfl, hB6⟩
end Go.Proofs.YthabpiphfaedaaaDoor
