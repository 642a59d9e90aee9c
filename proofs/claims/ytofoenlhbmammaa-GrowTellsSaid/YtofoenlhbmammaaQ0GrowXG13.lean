/- GROW: the chapter's first examples. -/
import Derived.Test.YtofoenlhbmammaaQ0GrowVG13
set_option linter.unusedVariables false
set_option linter.unusedSimpArgs false
namespace Go.Proofs.Ytofoenlhbmammaa

section
open Go.RowKit Go.Shelf

def lineD : V3 := ⟨3, 1, 1⟩
def ofB (b s : Int) : Bx := ⟨⟨b, 0, 0⟩, ⟨s, 1, 1⟩⟩
theorem line_free : frE lineD [2] = 0 ∧ frV lineD [2] = [ofB 0 1, ofB 2 1, ofB 2 2] := by decide +kernel
theorem line_most : mostL lineD [ofB 0 1, ofB 2 1, ofB 2 2] = [ofB 2 2] := by decide +kernel
theorem line_top : topL [ofB 0 1, ofB 2 1, ofB 2 2] = 2 := by decide +kernel
theorem line_grown : gnE lineD [2] (ofB 0 1) = 0 ∧ gnV lineD [2] (ofB 0 1) = ofB 2 2 := by decide +kernel
theorem line_taken : gnE lineD [2] (ofB 1 1) = 80 := by decide +kernel
theorem far_many : frE ⟨5, 13, 1⟩ [0, 0] = 4 := by decide +kernel
theorem line_bad : frE lineD [8] = 8 := by decide +kernel
theorem xs_lit3 (W : World) (t : TypeId) : XS (W.alloc (.cells #[.int .i64 0, .int .i64 0, .int .i64 0, .int .i64 1, .int .i64 1, .int .i64 1, .int .i64 2, .int .i64 0, .int .i64 0, .int .i64 1, .int .i64 1, .int .i64 1, .int .i64 2, .int .i64 0, .int .i64 0, .int .i64 2, .int .i64 1, .int .i64 1] t)) (.slice (some ⟨W.heap.size, 0, none⟩) 3 3) [ofB 0 1, ofB 2 1, ofB 2 2] := ⟨_, 3, rfl, ⟨rd_blk (Blk.new W t _) rfl, by decide⟩, by decide⟩
theorem xs_lit1 (W : World) (t : TypeId) : XS (W.alloc (.cells #[.int .i64 2, .int .i64 0, .int .i64 0, .int .i64 2, .int .i64 1, .int .i64 1] t)) (.slice (some ⟨W.heap.size, 0, none⟩) 1 1) [ofB 2 2] := ⟨_, 1, rfl, ⟨rd_blk (Blk.new W t _) rfl, by decide⟩, by decide⟩
theorem line_Free (W : World) (B : Nat) (h : Blk W B 48 #[.int .u64 2]) : Calls Try.prog 10 #[.agg #[.int .i64 3, .int .i64 1, .int .i64 1], .slice (some ⟨B, 0, none⟩) 1 1] W (RXE W [ofB 0 1, ofB 2 1, ofB 2 2] 0) := by
  have := grow_Free lineD (some ⟨B, 0, none⟩) 1 [2] W (set_blk h (by decide))
  rw [line_free.1, line_free.2] at this
  exact this
theorem line_Most (W : World) (B : Nat) (h : Blk W B 48 #[.int .u64 2]) : Calls Try.prog 16 #[.agg #[.int .i64 3, .int .i64 1, .int .i64 1], .slice (some ⟨B, 0, none⟩) 1 1] W (RXE W [ofB 2 2] 0) := by
  have := grow_Most lineD (some ⟨B, 0, none⟩) 1 [2] W (set_blk h (by decide))
  rw [line_free.1, line_free.2, line_most] at this
  exact this
set_option maxRecDepth 100000 in set_option maxHeartbeats 4000000 in
theorem law13_alive (w : World) : Calls Try.prog 8 #[] w (RB w (.bool true)) := by
  have N1 := Lib.hid (fun W => law13_line W)
  have NF := Lib.hid (fun W B h => line_Free W B h)
  have NM := Lib.hid (fun W B h => line_Most W B h)
  have O1 := Lib.hid (fun b s W => law13_of b s W)
  have S1 := Lib.hid (fun W u v (hu : XS W u [ofB 0 1, ofB 2 1, ofB 2 2]) (hv : XS W v [ofB 0 1, ofB 2 1, ofB 2 2]) => Calls.rb_eq (xs_same hu hv) (show Value.bool _ = .bool true by rw [decide_eq_true rfl]))
  have S2 := Lib.hid (fun W u v (hu : XS W u [ofB 2 2]) (hv : XS W v [ofB 2 2]) => Calls.rb_eq (xs_same hu hv) (show Value.bool _ = .bool true by rw [decide_eq_true rfl]))
  go_enter Try.func8, Try.ntmps8
  go_wp2_with fail
  refine (N1.out _).mono ?_
  rintro e w1 ⟨rfl, hb1⟩
  have HB := Lib.hid hb1
  clear hb1
  go_wp2_with fail
  refine (NF.out _ _ (Blk.new w1 _ _)).mono ?_
  rintro e w2 ⟨v, rfl, ho, hb2⟩
  have HB := Lib.hid (below_then HB.out (below_then (show Below w1.heap.size w1 _ by (repeat (first | (with_reducible exact Below.refl _ _) | (with_reducible assumption) | (with_reducible refine below_alloc ?_ _) | (with_reducible refine below_drewN ?_ _) | (with_reducible refine Below.drew ?_) | (with_reducible refine below_then ?_ (by with_reducible assumption)) | (with_reducible refine Below.setCell ?_ (by go_size) _)))) hb2))
  have HX := Lib.hid (xs_of_own ho (by decide))
  obtain ⟨bv, cv, rfl, _⟩ := own_rd ho
  clear ho hb2
  go_wp2_with fail
  refine (N1.out _).mono ?_
  rintro e w3 ⟨rfl, hb⟩
  have HB := Lib.hid (below_then HB.out hb)
  have HX := Lib.hid (HX.out.keep hb)
  clear hb
  go_wp2_with fail
  refine (NM.out _ _ (Blk.new w3 _ _)).mono ?_
  rintro e w4 ⟨v, rfl, ho, hb⟩
  have hb4 := below_then (show Below w3.heap.size w3 _ by (repeat (first | (with_reducible exact Below.refl _ _) | (with_reducible assumption) | (with_reducible refine below_alloc ?_ _) | (with_reducible refine below_drewN ?_ _) | (with_reducible refine Below.drew ?_) | (with_reducible refine below_then ?_ (by with_reducible assumption)) | (with_reducible refine Below.setCell ?_ (by go_size) _)))) hb
  have HB := Lib.hid (below_then HB.out hb4)
  have HX := Lib.hid (HX.out.keep hb4)
  have HY := Lib.hid (xs_of_own ho (by decide))
  obtain ⟨bu, cu, rfl, _⟩ := own_rd ho
  clear ho hb hb4
  go_wp2_with ((with_reducible refine (O1.out _ _ _).mono ?_); rintro e w5 ⟨rfl, hb⟩; have HB := Lib.hid (below_then HB.out hb); have HX := Lib.hid (HX.out.keep hb); have HY := Lib.hid (HY.out.keep hb); clear hb)
  refine (S1.out _ _ _ (HX.out.keep (by (repeat (first | (with_reducible exact Below.refl _ _) | (with_reducible assumption) | (with_reducible refine below_alloc ?_ _) | (with_reducible refine below_drewN ?_ _) | (with_reducible refine Below.drew ?_) | (with_reducible refine below_then ?_ (by with_reducible assumption)) | (with_reducible refine Below.setCell ?_ (by go_size) _))))) (xs_lit3 w5 27)).mono ?_
  rintro e w6 ⟨rfl, hb⟩
  have hb6 := below_then (show Below w5.heap.size w5 _ by (repeat (first | (with_reducible exact Below.refl _ _) | (with_reducible assumption) | (with_reducible refine below_alloc ?_ _) | (with_reducible refine below_drewN ?_ _) | (with_reducible refine Below.drew ?_) | (with_reducible refine below_then ?_ (by with_reducible assumption)) | (with_reducible refine Below.setCell ?_ (by go_size) _)))) hb
  have HB := Lib.hid (below_then HB.out hb6)
  have HY := Lib.hid (HY.out.keep hb6)
  clear hb hb6 HX
  go_wp2_with ((with_reducible refine (O1.out _ _ _).mono ?_); rintro e w7 ⟨rfl, hb⟩; have HB := Lib.hid (below_then HB.out hb); have HY := Lib.hid (HY.out.keep hb); clear hb)
  refine (S2.out _ _ _ (HY.out.keep (by (repeat (first | (with_reducible exact Below.refl _ _) | (with_reducible assumption) | (with_reducible refine below_alloc ?_ _) | (with_reducible refine below_drewN ?_ _) | (with_reducible refine Below.drew ?_) | (with_reducible refine below_then ?_ (by with_reducible assumption)) | (with_reducible refine Below.setCell ?_ (by go_size) _))))) (xs_lit1 w7 27)).mono ?_
  rintro e w8 ⟨rfl, hb⟩
  have HB := Lib.hid (below_then HB.out (below_then (show Below w7.heap.size w7 _ by (repeat (first | (with_reducible exact Below.refl _ _) | (with_reducible assumption) | (with_reducible refine below_alloc ?_ _) | (with_reducible refine below_drewN ?_ _) | (with_reducible refine Below.drew ?_) | (with_reducible refine below_then ?_ (by with_reducible assumption)) | (with_reducible refine Below.setCell ?_ (by go_size) _)))) hb))
  clear hb
  go_wp2_with fail
  go_returns
  exact ⟨rfl, HB.out⟩
end
end Go.Proofs.Ytofoenlhbmammaa
