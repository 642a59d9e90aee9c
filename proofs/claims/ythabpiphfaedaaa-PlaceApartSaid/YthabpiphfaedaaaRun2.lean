/- WIRES: the cables of a run, all told. -/
import Derived.Test.YthabpiphfaedaaaRun
namespace Go.Proofs.Ythabpiphfaedaaa
open Go.RowKit Go.Shelf

def V3.runE (d : V3) (axis m long : Int) : Int := if d.askE axis m = 0 then if 1 ≤ long ∧ long ≤ d.at axis.toNat then 0 else 2 else d.askE axis m
def V3.runV (d : V3) (axis m long : Int) (torus : Bool) : List Int := if d.runE axis m long = 0 ∧ 1 < long then sorted (d.links axis.toNat m (if torus then (d.at axis.toNat).toNat else (long - 1).toNat)) else []
set_option maxRecDepth 100000 in set_option maxHeartbeats 4000000 in
theorem wire_Run_bad (d : V3) (axis m long : Int) (torus : Bool) (w : World) (h : d.askE axis m ≠ 0) :
    Calls Try.prog 60 #[.agg #[.int .i64 d.x, .int .i64 d.y, .int .i64 d.z], .int .i64 axis, .int .i64 m, .int .i64 long, .bool torus] w (RLE w [] (d.askE axis m)) := by
  have HA := Lib.hid (fun W => wire_asked d axis m W)
  have g1 : (d.askE axis m == 0) = false := by simpa using h
  have g2 : (d.askE axis m != 0) = true := by simpa using h
  clear h
  generalize d.askE axis m = E at *
  (go_enter Try.func60, Try.ntmps60; go_wp2_with fail; refine (HA.out _).mono ?_; rintro e w1 ⟨rfl, hb1⟩; have BD := Lib.hid (((Blk.new w 23 #[.int .i64 d.x, .int .i64 d.y, .int .i64 d.z]).below hb1).dims); have HB := Lib.hid (below_then (show Below w.heap.size w (w.alloc (.cells #[.int .i64 d.x, .int .i64 d.y, .int .i64 d.z] 23)) by (repeat (first | (with_reducible exact Below.refl _ _) | (with_reducible assumption) | (with_reducible refine below_alloc ?_ _) | (with_reducible refine below_drewN ?_ _) | (with_reducible refine Below.drew ?_) | (with_reducible refine below_then ?_ (by with_reducible assumption)) | (with_reducible refine Below.setCell ?_ (by go_size) _)))) hb1); clear hb1; (have hlt := BD.out.lt; obtain ⟨d0, d1, d2⟩ := BD.out; go_wp2_with fail; clear d0 d1 d2 hlt); go_returns; exact rle_nil _ HB.out)
set_option maxRecDepth 100000 in set_option maxHeartbeats 4000000 in
theorem wire_Run_no0 (d : V3) (m long : Int) (torus : Bool) (w : World) (h : d.askE 0 m = 0) (hl : ¬ (1 ≤ long ∧ long ≤ d.x)) :
    Calls Try.prog 60 #[.agg #[.int .i64 d.x, .int .i64 d.y, .int .i64 d.z], .int .i64 0, .int .i64 m, .int .i64 long, .bool torus] w (RLE w [] 2) := by
  have HA := Lib.hid (fun W => by have := wire_asked d 0 m W; rw [h] at this; exact this)
  clear h
  by_cases h1 : long < 1
  · have d1 : decide (long < 1) = true := decide_eq_true h1
    clear hl
    (go_enter Try.func60, Try.ntmps60; go_wp2_with fail; refine (HA.out _).mono ?_; rintro e w1 ⟨rfl, hb1⟩; have BD := Lib.hid (((Blk.new w 23 #[.int .i64 d.x, .int .i64 d.y, .int .i64 d.z]).below hb1).dims); have HB := Lib.hid (below_then (show Below w.heap.size w (w.alloc (.cells #[.int .i64 d.x, .int .i64 d.y, .int .i64 d.z] 23)) by (repeat (first | (with_reducible exact Below.refl _ _) | (with_reducible assumption) | (with_reducible refine below_alloc ?_ _) | (with_reducible refine below_drewN ?_ _) | (with_reducible refine Below.drew ?_) | (with_reducible refine below_then ?_ (by with_reducible assumption)) | (with_reducible refine Below.setCell ?_ (by go_size) _)))) hb1); clear hb1; (have hlt := BD.out.lt; obtain ⟨d0, d1, d2⟩ := BD.out; go_wp2_with fail; clear d0 d1 d2 hlt); go_returns; exact rle_nil _ HB.out)
  · have d1 : decide (long < 1) = false := decide_eq_false h1
    have d2 : decide (d.x < long) = true := decide_eq_true (by omega)
    clear hl
    (go_enter Try.func60, Try.ntmps60; go_wp2_with fail; refine (HA.out _).mono ?_; rintro e w1 ⟨rfl, hb1⟩; have BD := Lib.hid (((Blk.new w 23 #[.int .i64 d.x, .int .i64 d.y, .int .i64 d.z]).below hb1).dims); have HB := Lib.hid (below_then (show Below w.heap.size w (w.alloc (.cells #[.int .i64 d.x, .int .i64 d.y, .int .i64 d.z] 23)) by (repeat (first | (with_reducible exact Below.refl _ _) | (with_reducible assumption) | (with_reducible refine below_alloc ?_ _) | (with_reducible refine below_drewN ?_ _) | (with_reducible refine Below.drew ?_) | (with_reducible refine below_then ?_ (by with_reducible assumption)) | (with_reducible refine Below.setCell ?_ (by go_size) _)))) hb1); clear hb1; (have hlt := BD.out.lt; obtain ⟨d0, d1, d2⟩ := BD.out; go_wp2_with fail; clear d0 d1 d2 hlt); go_returns; exact rle_nil _ HB.out)
set_option maxRecDepth 100000 in set_option maxHeartbeats 4000000 in
theorem wire_Run_one0 (d : V3) (m : Int) (torus : Bool) (w : World) (h : d.askE 0 m = 0) (hl : 1 ≤ d.x) :
    Calls Try.prog 60 #[.agg #[.int .i64 d.x, .int .i64 d.y, .int .i64 d.z], .int .i64 0, .int .i64 m, .int .i64 1, .bool torus] w (RLE w [] 0) := by
  have HA := Lib.hid (fun W => by have := wire_asked d 0 m W; rw [h] at this; exact this)
  have d2 : decide (d.x < 1) = false := decide_eq_false (by omega)
  clear h
  (go_enter Try.func60, Try.ntmps60; go_wp2_with fail; refine (HA.out _).mono ?_; rintro e w1 ⟨rfl, hb1⟩; have BD := Lib.hid (((Blk.new w 23 #[.int .i64 d.x, .int .i64 d.y, .int .i64 d.z]).below hb1).dims); have HB := Lib.hid (below_then (show Below w.heap.size w (w.alloc (.cells #[.int .i64 d.x, .int .i64 d.y, .int .i64 d.z] 23)) by (repeat (first | (with_reducible exact Below.refl _ _) | (with_reducible assumption) | (with_reducible refine below_alloc ?_ _) | (with_reducible refine below_drewN ?_ _) | (with_reducible refine Below.drew ?_) | (with_reducible refine below_then ?_ (by with_reducible assumption)) | (with_reducible refine Below.setCell ?_ (by go_size) _)))) hb1); clear hb1; (have hlt := BD.out.lt; obtain ⟨d0, d1, d2⟩ := BD.out; go_wp2_with fail; clear d0 d1 d2 hlt); go_returns; exact rle_nil _ HB.out)
theorem wire_Run_ax0 (d : V3) (m long : Int) (torus : Bool) (w : World) (h : d.askE 0 m = 0) :
    Calls Try.prog 60 #[.agg #[.int .i64 d.x, .int .i64 d.y, .int .i64 d.z], .int .i64 0, .int .i64 m, .int .i64 long, .bool torus] w (RLE w (d.runV 0 m long torus) (d.runE 0 m long)) := by
  obtain ⟨hd, _, m0, m1⟩ := V3.askE_0 h
  have hE : d.runE 0 m long = if 1 ≤ long ∧ long ≤ d.x then 0 else 2 := by rw [V3.runE, if_pos h]; rfl
  by_cases hl : 1 ≤ long ∧ long ≤ d.x
  · have e0 : d.runE 0 m long = 0 := hE.trans (if_pos hl)
    by_cases h1 : long = 1
    · subst h1
      rw [show d.runV 0 m 1 torus = [] from if_neg (by omega), e0]
      exact wire_Run_one0 d m torus w h hl.2
    · rw [show d.runV 0 m long torus = sorted (d.links 0 m (if torus then (d.x).toNat else (long - 1).toNat)) from if_pos ⟨e0, by omega⟩, e0]
      refine wire_Run0 d m long torus _ w hd m0 m1 (by omega) hl.2 ?_
      cases torus
      · exact .inr ⟨rfl, by show (((long - 1).toNat : Nat) : Int) = long - 1; omega⟩
      · exact .inl ⟨rfl, by show (((d.x).toNat : Nat) : Int) = d.x; omega⟩
  · have e0 : d.runE 0 m long = 2 := hE.trans (if_neg hl)
    rw [show d.runV 0 m long torus = [] from if_neg (by omega), e0]
    exact wire_Run_no0 d m long torus w h hl
set_option maxRecDepth 100000 in set_option maxHeartbeats 4000000 in
theorem wire_Run_no1 (d : V3) (m long : Int) (torus : Bool) (w : World) (h : d.askE 1 m = 0) (hl : ¬ (1 ≤ long ∧ long ≤ d.y)) :
    Calls Try.prog 60 #[.agg #[.int .i64 d.x, .int .i64 d.y, .int .i64 d.z], .int .i64 1, .int .i64 m, .int .i64 long, .bool torus] w (RLE w [] 2) := by
  have HA := Lib.hid (fun W => by have := wire_asked d 1 m W; rw [h] at this; exact this)
  clear h
  by_cases h1 : long < 1
  · have d1 : decide (long < 1) = true := decide_eq_true h1
    clear hl
    (go_enter Try.func60, Try.ntmps60; go_wp2_with fail; refine (HA.out _).mono ?_; rintro e w1 ⟨rfl, hb1⟩; have BD := Lib.hid (((Blk.new w 23 #[.int .i64 d.x, .int .i64 d.y, .int .i64 d.z]).below hb1).dims); have HB := Lib.hid (below_then (show Below w.heap.size w (w.alloc (.cells #[.int .i64 d.x, .int .i64 d.y, .int .i64 d.z] 23)) by (repeat (first | (with_reducible exact Below.refl _ _) | (with_reducible assumption) | (with_reducible refine below_alloc ?_ _) | (with_reducible refine below_drewN ?_ _) | (with_reducible refine Below.drew ?_) | (with_reducible refine below_then ?_ (by with_reducible assumption)) | (with_reducible refine Below.setCell ?_ (by go_size) _)))) hb1); clear hb1; (have hlt := BD.out.lt; obtain ⟨d0, d1, d2⟩ := BD.out; go_wp2_with fail; clear d0 d1 d2 hlt); go_returns; exact rle_nil _ HB.out)
  · have d1 : decide (long < 1) = false := decide_eq_false h1
    have d2 : decide (d.y < long) = true := decide_eq_true (by omega)
    clear hl
    (go_enter Try.func60, Try.ntmps60; go_wp2_with fail; refine (HA.out _).mono ?_; rintro e w1 ⟨rfl, hb1⟩; have BD := Lib.hid (((Blk.new w 23 #[.int .i64 d.x, .int .i64 d.y, .int .i64 d.z]).below hb1).dims); have HB := Lib.hid (below_then (show Below w.heap.size w (w.alloc (.cells #[.int .i64 d.x, .int .i64 d.y, .int .i64 d.z] 23)) by (repeat (first | (with_reducible exact Below.refl _ _) | (with_reducible assumption) | (with_reducible refine below_alloc ?_ _) | (with_reducible refine below_drewN ?_ _) | (with_reducible refine Below.drew ?_) | (with_reducible refine below_then ?_ (by with_reducible assumption)) | (with_reducible refine Below.setCell ?_ (by go_size) _)))) hb1); clear hb1; (have hlt := BD.out.lt; obtain ⟨d0, d1, d2⟩ := BD.out; go_wp2_with fail; clear d0 d1 d2 hlt); go_returns; exact rle_nil _ HB.out)
set_option maxRecDepth 100000 in set_option maxHeartbeats 4000000 in
theorem wire_Run_one1 (d : V3) (m : Int) (torus : Bool) (w : World) (h : d.askE 1 m = 0) (hl : 1 ≤ d.y) :
    Calls Try.prog 60 #[.agg #[.int .i64 d.x, .int .i64 d.y, .int .i64 d.z], .int .i64 1, .int .i64 m, .int .i64 1, .bool torus] w (RLE w [] 0) := by
  have HA := Lib.hid (fun W => by have := wire_asked d 1 m W; rw [h] at this; exact this)
  have d2 : decide (d.y < 1) = false := decide_eq_false (by omega)
  clear h
  (go_enter Try.func60, Try.ntmps60; go_wp2_with fail; refine (HA.out _).mono ?_; rintro e w1 ⟨rfl, hb1⟩; have BD := Lib.hid (((Blk.new w 23 #[.int .i64 d.x, .int .i64 d.y, .int .i64 d.z]).below hb1).dims); have HB := Lib.hid (below_then (show Below w.heap.size w (w.alloc (.cells #[.int .i64 d.x, .int .i64 d.y, .int .i64 d.z] 23)) by (repeat (first | (with_reducible exact Below.refl _ _) | (with_reducible assumption) | (with_reducible refine below_alloc ?_ _) | (with_reducible refine below_drewN ?_ _) | (with_reducible refine Below.drew ?_) | (with_reducible refine below_then ?_ (by with_reducible assumption)) | (with_reducible refine Below.setCell ?_ (by go_size) _)))) hb1); clear hb1; (have hlt := BD.out.lt; obtain ⟨d0, d1, d2⟩ := BD.out; go_wp2_with fail; clear d0 d1 d2 hlt); go_returns; exact rle_nil _ HB.out)
theorem wire_Run_ax1 (d : V3) (m long : Int) (torus : Bool) (w : World) (h : d.askE 1 m = 0) :
    Calls Try.prog 60 #[.agg #[.int .i64 d.x, .int .i64 d.y, .int .i64 d.z], .int .i64 1, .int .i64 m, .int .i64 long, .bool torus] w (RLE w (d.runV 1 m long torus) (d.runE 1 m long)) := by
  obtain ⟨hd, _, m0, m1⟩ := V3.askE_0 h
  have hE : d.runE 1 m long = if 1 ≤ long ∧ long ≤ d.y then 0 else 2 := by rw [V3.runE, if_pos h]; rfl
  by_cases hl : 1 ≤ long ∧ long ≤ d.y
  · have e0 : d.runE 1 m long = 0 := hE.trans (if_pos hl)
    by_cases h1 : long = 1
    · subst h1
      rw [show d.runV 1 m 1 torus = [] from if_neg (by omega), e0]
      exact wire_Run_one1 d m torus w h hl.2
    · rw [show d.runV 1 m long torus = sorted (d.links 1 m (if torus then (d.y).toNat else (long - 1).toNat)) from if_pos ⟨e0, by omega⟩, e0]
      refine wire_Run1 d m long torus _ w hd m0 m1 (by omega) hl.2 ?_
      cases torus
      · exact .inr ⟨rfl, by show (((long - 1).toNat : Nat) : Int) = long - 1; omega⟩
      · exact .inl ⟨rfl, by show (((d.y).toNat : Nat) : Int) = d.y; omega⟩
  · have e0 : d.runE 1 m long = 2 := hE.trans (if_neg hl)
    rw [show d.runV 1 m long torus = [] from if_neg (by omega), e0]
    exact wire_Run_no1 d m long torus w h hl
set_option maxRecDepth 100000 in set_option maxHeartbeats 4000000 in
theorem wire_Run_no2 (d : V3) (m long : Int) (torus : Bool) (w : World) (h : d.askE 2 m = 0) (hl : ¬ (1 ≤ long ∧ long ≤ d.z)) :
    Calls Try.prog 60 #[.agg #[.int .i64 d.x, .int .i64 d.y, .int .i64 d.z], .int .i64 2, .int .i64 m, .int .i64 long, .bool torus] w (RLE w [] 2) := by
  have HA := Lib.hid (fun W => by have := wire_asked d 2 m W; rw [h] at this; exact this)
  clear h
  by_cases h1 : long < 1
  · have d1 : decide (long < 1) = true := decide_eq_true h1
    clear hl
    (go_enter Try.func60, Try.ntmps60; go_wp2_with fail; refine (HA.out _).mono ?_; rintro e w1 ⟨rfl, hb1⟩; have BD := Lib.hid (((Blk.new w 23 #[.int .i64 d.x, .int .i64 d.y, .int .i64 d.z]).below hb1).dims); have HB := Lib.hid (below_then (show Below w.heap.size w (w.alloc (.cells #[.int .i64 d.x, .int .i64 d.y, .int .i64 d.z] 23)) by (repeat (first | (with_reducible exact Below.refl _ _) | (with_reducible assumption) | (with_reducible refine below_alloc ?_ _) | (with_reducible refine below_drewN ?_ _) | (with_reducible refine Below.drew ?_) | (with_reducible refine below_then ?_ (by with_reducible assumption)) | (with_reducible refine Below.setCell ?_ (by go_size) _)))) hb1); clear hb1; (have hlt := BD.out.lt; obtain ⟨d0, d1, d2⟩ := BD.out; go_wp2_with fail; clear d0 d1 d2 hlt); go_returns; exact rle_nil _ HB.out)
  · have d1 : decide (long < 1) = false := decide_eq_false h1
    have d2 : decide (d.z < long) = true := decide_eq_true (by omega)
    clear hl
    (go_enter Try.func60, Try.ntmps60; go_wp2_with fail; refine (HA.out _).mono ?_; rintro e w1 ⟨rfl, hb1⟩; have BD := Lib.hid (((Blk.new w 23 #[.int .i64 d.x, .int .i64 d.y, .int .i64 d.z]).below hb1).dims); have HB := Lib.hid (below_then (show Below w.heap.size w (w.alloc (.cells #[.int .i64 d.x, .int .i64 d.y, .int .i64 d.z] 23)) by (repeat (first | (with_reducible exact Below.refl _ _) | (with_reducible assumption) | (with_reducible refine below_alloc ?_ _) | (with_reducible refine below_drewN ?_ _) | (with_reducible refine Below.drew ?_) | (with_reducible refine below_then ?_ (by with_reducible assumption)) | (with_reducible refine Below.setCell ?_ (by go_size) _)))) hb1); clear hb1; (have hlt := BD.out.lt; obtain ⟨d0, d1, d2⟩ := BD.out; go_wp2_with fail; clear d0 d1 d2 hlt); go_returns; exact rle_nil _ HB.out)
set_option maxRecDepth 100000 in set_option maxHeartbeats 4000000 in
theorem wire_Run_one2 (d : V3) (m : Int) (torus : Bool) (w : World) (h : d.askE 2 m = 0) (hl : 1 ≤ d.z) :
    Calls Try.prog 60 #[.agg #[.int .i64 d.x, .int .i64 d.y, .int .i64 d.z], .int .i64 2, .int .i64 m, .int .i64 1, .bool torus] w (RLE w [] 0) := by
  have HA := Lib.hid (fun W => by have := wire_asked d 2 m W; rw [h] at this; exact this)
  have d2 : decide (d.z < 1) = false := decide_eq_false (by omega)
  clear h
  (go_enter Try.func60, Try.ntmps60; go_wp2_with fail; refine (HA.out _).mono ?_; rintro e w1 ⟨rfl, hb1⟩; have BD := Lib.hid (((Blk.new w 23 #[.int .i64 d.x, .int .i64 d.y, .int .i64 d.z]).below hb1).dims); have HB := Lib.hid (below_then (show Below w.heap.size w (w.alloc (.cells #[.int .i64 d.x, .int .i64 d.y, .int .i64 d.z] 23)) by (repeat (first | (with_reducible exact Below.refl _ _) | (with_reducible assumption) | (with_reducible refine below_alloc ?_ _) | (with_reducible refine below_drewN ?_ _) | (with_reducible refine Below.drew ?_) | (with_reducible refine below_then ?_ (by with_reducible assumption)) | (with_reducible refine Below.setCell ?_ (by go_size) _)))) hb1); clear hb1; (have hlt := BD.out.lt; obtain ⟨d0, d1, d2⟩ := BD.out; go_wp2_with fail; clear d0 d1 d2 hlt); go_returns; exact rle_nil _ HB.out)
theorem wire_Run_ax2 (d : V3) (m long : Int) (torus : Bool) (w : World) (h : d.askE 2 m = 0) :
    Calls Try.prog 60 #[.agg #[.int .i64 d.x, .int .i64 d.y, .int .i64 d.z], .int .i64 2, .int .i64 m, .int .i64 long, .bool torus] w (RLE w (d.runV 2 m long torus) (d.runE 2 m long)) := by
  obtain ⟨hd, _, m0, m1⟩ := V3.askE_0 h
  have hE : d.runE 2 m long = if 1 ≤ long ∧ long ≤ d.z then 0 else 2 := by rw [V3.runE, if_pos h]; rfl
  by_cases hl : 1 ≤ long ∧ long ≤ d.z
  · have e0 : d.runE 2 m long = 0 := hE.trans (if_pos hl)
    by_cases h1 : long = 1
    · subst h1
      rw [show d.runV 2 m 1 torus = [] from if_neg (by omega), e0]
      exact wire_Run_one2 d m torus w h hl.2
    · rw [show d.runV 2 m long torus = sorted (d.links 2 m (if torus then (d.z).toNat else (long - 1).toNat)) from if_pos ⟨e0, by omega⟩, e0]
      refine wire_Run2 d m long torus _ w hd m0 m1 (by omega) hl.2 ?_
      cases torus
      · exact .inr ⟨rfl, by show (((long - 1).toNat : Nat) : Int) = long - 1; omega⟩
      · exact .inl ⟨rfl, by show (((d.z).toNat : Nat) : Int) = d.z; omega⟩
  · have e0 : d.runE 2 m long = 2 := hE.trans (if_neg hl)
    rw [show d.runV 2 m long torus = [] from if_neg (by omega), e0]
    exact wire_Run_no2 d m long torus w h hl
theorem wire_Run (d : V3) (axis m long : Int) (torus : Bool) (w : World) :
    Calls Try.prog 60 #[.agg #[.int .i64 d.x, .int .i64 d.y, .int .i64 d.z], .int .i64 axis, .int .i64 m, .int .i64 long, .bool torus] w (RLE w (d.runV axis m long torus) (d.runE axis m long)) := by
  by_cases h : d.askE axis m = 0
  · obtain ⟨_, ⟨a0, a1⟩, _⟩ := V3.askE_0 h
    have hax : axis = 0 ∨ axis = 1 ∨ axis = 2 := by omega
    rcases hax with rfl | rfl | rfl
    · exact wire_Run_ax0 d m long torus w h
    · exact wire_Run_ax1 d m long torus w h
    · exact wire_Run_ax2 d m long torus w h
  · have e0 : d.runE axis m long = d.askE axis m := by rw [V3.runE, if_neg h]
    rw [show d.runV axis m long torus = [] from if_neg (by rw [e0]; exact fun h2 => h h2.1), e0]
    exact wire_Run_bad d axis m long torus w h
theorem V3.runV_len (d : V3) (axis m long : Int) (torus : Bool) : (d.runV axis m long torus).length ≤ 16 := by
  unfold V3.runV
  split
  · next h =>
    rw [sorted_len, V3.links_len]
    have h1 := h.1
    unfold V3.runE at h1
    split at h1
    · next ha =>
      split at h1
      · next hl =>
        obtain ⟨hd, ⟨a0, a1⟩, _⟩ := V3.askE_0 ha
        have := V3.at_pos hd axis.toNat (by omega)
        split <;> omega
      · cases h1
    · next ha => exact absurd h1 ha
  · exact Nat.zero_le _
end Go.Proofs.Ythabpiphfaedaaa
