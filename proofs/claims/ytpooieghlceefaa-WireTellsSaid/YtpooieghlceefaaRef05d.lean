/- REF: wires: a line's cables; a run's. -/
import Derived.Test.YtpooieghlceefaaRef05c
import Derived.Test.YtpooieghlceefaaLine
namespace Go.Proofs.Ytpooieghlceefaa
open Go.RowKit Go.Shelf

set_option maxRecDepth 100000 in set_option maxHeartbeats 4000000 in
theorem ref05_Line_bad (d : V3) (axis m : Int) (w : World) (h : d.askE axis m ≠ 0) :
    Calls Try.prog 25 #[.agg #[.int .i64 d.x, .int .i64 d.y, .int .i64 d.z], .int .i64 axis, .int .i64 m] w (RLE w [] (d.askE axis m)) := by
  have HA := Lib.hid (fun W => ref05_asked d axis m W)
  have g1 : (d.askE axis m == 0) = false := by simpa using h
  have g2 : (d.askE axis m != 0) = true := by simpa using h
  clear h
  generalize d.askE axis m = E at *
  (have HB := Lib.hid (show Below w.heap.size w (w.alloc (.cells #[.int .i64 d.x, .int .i64 d.y, .int .i64 d.z] 23)) by (repeat (first | (with_reducible exact Below.refl _ _) | (with_reducible assumption) | (with_reducible refine below_alloc ?_ _) | (with_reducible refine below_drewN ?_ _) | (with_reducible refine Below.drew ?_) | (with_reducible refine below_then ?_ (by with_reducible assumption)) | (with_reducible refine Below.setCell ?_ (by go_size) _)))); have BD := Lib.hid (Blk.new w 23 #[.int .i64 d.x, .int .i64 d.y, .int .i64 d.z]).dims)
  go_enter Try.func25, Try.ntmps25
  go_wp2_with fail
  (refine (HA.out _).mono ?_; rintro e w1 ⟨rfl, hb1⟩; (have BD := Lib.hid (BD.out.keep hb1 BD.out.lt); have HB := Lib.hid (below_then HB.out hb1)); clear hb1; (have hlt := BD.out.lt; obtain ⟨d0, d1, d2⟩ := BD.out; go_wp2_with fail; clear d0 d1 d2 hlt))
  go_returns
  exact rle_nil _ HB.out
set_option maxRecDepth 100000 in set_option maxHeartbeats 4000000 in
theorem ref05_Run_bad (d : V3) (axis m long : Int) (torus : Bool) (w : World) (h : d.askE axis m ≠ 0) :
    Calls Try.prog 26 #[.agg #[.int .i64 d.x, .int .i64 d.y, .int .i64 d.z], .int .i64 axis, .int .i64 m, .int .i64 long, .bool torus] w (RLE w [] (d.askE axis m)) := by
  have HA := Lib.hid (fun W => ref05_asked d axis m W)
  have g1 : (d.askE axis m == 0) = false := by simpa using h
  have g2 : (d.askE axis m != 0) = true := by simpa using h
  clear h
  generalize d.askE axis m = E at *
  (have HB := Lib.hid (show Below w.heap.size w (w.alloc (.cells #[.int .i64 d.x, .int .i64 d.y, .int .i64 d.z] 23)) by (repeat (first | (with_reducible exact Below.refl _ _) | (with_reducible assumption) | (with_reducible refine below_alloc ?_ _) | (with_reducible refine below_drewN ?_ _) | (with_reducible refine Below.drew ?_) | (with_reducible refine below_then ?_ (by with_reducible assumption)) | (with_reducible refine Below.setCell ?_ (by go_size) _)))); have BD := Lib.hid (Blk.new w 23 #[.int .i64 d.x, .int .i64 d.y, .int .i64 d.z]).dims)
  go_enter Try.func26, Try.ntmps26
  go_wp2_with fail
  (refine (HA.out _).mono ?_; rintro e w1 ⟨rfl, hb1⟩; (have BD := Lib.hid (BD.out.keep hb1 BD.out.lt); have HB := Lib.hid (below_then HB.out hb1)); clear hb1; (have hlt := BD.out.lt; obtain ⟨d0, d1, d2⟩ := BD.out; go_wp2_with fail; clear d0 d1 d2 hlt))
  go_returns
  exact rle_nil _ HB.out
def V3.tookV (d : V3) (k : Nat) (m long : Int) (torus : Bool) : List Int := if long = 1 then [] else d.taken k m (if torus then (d.at k).toNat else (long - 1).toNat)
set_option maxRecDepth 100000 in set_option maxHeartbeats 4000000 in
theorem ref05_Line0 (d : V3) (m : Int) (w : World) (h : d.askE 0 m = 0) :
    Calls Try.prog 25 #[.agg #[.int .i64 d.x, .int .i64 d.y, .int .i64 d.z], .int .i64 0, .int .i64 m] w (RLE w (d.taken 0 m (d.x).toNat) 0) := by
  have HA := Lib.hid (fun W => by have := ref05_asked d 0 m W; rw [h] at this; exact this)
  obtain ⟨hd, _, m0, m1⟩ := V3.askE_0 h
  have hdd := hd
  unfold V3.may at hdd
  have HT := Lib.hid (fun W => by have := ref05_taken0 d m (d.x).toNat W hd m0 m1 (by omega); rw [show (((d.x).toNat : Nat) : Int) = d.x by omega] at this; exact this)
  clear h hd hdd m0 m1
  generalize d.taken 0 m (d.x).toNat = T at *
  (have HB := Lib.hid (show Below w.heap.size w (w.alloc (.cells #[.int .i64 d.x, .int .i64 d.y, .int .i64 d.z] 23)) by (repeat (first | (with_reducible exact Below.refl _ _) | (with_reducible assumption) | (with_reducible refine below_alloc ?_ _) | (with_reducible refine below_drewN ?_ _) | (with_reducible refine Below.drew ?_) | (with_reducible refine below_then ?_ (by with_reducible assumption)) | (with_reducible refine Below.setCell ?_ (by go_size) _)))); have BD := Lib.hid (Blk.new w 23 #[.int .i64 d.x, .int .i64 d.y, .int .i64 d.z]).dims)
  go_enter Try.func25, Try.ntmps25
  go_wp2_with fail
  refine (HA.out _).mono ?_
  rintro e w1 ⟨rfl, hb1⟩
  (have BD := Lib.hid (BD.out.keep hb1 BD.out.lt); have HB := Lib.hid (below_then HB.out hb1))
  clear hb1
  have hlt := BD.out.lt
  obtain ⟨d0, d1, d2⟩ := BD.out
  go_wp2_with fail
  have mixed : Try.prog.follows .mixedOrders = true := by kernel_rfl
  go_region_held3 (fun W => W.cell? ⟨w.heap.size, 0, none⟩ = some (.int .i64 d.x) ∧ W.cell? ⟨w.heap.size, 1, none⟩ = some (.int .i64 d.y) ∧ W.cell? ⟨w.heap.size, 2, none⟩ = some (.int .i64 d.z)) (go_keep) ((first | (go_at_call 45; refine (HT.out _).mono ?_; rintro e wa ⟨v, rfl, ho, hba⟩; have HBa := Lib.hid (below_then (show Below w1.heap.size w1 _ by (repeat (first | (with_reducible exact Below.refl _ _) | (with_reducible assumption) | (with_reducible refine below_alloc ?_ _) | (with_reducible refine below_drewN ?_ _) | (with_reducible refine Below.drew ?_) | (with_reducible refine below_then ?_ (by with_reducible assumption)) | (with_reducible refine Below.setCell ?_ (by go_size) _)))) hba); have HO := Lib.hid (own_mono ho (show w1.heap.size ≤ _ by first | omega | (simp <;> omega))); clear hba ho; obtain ⟨d0', d1', d2'⟩ := BD.out.keep HBa.out BD.out.lt)))
  all_goals go_wp2_with fail
  all_goals go_returns
  all_goals exact ⟨_, rfl, own_mono HO.out HB.out.size, below_then HB.out HBa.out⟩
set_option maxRecDepth 100000 in set_option maxHeartbeats 4000000 in
theorem ref05_Took0 (d : V3) (m long : Int) (torus : Bool) (w : World) (hd : d.may) (m0 : 0 ≤ m) (m1 : m < d.n) (l1 : 1 ≤ long) (l2 : long ≤ d.x) :
    Calls Try.prog 46 #[.agg #[.int .i64 d.x, .int .i64 d.y, .int .i64 d.z], .int .i64 0, .int .i64 m, .int .i64 long, .bool torus] w (RI w (d.tookV 0 m long torus)) := by
  have hdd := hd
  unfold V3.may at hdd
  by_cases h1 : long = 1
  · have HR := Lib.hid (show d.tookV 0 m long torus = [] from if_pos h1)
    have heq : (long == 1) = true := by simpa using h1
    clear h1
    (have HB := Lib.hid (show Below w.heap.size w (w.alloc (.cells #[.int .i64 d.x, .int .i64 d.y, .int .i64 d.z] 23)) by (repeat (first | (with_reducible exact Below.refl _ _) | (with_reducible assumption) | (with_reducible refine below_alloc ?_ _) | (with_reducible refine below_drewN ?_ _) | (with_reducible refine Below.drew ?_) | (with_reducible refine below_then ?_ (by with_reducible assumption)) | (with_reducible refine Below.setCell ?_ (by go_size) _)))); have BD := Lib.hid (Blk.new w 23 #[.int .i64 d.x, .int .i64 d.y, .int .i64 d.z]).dims)
    go_enter Try.func46, Try.ntmps46
    go_wp2_with fail
    go_returns
    exact ⟨_, rfl, by rw [HR.out]; exact World.ownsRow_nil _ _ _ _, HB.out⟩
  have heq : (long == 1) = false := by simpa using h1
  have mixed : Try.prog.follows .mixedOrders = true := by kernel_rfl
  cases torus with
  | true =>
    have HR := Lib.hid (show d.tookV 0 m long true = d.taken 0 m (d.x).toNat from if_neg h1)
    have HT := Lib.hid (fun W => by have := ref05_taken0 d m (d.x).toNat W hd m0 m1 (by omega); rw [show (((d.x).toNat : Nat) : Int) = d.x by omega] at this; exact this)
    clear h1 hd hdd m0 m1
    generalize d.taken 0 m (d.x).toNat = T at *
    (have HB := Lib.hid (show Below w.heap.size w (w.alloc (.cells #[.int .i64 d.x, .int .i64 d.y, .int .i64 d.z] 23)) by (repeat (first | (with_reducible exact Below.refl _ _) | (with_reducible assumption) | (with_reducible refine below_alloc ?_ _) | (with_reducible refine below_drewN ?_ _) | (with_reducible refine Below.drew ?_) | (with_reducible refine below_then ?_ (by with_reducible assumption)) | (with_reducible refine Below.setCell ?_ (by go_size) _)))); have BD := Lib.hid (Blk.new w 23 #[.int .i64 d.x, .int .i64 d.y, .int .i64 d.z]).dims)
    go_enter Try.func46, Try.ntmps46
    go_wp2_with fail
    obtain ⟨w1, hw1⟩ : ∃ w1, w1 = w.alloc (.cells #[.int .i64 d.x, .int .i64 d.y, .int .i64 d.z] 23) := ⟨_, rfl⟩
    rw [← hw1] at BD HB ⊢
    clear hw1
    have hlt := BD.out.lt
    obtain ⟨d0, d1, d2⟩ := BD.out
    go_region_held3 (fun W => W.cell? ⟨w.heap.size, 0, none⟩ = some (.int .i64 d.x) ∧ W.cell? ⟨w.heap.size, 1, none⟩ = some (.int .i64 d.y) ∧ W.cell? ⟨w.heap.size, 2, none⟩ = some (.int .i64 d.z)) (go_keep) ((first | (go_at_call 45; refine (HT.out _).mono ?_; rintro e wa ⟨v, rfl, ho, hba⟩; have HBa := Lib.hid (below_then (show Below w1.heap.size w1 _ by (repeat (first | (with_reducible exact Below.refl _ _) | (with_reducible assumption) | (with_reducible refine below_alloc ?_ _) | (with_reducible refine below_drewN ?_ _) | (with_reducible refine Below.drew ?_) | (with_reducible refine below_then ?_ (by with_reducible assumption)) | (with_reducible refine Below.setCell ?_ (by go_size) _)))) hba); have HO := Lib.hid (own_mono ho (show w1.heap.size ≤ _ by first | omega | (simp <;> omega))); clear hba ho; obtain ⟨d0', d1', d2'⟩ := BD.out.keep HBa.out BD.out.lt)))
    all_goals go_wp2_with fail
    all_goals go_returns
    all_goals exact ⟨_, rfl, by rw [HR.out]; exact own_mono HO.out HB.out.size, below_then HB.out HBa.out⟩
  | false =>
    have HR := Lib.hid (show d.tookV 0 m long false = d.taken 0 m (long - 1).toNat from if_neg h1)
    have HT := Lib.hid (fun W => by have := ref05_taken0 d m (long - 1).toNat W hd m0 m1 (by omega); rw [show (((long - 1).toNat : Nat) : Int) = long - 1 by omega] at this; exact this)
    clear h1 hd m0 m1
    generalize d.taken 0 m (long - 1).toNat = T at *
    (have HB := Lib.hid (show Below w.heap.size w (w.alloc (.cells #[.int .i64 d.x, .int .i64 d.y, .int .i64 d.z] 23)) by (repeat (first | (with_reducible exact Below.refl _ _) | (with_reducible assumption) | (with_reducible refine below_alloc ?_ _) | (with_reducible refine below_drewN ?_ _) | (with_reducible refine Below.drew ?_) | (with_reducible refine below_then ?_ (by with_reducible assumption)) | (with_reducible refine Below.setCell ?_ (by go_size) _)))); have BD := Lib.hid (Blk.new w 23 #[.int .i64 d.x, .int .i64 d.y, .int .i64 d.z]).dims)
    go_enter Try.func46, Try.ntmps46
    go_wp2_with fail
    refine (HT.out _).mono ?_
    rintro e wa ⟨v, rfl, ho, hba⟩
    have HO := Lib.hid (own_mono ho HB.out.size)
    have HB := Lib.hid (below_then HB.out hba)
    clear ho hba
    go_wp2_with fail
    go_returns
    exact ⟨_, rfl, by rw [HR.out]; exact HO.out, HB.out⟩
set_option maxRecDepth 100000 in set_option maxHeartbeats 4000000 in
theorem ref05_Run_no0 (d : V3) (m long : Int) (torus : Bool) (w : World) (h : d.askE 0 m = 0) (hl : ¬ (1 ≤ long ∧ long ≤ d.x)) :
    Calls Try.prog 26 #[.agg #[.int .i64 d.x, .int .i64 d.y, .int .i64 d.z], .int .i64 0, .int .i64 m, .int .i64 long, .bool torus] w (RLE w [] 2) := by
  have HA := Lib.hid (fun W => by have := ref05_asked d 0 m W; rw [h] at this; exact this)
  clear h
  by_cases h1 : long < 1
  · have g1 : decide (long < 1) = true := decide_eq_true h1
    clear hl h1
    (have HB := Lib.hid (show Below w.heap.size w (w.alloc (.cells #[.int .i64 d.x, .int .i64 d.y, .int .i64 d.z] 23)) by (repeat (first | (with_reducible exact Below.refl _ _) | (with_reducible assumption) | (with_reducible refine below_alloc ?_ _) | (with_reducible refine below_drewN ?_ _) | (with_reducible refine Below.drew ?_) | (with_reducible refine below_then ?_ (by with_reducible assumption)) | (with_reducible refine Below.setCell ?_ (by go_size) _)))); have BD := Lib.hid (Blk.new w 23 #[.int .i64 d.x, .int .i64 d.y, .int .i64 d.z]).dims)
    go_enter Try.func26, Try.ntmps26
    go_wp2_with fail
    (refine (HA.out _).mono ?_; rintro e w1 ⟨rfl, hb1⟩; (have BD := Lib.hid (BD.out.keep hb1 BD.out.lt); have HB := Lib.hid (below_then HB.out hb1)); clear hb1; (have hlt := BD.out.lt; obtain ⟨d0, d1, d2⟩ := BD.out; go_wp2_with fail; clear d0 d1 d2 hlt))
    go_returns
    exact rle_nil _ HB.out
  · have g1 : decide (long < 1) = false := decide_eq_false h1
    have g2 : decide (d.x < long) = true := decide_eq_true (by omega)
    clear hl h1
    (have HB := Lib.hid (show Below w.heap.size w (w.alloc (.cells #[.int .i64 d.x, .int .i64 d.y, .int .i64 d.z] 23)) by (repeat (first | (with_reducible exact Below.refl _ _) | (with_reducible assumption) | (with_reducible refine below_alloc ?_ _) | (with_reducible refine below_drewN ?_ _) | (with_reducible refine Below.drew ?_) | (with_reducible refine below_then ?_ (by with_reducible assumption)) | (with_reducible refine Below.setCell ?_ (by go_size) _)))); have BD := Lib.hid (Blk.new w 23 #[.int .i64 d.x, .int .i64 d.y, .int .i64 d.z]).dims)
    go_enter Try.func26, Try.ntmps26
    go_wp2_with fail
    (refine (HA.out _).mono ?_; rintro e w1 ⟨rfl, hb1⟩; (have BD := Lib.hid (BD.out.keep hb1 BD.out.lt); have HB := Lib.hid (below_then HB.out hb1)); clear hb1; (have hlt := BD.out.lt; obtain ⟨d0, d1, d2⟩ := BD.out; go_wp2_with fail; clear d0 d1 d2 hlt))
    go_returns
    exact rle_nil _ HB.out
set_option maxRecDepth 100000 in set_option maxHeartbeats 4000000 in
theorem ref05_Run_ok0 (d : V3) (m long : Int) (torus : Bool) (w : World) (h : d.askE 0 m = 0) (hl : 1 ≤ long ∧ long ≤ d.x) :
    Calls Try.prog 26 #[.agg #[.int .i64 d.x, .int .i64 d.y, .int .i64 d.z], .int .i64 0, .int .i64 m, .int .i64 long, .bool torus] w (RLE w (d.tookV 0 m long torus) 0) := by
  have HA := Lib.hid (fun W => by have := ref05_asked d 0 m W; rw [h] at this; exact this)
  obtain ⟨hd, _, m0, m1⟩ := V3.askE_0 h
  have HT := Lib.hid (fun W => ref05_Took0 d m long torus W hd m0 m1 hl.1 hl.2)
  clear h hd m0 m1
  have g1 : decide (long < 1) = false := decide_eq_false (by omega)
  have g2 : decide (d.x < long) = false := decide_eq_false (by omega)
  generalize d.tookV 0 m long torus = T at *
  (have HB := Lib.hid (show Below w.heap.size w (w.alloc (.cells #[.int .i64 d.x, .int .i64 d.y, .int .i64 d.z] 23)) by (repeat (first | (with_reducible exact Below.refl _ _) | (with_reducible assumption) | (with_reducible refine below_alloc ?_ _) | (with_reducible refine below_drewN ?_ _) | (with_reducible refine Below.drew ?_) | (with_reducible refine below_then ?_ (by with_reducible assumption)) | (with_reducible refine Below.setCell ?_ (by go_size) _)))); have BD := Lib.hid (Blk.new w 23 #[.int .i64 d.x, .int .i64 d.y, .int .i64 d.z]).dims)
  go_enter Try.func26, Try.ntmps26
  go_wp2_with fail
  (refine (HA.out _).mono ?_; rintro e w1 ⟨rfl, hb1⟩; (have BD := Lib.hid (BD.out.keep hb1 BD.out.lt); have HB := Lib.hid (below_then HB.out hb1)); clear hb1; (have hlt := BD.out.lt; obtain ⟨d0, d1, d2⟩ := BD.out; go_wp2_with fail; clear d0 d1 d2 hlt))
  refine (HT.out _).mono ?_
  rintro e wa ⟨v, rfl, ho, hba⟩
  have HO := Lib.hid (own_mono ho HB.out.size)
  have HB := Lib.hid (below_then HB.out hba)
  clear ho hba
  go_wp2_with fail
  go_returns
  exact ⟨_, rfl, HO.out, HB.out⟩
set_option maxRecDepth 100000 in set_option maxHeartbeats 4000000 in
theorem ref05_Line1 (d : V3) (m : Int) (w : World) (h : d.askE 1 m = 0) :
    Calls Try.prog 25 #[.agg #[.int .i64 d.x, .int .i64 d.y, .int .i64 d.z], .int .i64 1, .int .i64 m] w (RLE w (d.taken 1 m (d.y).toNat) 0) := by
  have HA := Lib.hid (fun W => by have := ref05_asked d 1 m W; rw [h] at this; exact this)
  obtain ⟨hd, _, m0, m1⟩ := V3.askE_0 h
  have hdd := hd
  unfold V3.may at hdd
  have HT := Lib.hid (fun W => by have := ref05_taken1 d m (d.y).toNat W hd m0 m1 (by omega); rw [show (((d.y).toNat : Nat) : Int) = d.y by omega] at this; exact this)
  clear h hd hdd m0 m1
  generalize d.taken 1 m (d.y).toNat = T at *
  (have HB := Lib.hid (show Below w.heap.size w (w.alloc (.cells #[.int .i64 d.x, .int .i64 d.y, .int .i64 d.z] 23)) by (repeat (first | (with_reducible exact Below.refl _ _) | (with_reducible assumption) | (with_reducible refine below_alloc ?_ _) | (with_reducible refine below_drewN ?_ _) | (with_reducible refine Below.drew ?_) | (with_reducible refine below_then ?_ (by with_reducible assumption)) | (with_reducible refine Below.setCell ?_ (by go_size) _)))); have BD := Lib.hid (Blk.new w 23 #[.int .i64 d.x, .int .i64 d.y, .int .i64 d.z]).dims)
  go_enter Try.func25, Try.ntmps25
  go_wp2_with fail
  refine (HA.out _).mono ?_
  rintro e w1 ⟨rfl, hb1⟩
  (have BD := Lib.hid (BD.out.keep hb1 BD.out.lt); have HB := Lib.hid (below_then HB.out hb1))
  clear hb1
  have hlt := BD.out.lt
  obtain ⟨d0, d1, d2⟩ := BD.out
  go_wp2_with fail
  have mixed : Try.prog.follows .mixedOrders = true := by kernel_rfl
  go_region_held3 (fun W => W.cell? ⟨w.heap.size, 0, none⟩ = some (.int .i64 d.x) ∧ W.cell? ⟨w.heap.size, 1, none⟩ = some (.int .i64 d.y) ∧ W.cell? ⟨w.heap.size, 2, none⟩ = some (.int .i64 d.z)) (go_keep) ((first | (go_at_call 45; refine (HT.out _).mono ?_; rintro e wa ⟨v, rfl, ho, hba⟩; have HBa := Lib.hid (below_then (show Below w1.heap.size w1 _ by (repeat (first | (with_reducible exact Below.refl _ _) | (with_reducible assumption) | (with_reducible refine below_alloc ?_ _) | (with_reducible refine below_drewN ?_ _) | (with_reducible refine Below.drew ?_) | (with_reducible refine below_then ?_ (by with_reducible assumption)) | (with_reducible refine Below.setCell ?_ (by go_size) _)))) hba); have HO := Lib.hid (own_mono ho (show w1.heap.size ≤ _ by first | omega | (simp <;> omega))); clear hba ho; obtain ⟨d0', d1', d2'⟩ := BD.out.keep HBa.out BD.out.lt)))
  all_goals go_wp2_with fail
  all_goals go_returns
  all_goals exact ⟨_, rfl, own_mono HO.out HB.out.size, below_then HB.out HBa.out⟩
set_option maxRecDepth 100000 in set_option maxHeartbeats 4000000 in
theorem ref05_Took1 (d : V3) (m long : Int) (torus : Bool) (w : World) (hd : d.may) (m0 : 0 ≤ m) (m1 : m < d.n) (l1 : 1 ≤ long) (l2 : long ≤ d.y) :
    Calls Try.prog 46 #[.agg #[.int .i64 d.x, .int .i64 d.y, .int .i64 d.z], .int .i64 1, .int .i64 m, .int .i64 long, .bool torus] w (RI w (d.tookV 1 m long torus)) := by
  have hdd := hd
  unfold V3.may at hdd
  by_cases h1 : long = 1
  · have HR := Lib.hid (show d.tookV 1 m long torus = [] from if_pos h1)
    have heq : (long == 1) = true := by simpa using h1
    clear h1
    (have HB := Lib.hid (show Below w.heap.size w (w.alloc (.cells #[.int .i64 d.x, .int .i64 d.y, .int .i64 d.z] 23)) by (repeat (first | (with_reducible exact Below.refl _ _) | (with_reducible assumption) | (with_reducible refine below_alloc ?_ _) | (with_reducible refine below_drewN ?_ _) | (with_reducible refine Below.drew ?_) | (with_reducible refine below_then ?_ (by with_reducible assumption)) | (with_reducible refine Below.setCell ?_ (by go_size) _)))); have BD := Lib.hid (Blk.new w 23 #[.int .i64 d.x, .int .i64 d.y, .int .i64 d.z]).dims)
    go_enter Try.func46, Try.ntmps46
    go_wp2_with fail
    go_returns
    exact ⟨_, rfl, by rw [HR.out]; exact World.ownsRow_nil _ _ _ _, HB.out⟩
  have heq : (long == 1) = false := by simpa using h1
  have mixed : Try.prog.follows .mixedOrders = true := by kernel_rfl
  cases torus with
  | true =>
    have HR := Lib.hid (show d.tookV 1 m long true = d.taken 1 m (d.y).toNat from if_neg h1)
    have HT := Lib.hid (fun W => by have := ref05_taken1 d m (d.y).toNat W hd m0 m1 (by omega); rw [show (((d.y).toNat : Nat) : Int) = d.y by omega] at this; exact this)
    clear h1 hd hdd m0 m1
    generalize d.taken 1 m (d.y).toNat = T at *
    (have HB := Lib.hid (show Below w.heap.size w (w.alloc (.cells #[.int .i64 d.x, .int .i64 d.y, .int .i64 d.z] 23)) by (repeat (first | (with_reducible exact Below.refl _ _) | (with_reducible assumption) | (with_reducible refine below_alloc ?_ _) | (with_reducible refine below_drewN ?_ _) | (with_reducible refine Below.drew ?_) | (with_reducible refine below_then ?_ (by with_reducible assumption)) | (with_reducible refine Below.setCell ?_ (by go_size) _)))); have BD := Lib.hid (Blk.new w 23 #[.int .i64 d.x, .int .i64 d.y, .int .i64 d.z]).dims)
    go_enter Try.func46, Try.ntmps46
    go_wp2_with fail
    obtain ⟨w1, hw1⟩ : ∃ w1, w1 = w.alloc (.cells #[.int .i64 d.x, .int .i64 d.y, .int .i64 d.z] 23) := ⟨_, rfl⟩
    rw [← hw1] at BD HB ⊢
    clear hw1
    have hlt := BD.out.lt
    obtain ⟨d0, d1, d2⟩ := BD.out
    go_region_held3 (fun W => W.cell? ⟨w.heap.size, 0, none⟩ = some (.int .i64 d.x) ∧ W.cell? ⟨w.heap.size, 1, none⟩ = some (.int .i64 d.y) ∧ W.cell? ⟨w.heap.size, 2, none⟩ = some (.int .i64 d.z)) (go_keep) ((first | (go_at_call 45; refine (HT.out _).mono ?_; rintro e wa ⟨v, rfl, ho, hba⟩; have HBa := Lib.hid (below_then (show Below w1.heap.size w1 _ by (repeat (first | (with_reducible exact Below.refl _ _) | (with_reducible assumption) | (with_reducible refine below_alloc ?_ _) | (with_reducible refine below_drewN ?_ _) | (with_reducible refine Below.drew ?_) | (with_reducible refine below_then ?_ (by with_reducible assumption)) | (with_reducible refine Below.setCell ?_ (by go_size) _)))) hba); have HO := Lib.hid (own_mono ho (show w1.heap.size ≤ _ by first | omega | (simp <;> omega))); clear hba ho; obtain ⟨d0', d1', d2'⟩ := BD.out.keep HBa.out BD.out.lt)))
    all_goals go_wp2_with fail
    all_goals go_returns
    all_goals exact ⟨_, rfl, by rw [HR.out]; exact own_mono HO.out HB.out.size, below_then HB.out HBa.out⟩
  | false =>
    have HR := Lib.hid (show d.tookV 1 m long false = d.taken 1 m (long - 1).toNat from if_neg h1)
    have HT := Lib.hid (fun W => by have := ref05_taken1 d m (long - 1).toNat W hd m0 m1 (by omega); rw [show (((long - 1).toNat : Nat) : Int) = long - 1 by omega] at this; exact this)
    clear h1 hd m0 m1
    generalize d.taken 1 m (long - 1).toNat = T at *
    (have HB := Lib.hid (show Below w.heap.size w (w.alloc (.cells #[.int .i64 d.x, .int .i64 d.y, .int .i64 d.z] 23)) by (repeat (first | (with_reducible exact Below.refl _ _) | (with_reducible assumption) | (with_reducible refine below_alloc ?_ _) | (with_reducible refine below_drewN ?_ _) | (with_reducible refine Below.drew ?_) | (with_reducible refine below_then ?_ (by with_reducible assumption)) | (with_reducible refine Below.setCell ?_ (by go_size) _)))); have BD := Lib.hid (Blk.new w 23 #[.int .i64 d.x, .int .i64 d.y, .int .i64 d.z]).dims)
    go_enter Try.func46, Try.ntmps46
    go_wp2_with fail
    refine (HT.out _).mono ?_
    rintro e wa ⟨v, rfl, ho, hba⟩
    have HO := Lib.hid (own_mono ho HB.out.size)
    have HB := Lib.hid (below_then HB.out hba)
    clear ho hba
    go_wp2_with fail
    go_returns
    exact ⟨_, rfl, by rw [HR.out]; exact HO.out, HB.out⟩
set_option maxRecDepth 100000 in set_option maxHeartbeats 4000000 in
theorem ref05_Run_no1 (d : V3) (m long : Int) (torus : Bool) (w : World) (h : d.askE 1 m = 0) (hl : ¬ (1 ≤ long ∧ long ≤ d.y)) :
    Calls Try.prog 26 #[.agg #[.int .i64 d.x, .int .i64 d.y, .int .i64 d.z], .int .i64 1, .int .i64 m, .int .i64 long, .bool torus] w (RLE w [] 2) := by
  have HA := Lib.hid (fun W => by have := ref05_asked d 1 m W; rw [h] at this; exact this)
  clear h
  by_cases h1 : long < 1
  · have g1 : decide (long < 1) = true := decide_eq_true h1
    clear hl h1
    (have HB := Lib.hid (show Below w.heap.size w (w.alloc (.cells #[.int .i64 d.x, .int .i64 d.y, .int .i64 d.z] 23)) by (repeat (first | (with_reducible exact Below.refl _ _) | (with_reducible assumption) | (with_reducible refine below_alloc ?_ _) | (with_reducible refine below_drewN ?_ _) | (with_reducible refine Below.drew ?_) | (with_reducible refine below_then ?_ (by with_reducible assumption)) | (with_reducible refine Below.setCell ?_ (by go_size) _)))); have BD := Lib.hid (Blk.new w 23 #[.int .i64 d.x, .int .i64 d.y, .int .i64 d.z]).dims)
    go_enter Try.func26, Try.ntmps26
    go_wp2_with fail
    (refine (HA.out _).mono ?_; rintro e w1 ⟨rfl, hb1⟩; (have BD := Lib.hid (BD.out.keep hb1 BD.out.lt); have HB := Lib.hid (below_then HB.out hb1)); clear hb1; (have hlt := BD.out.lt; obtain ⟨d0, d1, d2⟩ := BD.out; go_wp2_with fail; clear d0 d1 d2 hlt))
    go_returns
    exact rle_nil _ HB.out
  · have g1 : decide (long < 1) = false := decide_eq_false h1
    have g2 : decide (d.y < long) = true := decide_eq_true (by omega)
    clear hl h1
    (have HB := Lib.hid (show Below w.heap.size w (w.alloc (.cells #[.int .i64 d.x, .int .i64 d.y, .int .i64 d.z] 23)) by (repeat (first | (with_reducible exact Below.refl _ _) | (with_reducible assumption) | (with_reducible refine below_alloc ?_ _) | (with_reducible refine below_drewN ?_ _) | (with_reducible refine Below.drew ?_) | (with_reducible refine below_then ?_ (by with_reducible assumption)) | (with_reducible refine Below.setCell ?_ (by go_size) _)))); have BD := Lib.hid (Blk.new w 23 #[.int .i64 d.x, .int .i64 d.y, .int .i64 d.z]).dims)
    go_enter Try.func26, Try.ntmps26
    go_wp2_with fail
    (refine (HA.out _).mono ?_; rintro e w1 ⟨rfl, hb1⟩; (have BD := Lib.hid (BD.out.keep hb1 BD.out.lt); have HB := Lib.hid (below_then HB.out hb1)); clear hb1; (have hlt := BD.out.lt; obtain ⟨d0, d1, d2⟩ := BD.out; go_wp2_with fail; clear d0 d1 d2 hlt))
    go_returns
    exact rle_nil _ HB.out
set_option maxRecDepth 100000 in set_option maxHeartbeats 4000000 in
theorem ref05_Run_ok1 (d : V3) (m long : Int) (torus : Bool) (w : World) (h : d.askE 1 m = 0) (hl : 1 ≤ long ∧ long ≤ d.y) :
    Calls Try.prog 26 #[.agg #[.int .i64 d.x, .int .i64 d.y, .int .i64 d.z], .int .i64 1, .int .i64 m, .int .i64 long, .bool torus] w (RLE w (d.tookV 1 m long torus) 0) := by
  have HA := Lib.hid (fun W => by have := ref05_asked d 1 m W; rw [h] at this; exact this)
  obtain ⟨hd, _, m0, m1⟩ := V3.askE_0 h
  have HT := Lib.hid (fun W => ref05_Took1 d m long torus W hd m0 m1 hl.1 hl.2)
  clear h hd m0 m1
  have g1 : decide (long < 1) = false := decide_eq_false (by omega)
  have g2 : decide (d.y < long) = false := decide_eq_false (by omega)
  generalize d.tookV 1 m long torus = T at *
  (have HB := Lib.hid (show Below w.heap.size w (w.alloc (.cells #[.int .i64 d.x, .int .i64 d.y, .int .i64 d.z] 23)) by (repeat (first | (with_reducible exact Below.refl _ _) | (with_reducible assumption) | (with_reducible refine below_alloc ?_ _) | (with_reducible refine below_drewN ?_ _) | (with_reducible refine Below.drew ?_) | (with_reducible refine below_then ?_ (by with_reducible assumption)) | (with_reducible refine Below.setCell ?_ (by go_size) _)))); have BD := Lib.hid (Blk.new w 23 #[.int .i64 d.x, .int .i64 d.y, .int .i64 d.z]).dims)
  go_enter Try.func26, Try.ntmps26
  go_wp2_with fail
  (refine (HA.out _).mono ?_; rintro e w1 ⟨rfl, hb1⟩; (have BD := Lib.hid (BD.out.keep hb1 BD.out.lt); have HB := Lib.hid (below_then HB.out hb1)); clear hb1; (have hlt := BD.out.lt; obtain ⟨d0, d1, d2⟩ := BD.out; go_wp2_with fail; clear d0 d1 d2 hlt))
  refine (HT.out _).mono ?_
  rintro e wa ⟨v, rfl, ho, hba⟩
  have HO := Lib.hid (own_mono ho HB.out.size)
  have HB := Lib.hid (below_then HB.out hba)
  clear ho hba
  go_wp2_with fail
  go_returns
  exact ⟨_, rfl, HO.out, HB.out⟩
set_option maxRecDepth 100000 in set_option maxHeartbeats 4000000 in
theorem ref05_Line2 (d : V3) (m : Int) (w : World) (h : d.askE 2 m = 0) :
    Calls Try.prog 25 #[.agg #[.int .i64 d.x, .int .i64 d.y, .int .i64 d.z], .int .i64 2, .int .i64 m] w (RLE w (d.taken 2 m (d.z).toNat) 0) := by
  have HA := Lib.hid (fun W => by have := ref05_asked d 2 m W; rw [h] at this; exact this)
  obtain ⟨hd, _, m0, m1⟩ := V3.askE_0 h
  have hdd := hd
  unfold V3.may at hdd
  have HT := Lib.hid (fun W => by have := ref05_taken2 d m (d.z).toNat W hd m0 m1 (by omega); rw [show (((d.z).toNat : Nat) : Int) = d.z by omega] at this; exact this)
  clear h hd hdd m0 m1
  generalize d.taken 2 m (d.z).toNat = T at *
  (have HB := Lib.hid (show Below w.heap.size w (w.alloc (.cells #[.int .i64 d.x, .int .i64 d.y, .int .i64 d.z] 23)) by (repeat (first | (with_reducible exact Below.refl _ _) | (with_reducible assumption) | (with_reducible refine below_alloc ?_ _) | (with_reducible refine below_drewN ?_ _) | (with_reducible refine Below.drew ?_) | (with_reducible refine below_then ?_ (by with_reducible assumption)) | (with_reducible refine Below.setCell ?_ (by go_size) _)))); have BD := Lib.hid (Blk.new w 23 #[.int .i64 d.x, .int .i64 d.y, .int .i64 d.z]).dims)
  go_enter Try.func25, Try.ntmps25
  go_wp2_with fail
  refine (HA.out _).mono ?_
  rintro e w1 ⟨rfl, hb1⟩
  (have BD := Lib.hid (BD.out.keep hb1 BD.out.lt); have HB := Lib.hid (below_then HB.out hb1))
  clear hb1
  have hlt := BD.out.lt
  obtain ⟨d0, d1, d2⟩ := BD.out
  go_wp2_with fail
  have mixed : Try.prog.follows .mixedOrders = true := by kernel_rfl
  go_region_held3 (fun W => W.cell? ⟨w.heap.size, 0, none⟩ = some (.int .i64 d.x) ∧ W.cell? ⟨w.heap.size, 1, none⟩ = some (.int .i64 d.y) ∧ W.cell? ⟨w.heap.size, 2, none⟩ = some (.int .i64 d.z)) (go_keep) ((first | (go_at_call 45; refine (HT.out _).mono ?_; rintro e wa ⟨v, rfl, ho, hba⟩; have HBa := Lib.hid (below_then (show Below w1.heap.size w1 _ by (repeat (first | (with_reducible exact Below.refl _ _) | (with_reducible assumption) | (with_reducible refine below_alloc ?_ _) | (with_reducible refine below_drewN ?_ _) | (with_reducible refine Below.drew ?_) | (with_reducible refine below_then ?_ (by with_reducible assumption)) | (with_reducible refine Below.setCell ?_ (by go_size) _)))) hba); have HO := Lib.hid (own_mono ho (show w1.heap.size ≤ _ by first | omega | (simp <;> omega))); clear hba ho; obtain ⟨d0', d1', d2'⟩ := BD.out.keep HBa.out BD.out.lt)))
  all_goals go_wp2_with fail
  all_goals go_returns
  all_goals exact ⟨_, rfl, own_mono HO.out HB.out.size, below_then HB.out HBa.out⟩
set_option maxRecDepth 100000 in set_option maxHeartbeats 4000000 in
theorem ref05_Took2 (d : V3) (m long : Int) (torus : Bool) (w : World) (hd : d.may) (m0 : 0 ≤ m) (m1 : m < d.n) (l1 : 1 ≤ long) (l2 : long ≤ d.z) :
    Calls Try.prog 46 #[.agg #[.int .i64 d.x, .int .i64 d.y, .int .i64 d.z], .int .i64 2, .int .i64 m, .int .i64 long, .bool torus] w (RI w (d.tookV 2 m long torus)) := by
  have hdd := hd
  unfold V3.may at hdd
  by_cases h1 : long = 1
  · have HR := Lib.hid (show d.tookV 2 m long torus = [] from if_pos h1)
    have heq : (long == 1) = true := by simpa using h1
    clear h1
    (have HB := Lib.hid (show Below w.heap.size w (w.alloc (.cells #[.int .i64 d.x, .int .i64 d.y, .int .i64 d.z] 23)) by (repeat (first | (with_reducible exact Below.refl _ _) | (with_reducible assumption) | (with_reducible refine below_alloc ?_ _) | (with_reducible refine below_drewN ?_ _) | (with_reducible refine Below.drew ?_) | (with_reducible refine below_then ?_ (by with_reducible assumption)) | (with_reducible refine Below.setCell ?_ (by go_size) _)))); have BD := Lib.hid (Blk.new w 23 #[.int .i64 d.x, .int .i64 d.y, .int .i64 d.z]).dims)
    go_enter Try.func46, Try.ntmps46
    go_wp2_with fail
    go_returns
    exact ⟨_, rfl, by rw [HR.out]; exact World.ownsRow_nil _ _ _ _, HB.out⟩
  have heq : (long == 1) = false := by simpa using h1
  have mixed : Try.prog.follows .mixedOrders = true := by kernel_rfl
  cases torus with
  | true =>
    have HR := Lib.hid (show d.tookV 2 m long true = d.taken 2 m (d.z).toNat from if_neg h1)
    have HT := Lib.hid (fun W => by have := ref05_taken2 d m (d.z).toNat W hd m0 m1 (by omega); rw [show (((d.z).toNat : Nat) : Int) = d.z by omega] at this; exact this)
    clear h1 hd hdd m0 m1
    generalize d.taken 2 m (d.z).toNat = T at *
    (have HB := Lib.hid (show Below w.heap.size w (w.alloc (.cells #[.int .i64 d.x, .int .i64 d.y, .int .i64 d.z] 23)) by (repeat (first | (with_reducible exact Below.refl _ _) | (with_reducible assumption) | (with_reducible refine below_alloc ?_ _) | (with_reducible refine below_drewN ?_ _) | (with_reducible refine Below.drew ?_) | (with_reducible refine below_then ?_ (by with_reducible assumption)) | (with_reducible refine Below.setCell ?_ (by go_size) _)))); have BD := Lib.hid (Blk.new w 23 #[.int .i64 d.x, .int .i64 d.y, .int .i64 d.z]).dims)
    go_enter Try.func46, Try.ntmps46
    go_wp2_with fail
    obtain ⟨w1, hw1⟩ : ∃ w1, w1 = w.alloc (.cells #[.int .i64 d.x, .int .i64 d.y, .int .i64 d.z] 23) := ⟨_, rfl⟩
    rw [← hw1] at BD HB ⊢
    clear hw1
    have hlt := BD.out.lt
    obtain ⟨d0, d1, d2⟩ := BD.out
    go_region_held3 (fun W => W.cell? ⟨w.heap.size, 0, none⟩ = some (.int .i64 d.x) ∧ W.cell? ⟨w.heap.size, 1, none⟩ = some (.int .i64 d.y) ∧ W.cell? ⟨w.heap.size, 2, none⟩ = some (.int .i64 d.z)) (go_keep) ((first | (go_at_call 45; refine (HT.out _).mono ?_; rintro e wa ⟨v, rfl, ho, hba⟩; have HBa := Lib.hid (below_then (show Below w1.heap.size w1 _ by (repeat (first | (with_reducible exact Below.refl _ _) | (with_reducible assumption) | (with_reducible refine below_alloc ?_ _) | (with_reducible refine below_drewN ?_ _) | (with_reducible refine Below.drew ?_) | (with_reducible refine below_then ?_ (by with_reducible assumption)) | (with_reducible refine Below.setCell ?_ (by go_size) _)))) hba); have HO := Lib.hid (own_mono ho (show w1.heap.size ≤ _ by first | omega | (simp <;> omega))); clear hba ho; obtain ⟨d0', d1', d2'⟩ := BD.out.keep HBa.out BD.out.lt)))
    all_goals go_wp2_with fail
    all_goals go_returns
    all_goals exact ⟨_, rfl, by rw [HR.out]; exact own_mono HO.out HB.out.size, below_then HB.out HBa.out⟩
  | false =>
    have HR := Lib.hid (show d.tookV 2 m long false = d.taken 2 m (long - 1).toNat from if_neg h1)
    have HT := Lib.hid (fun W => by have := ref05_taken2 d m (long - 1).toNat W hd m0 m1 (by omega); rw [show (((long - 1).toNat : Nat) : Int) = long - 1 by omega] at this; exact this)
    clear h1 hd m0 m1
    generalize d.taken 2 m (long - 1).toNat = T at *
    (have HB := Lib.hid (show Below w.heap.size w (w.alloc (.cells #[.int .i64 d.x, .int .i64 d.y, .int .i64 d.z] 23)) by (repeat (first | (with_reducible exact Below.refl _ _) | (with_reducible assumption) | (with_reducible refine below_alloc ?_ _) | (with_reducible refine below_drewN ?_ _) | (with_reducible refine Below.drew ?_) | (with_reducible refine below_then ?_ (by with_reducible assumption)) | (with_reducible refine Below.setCell ?_ (by go_size) _)))); have BD := Lib.hid (Blk.new w 23 #[.int .i64 d.x, .int .i64 d.y, .int .i64 d.z]).dims)
    go_enter Try.func46, Try.ntmps46
    go_wp2_with fail
    refine (HT.out _).mono ?_
    rintro e wa ⟨v, rfl, ho, hba⟩
    have HO := Lib.hid (own_mono ho HB.out.size)
    have HB := Lib.hid (below_then HB.out hba)
    clear ho hba
    go_wp2_with fail
    go_returns
    exact ⟨_, rfl, by rw [HR.out]; exact HO.out, HB.out⟩
set_option maxRecDepth 100000 in set_option maxHeartbeats 4000000 in
theorem ref05_Run_no2 (d : V3) (m long : Int) (torus : Bool) (w : World) (h : d.askE 2 m = 0) (hl : ¬ (1 ≤ long ∧ long ≤ d.z)) :
    Calls Try.prog 26 #[.agg #[.int .i64 d.x, .int .i64 d.y, .int .i64 d.z], .int .i64 2, .int .i64 m, .int .i64 long, .bool torus] w (RLE w [] 2) := by
  have HA := Lib.hid (fun W => by have := ref05_asked d 2 m W; rw [h] at this; exact this)
  clear h
  by_cases h1 : long < 1
  · have g1 : decide (long < 1) = true := decide_eq_true h1
    clear hl h1
    (have HB := Lib.hid (show Below w.heap.size w (w.alloc (.cells #[.int .i64 d.x, .int .i64 d.y, .int .i64 d.z] 23)) by (repeat (first | (with_reducible exact Below.refl _ _) | (with_reducible assumption) | (with_reducible refine below_alloc ?_ _) | (with_reducible refine below_drewN ?_ _) | (with_reducible refine Below.drew ?_) | (with_reducible refine below_then ?_ (by with_reducible assumption)) | (with_reducible refine Below.setCell ?_ (by go_size) _)))); have BD := Lib.hid (Blk.new w 23 #[.int .i64 d.x, .int .i64 d.y, .int .i64 d.z]).dims)
    go_enter Try.func26, Try.ntmps26
    go_wp2_with fail
    (refine (HA.out _).mono ?_; rintro e w1 ⟨rfl, hb1⟩; (have BD := Lib.hid (BD.out.keep hb1 BD.out.lt); have HB := Lib.hid (below_then HB.out hb1)); clear hb1; (have hlt := BD.out.lt; obtain ⟨d0, d1, d2⟩ := BD.out; go_wp2_with fail; clear d0 d1 d2 hlt))
    go_returns
    exact rle_nil _ HB.out
  · have g1 : decide (long < 1) = false := decide_eq_false h1
    have g2 : decide (d.z < long) = true := decide_eq_true (by omega)
    clear hl h1
    (have HB := Lib.hid (show Below w.heap.size w (w.alloc (.cells #[.int .i64 d.x, .int .i64 d.y, .int .i64 d.z] 23)) by (repeat (first | (with_reducible exact Below.refl _ _) | (with_reducible assumption) | (with_reducible refine below_alloc ?_ _) | (with_reducible refine below_drewN ?_ _) | (with_reducible refine Below.drew ?_) | (with_reducible refine below_then ?_ (by with_reducible assumption)) | (with_reducible refine Below.setCell ?_ (by go_size) _)))); have BD := Lib.hid (Blk.new w 23 #[.int .i64 d.x, .int .i64 d.y, .int .i64 d.z]).dims)
    go_enter Try.func26, Try.ntmps26
    go_wp2_with fail
    (refine (HA.out _).mono ?_; rintro e w1 ⟨rfl, hb1⟩; (have BD := Lib.hid (BD.out.keep hb1 BD.out.lt); have HB := Lib.hid (below_then HB.out hb1)); clear hb1; (have hlt := BD.out.lt; obtain ⟨d0, d1, d2⟩ := BD.out; go_wp2_with fail; clear d0 d1 d2 hlt))
    go_returns
    exact rle_nil _ HB.out
set_option maxRecDepth 100000 in set_option maxHeartbeats 4000000 in
theorem ref05_Run_ok2 (d : V3) (m long : Int) (torus : Bool) (w : World) (h : d.askE 2 m = 0) (hl : 1 ≤ long ∧ long ≤ d.z) :
    Calls Try.prog 26 #[.agg #[.int .i64 d.x, .int .i64 d.y, .int .i64 d.z], .int .i64 2, .int .i64 m, .int .i64 long, .bool torus] w (RLE w (d.tookV 2 m long torus) 0) := by
  have HA := Lib.hid (fun W => by have := ref05_asked d 2 m W; rw [h] at this; exact this)
  obtain ⟨hd, _, m0, m1⟩ := V3.askE_0 h
  have HT := Lib.hid (fun W => ref05_Took2 d m long torus W hd m0 m1 hl.1 hl.2)
  clear h hd m0 m1
  have g1 : decide (long < 1) = false := decide_eq_false (by omega)
  have g2 : decide (d.z < long) = false := decide_eq_false (by omega)
  generalize d.tookV 2 m long torus = T at *
  (have HB := Lib.hid (show Below w.heap.size w (w.alloc (.cells #[.int .i64 d.x, .int .i64 d.y, .int .i64 d.z] 23)) by (repeat (first | (with_reducible exact Below.refl _ _) | (with_reducible assumption) | (with_reducible refine below_alloc ?_ _) | (with_reducible refine below_drewN ?_ _) | (with_reducible refine Below.drew ?_) | (with_reducible refine below_then ?_ (by with_reducible assumption)) | (with_reducible refine Below.setCell ?_ (by go_size) _)))); have BD := Lib.hid (Blk.new w 23 #[.int .i64 d.x, .int .i64 d.y, .int .i64 d.z]).dims)
  go_enter Try.func26, Try.ntmps26
  go_wp2_with fail
  (refine (HA.out _).mono ?_; rintro e w1 ⟨rfl, hb1⟩; (have BD := Lib.hid (BD.out.keep hb1 BD.out.lt); have HB := Lib.hid (below_then HB.out hb1)); clear hb1; (have hlt := BD.out.lt; obtain ⟨d0, d1, d2⟩ := BD.out; go_wp2_with fail; clear d0 d1 d2 hlt))
  refine (HT.out _).mono ?_
  rintro e wa ⟨v, rfl, ho, hba⟩
  have HO := Lib.hid (own_mono ho HB.out.size)
  have HB := Lib.hid (below_then HB.out hba)
  clear ho hba
  go_wp2_with fail
  go_returns
  exact ⟨_, rfl, HO.out, HB.out⟩
theorem V3.line_taken {d : V3} {k : Nat} {m : Int} (hk : k < 3) (h : d.askE k m = 0) : d.taken k m (d.at k).toNat = d.lineV k m := by
  obtain ⟨hd, _, m0, m1⟩ := V3.askE_0 h
  have hdd : 1 ≤ d.at k ∧ d.at k ≤ 16 := by
    unfold V3.may at hd
    match k, hk with
    | 0, _ => exact hd.1
    | 1, _ => exact hd.2.1
    | 2, _ => exact hd.2.2
  have hn : ((k : Int)).toNat = k := by omega
  unfold V3.taken V3.lineV
  rw [hn]
  by_cases h1 : d.at k = 1
  · rw [if_pos (by omega), if_neg (fun h2 => h2.2 h1)]
  · rw [if_neg (by omega), if_pos ⟨h, h1⟩, V3.links_taken hd m0 m1 hk (by omega)]
theorem V3.run_took {d : V3} {k : Nat} {m long : Int} (torus : Bool) (hk : k < 3) (h : d.askE k m = 0) (hl : 1 ≤ long ∧ long ≤ d.at k) : d.tookV k m long torus = d.runV k m long torus := by
  obtain ⟨hd, _, m0, m1⟩ := V3.askE_0 h
  have hn : ((k : Int)).toNat = k := by omega
  have hE : d.runE k m long = 0 := by rw [V3.runE, if_pos h, hn, if_pos hl]
  by_cases h1 : long = 1
  · rw [show d.tookV k m long torus = [] from if_pos h1, show d.runV k m long torus = [] from if_neg (by omega)]
  · have e1 : d.tookV k m long torus = d.taken k m (if torus then (d.at k).toNat else (long - 1).toNat) := if_neg h1
    have e2 : d.runV k m long torus = sorted (d.links ((k : Int)).toNat m (if torus then (d.at ((k : Int)).toNat).toNat else (long - 1).toNat)) := if_pos ⟨hE, by omega⟩
    have e3 : (((if torus then (d.at k).toNat else (long - 1).toNat) : Nat) : Int) ≤ d.at k := by cases torus <;> simp <;> omega
    rw [hn] at e2
    rw [e1, e2, V3.links_taken hd m0 m1 hk e3]
    exact if_neg (by omega)
theorem ref05_Line (d : V3) (axis m : Int) (w : World) :
    Calls Try.prog 25 #[.agg #[.int .i64 d.x, .int .i64 d.y, .int .i64 d.z], .int .i64 axis, .int .i64 m] w (RLE w (d.lineV axis m) (d.askE axis m)) := by
  by_cases h : d.askE axis m = 0
  · obtain ⟨_, hr, _⟩ := V3.askE_0 h
    have hc : axis = 0 ∨ axis = 1 ∨ axis = 2 := by omega
    rcases hc with rfl | rfl | rfl
    · have := ref05_Line0 d m w h; rw [h]; rwa [show d.taken 0 m (d.x).toNat = d.lineV 0 m from V3.line_taken (k := 0) (by decide) h] at this
    · have := ref05_Line1 d m w h; rw [h]; rwa [show d.taken 1 m (d.y).toNat = d.lineV 1 m from V3.line_taken (k := 1) (by decide) h] at this
    · have := ref05_Line2 d m w h; rw [h]; rwa [show d.taken 2 m (d.z).toNat = d.lineV 2 m from V3.line_taken (k := 2) (by decide) h] at this
  · rw [show d.lineV axis m = [] from if_neg (fun h2 => h h2.1)]
    exact ref05_Line_bad d axis m w h
theorem ref05_Run (d : V3) (axis m long : Int) (torus : Bool) (w : World) :
    Calls Try.prog 26 #[.agg #[.int .i64 d.x, .int .i64 d.y, .int .i64 d.z], .int .i64 axis, .int .i64 m, .int .i64 long, .bool torus] w (RLE w (d.runV axis m long torus) (d.runE axis m long)) := by
  by_cases h : d.askE axis m = 0
  · obtain ⟨_, hr, _⟩ := V3.askE_0 h
    have hE : d.runE axis m long = if 1 ≤ long ∧ long ≤ d.at axis.toNat then 0 else 2 := by rw [V3.runE, if_pos h]
    have hc : axis = 0 ∨ axis = 1 ∨ axis = 2 := by omega
    by_cases hl : 1 ≤ long ∧ long ≤ d.at axis.toNat
    · rw [hE, if_pos hl]
      rcases hc with rfl | rfl | rfl
      · have := ref05_Run_ok0 d m long torus w h hl; rwa [show d.tookV 0 m long torus = d.runV 0 m long torus from V3.run_took (k := 0) torus (by decide) h hl] at this
      · have := ref05_Run_ok1 d m long torus w h hl; rwa [show d.tookV 1 m long torus = d.runV 1 m long torus from V3.run_took (k := 1) torus (by decide) h hl] at this
      · have := ref05_Run_ok2 d m long torus w h hl; rwa [show d.tookV 2 m long torus = d.runV 2 m long torus from V3.run_took (k := 2) torus (by decide) h hl] at this
    · rw [if_neg hl] at hE
      rw [hE, show d.runV axis m long torus = [] from if_neg (by omega)]
      rcases hc with rfl | rfl | rfl
      · exact ref05_Run_no0 d m long torus w h hl
      · exact ref05_Run_no1 d m long torus w h hl
      · exact ref05_Run_no2 d m long torus w h hl
  · have hE : d.runE axis m long = d.askE axis m := by rw [V3.runE, if_neg h]
    rw [show d.runV axis m long torus = [] from if_neg (by omega), hE]
    exact ref05_Run_bad d axis m long torus w h
end Go.Proofs.Ytpooieghlceefaa
