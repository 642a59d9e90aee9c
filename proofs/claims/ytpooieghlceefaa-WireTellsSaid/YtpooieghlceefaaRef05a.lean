/- REF: wires: how many; a cable's number and its ends. -/
import Derived.Test.YtpooieghlceefaaRefOn
import Derived.Test.YtpooieghlceefaaPos1
import Derived.Test.YtpooieghlceefaaWire4
namespace Go.Proofs.Ytpooieghlceefaa
open Go.RowKit Go.Shelf

set_option maxRecDepth 100000 in set_option maxHeartbeats 4000000 in
theorem ref05_Many (d : V3) (w : World) : Calls Try.prog 22 #[.agg #[.int .i64 d.x, .int .i64 d.y, .int .i64 d.z]] w (RB w (.tuple #[.int .i64 (3 * d.many), .int .i64 d.err])) := by
  by_cases h : d.may
  · have hn := V3.n_le h
    have HM := Lib.hid (fun W => Calls.rb_eq (ref01_May d W) (show Value.bool _ = .bool true by rw [decide_eq_true h]))
    have HN := Lib.hid (fun W => ref01_N d W h)
    have HE := Lib.hid (V3.many_ok h)
    have HF := Lib.hid (V3.err_ok h)
    clear h
    (have HB := Lib.hid (show Below w.heap.size w (w.alloc (.cells #[.int .i64 d.x, .int .i64 d.y, .int .i64 d.z] 23)) by (repeat (first | (with_reducible exact Below.refl _ _) | (with_reducible assumption) | (with_reducible refine below_alloc ?_ _) | (with_reducible refine below_drewN ?_ _) | (with_reducible refine Below.drew ?_) | (with_reducible refine below_then ?_ (by with_reducible assumption)) | (with_reducible refine Below.setCell ?_ (by go_size) _)))); have BD := Lib.hid (Blk.new w 23 #[.int .i64 d.x, .int .i64 d.y, .int .i64 d.z]).dims)
    go_enter Try.func22, Try.ntmps22
    go_wp2_with fail
    (refine (HM.out _).mono ?_; rintro e w1 ⟨rfl, hb1⟩; (have BD := Lib.hid (BD.out.keep hb1 BD.out.lt); have HB := Lib.hid (below_then HB.out hb1)); clear hb1; (have hlt := BD.out.lt; obtain ⟨d0, d1, d2⟩ := BD.out; go_wp2_with fail; clear d0 d1 d2 hlt))
    (refine (HN.out _).mono ?_; rintro e w1 ⟨rfl, hb1⟩; (have BD := Lib.hid (BD.out.keep hb1 BD.out.lt); have HB := Lib.hid (below_then HB.out hb1)); clear hb1; (have hlt := BD.out.lt; obtain ⟨d0, d1, d2⟩ := BD.out; go_wp2_with fail; clear d0 d1 d2 hlt))
    go_returns
    exact ⟨by rw [HE.out, HF.out]; rfl, HB.out⟩
  · have HM := Lib.hid (fun W => Calls.rb_eq (ref01_May d W) (show Value.bool _ = .bool false by rw [decide_eq_false h]))
    have HE := Lib.hid (V3.many_no h)
    have HF := Lib.hid (V3.err_no h)
    clear h
    (have HB := Lib.hid (show Below w.heap.size w (w.alloc (.cells #[.int .i64 d.x, .int .i64 d.y, .int .i64 d.z] 23)) by (repeat (first | (with_reducible exact Below.refl _ _) | (with_reducible assumption) | (with_reducible refine below_alloc ?_ _) | (with_reducible refine below_drewN ?_ _) | (with_reducible refine Below.drew ?_) | (with_reducible refine below_then ?_ (by with_reducible assumption)) | (with_reducible refine Below.setCell ?_ (by go_size) _)))); have BD := Lib.hid (Blk.new w 23 #[.int .i64 d.x, .int .i64 d.y, .int .i64 d.z]).dims)
    go_enter Try.func22, Try.ntmps22
    go_wp2_with fail
    (refine (HM.out _).mono ?_; rintro e w1 ⟨rfl, hb1⟩; (have BD := Lib.hid (BD.out.keep hb1 BD.out.lt); have HB := Lib.hid (below_then HB.out hb1)); clear hb1; (have hlt := BD.out.lt; obtain ⟨d0, d1, d2⟩ := BD.out; go_wp2_with fail; clear d0 d1 d2 hlt))
    go_returns
    exact ⟨by rw [HE.out, HF.out]; rfl, HB.out⟩
set_option maxRecDepth 100000 in set_option maxHeartbeats 4000000 in
theorem ref05_asked (d : V3) (axis m : Int) (w : World) : Calls Try.prog 43 #[.agg #[.int .i64 d.x, .int .i64 d.y, .int .i64 d.z], .int .i64 axis, .int .i64 m] w (RB w (.int .i64 (d.askE axis m))) := by
  by_cases hd : d.may
  · have HM := Lib.hid (fun W => Calls.rb_eq (ref01_May d W) (show Value.bool _ = .bool true by rw [decide_eq_true hd]))
    have HN := Lib.hid (fun W => ref01_N d W hd)
    have hb := V3.n_le hd
    have H0 := Lib.hid (show d.askE axis m = if (0 ≤ axis ∧ axis ≤ 2) ∧ (0 ≤ m ∧ m < d.n) then 0 else 2 by rw [V3.askE, if_pos hd])
    clear hd
    generalize d.n = n at *
    rcases Int.lt_or_le axis 0 with h1 | h1
    · have HE := Lib.hid (H0.out.trans (if_neg (by omega)))
      clear H0
      have d1 : decide (axis < 0) = true := decide_eq_true h1
      (have HB := Lib.hid (show Below w.heap.size w (w.alloc (.cells #[.int .i64 d.x, .int .i64 d.y, .int .i64 d.z] 23)) by (repeat (first | (with_reducible exact Below.refl _ _) | (with_reducible assumption) | (with_reducible refine below_alloc ?_ _) | (with_reducible refine below_drewN ?_ _) | (with_reducible refine Below.drew ?_) | (with_reducible refine below_then ?_ (by with_reducible assumption)) | (with_reducible refine Below.setCell ?_ (by go_size) _)))); have BD := Lib.hid (Blk.new w 23 #[.int .i64 d.x, .int .i64 d.y, .int .i64 d.z]).dims)
      go_enter Try.func43, Try.ntmps43
      go_wp2_with fail
      (refine (HM.out _).mono ?_; rintro e w1 ⟨rfl, hb1⟩; (have BD := Lib.hid (BD.out.keep hb1 BD.out.lt); have HB := Lib.hid (below_then HB.out hb1)); clear hb1; (have hlt := BD.out.lt; obtain ⟨d0, d1, d2⟩ := BD.out; go_wp2_with fail; clear d0 d1 d2 hlt))
      (try (refine (HN.out _).mono ?_; rintro e w1 ⟨rfl, hb1⟩; (have BD := Lib.hid (BD.out.keep hb1 BD.out.lt); have HB := Lib.hid (below_then HB.out hb1)); clear hb1; (have hlt := BD.out.lt; obtain ⟨d0, d1, d2⟩ := BD.out; go_wp2_with fail; clear d0 d1 d2 hlt)))
      go_returns
      exact ⟨by rw [HE.out]; rfl, HB.out⟩
    have d1 : decide (axis < 0) = false := decide_eq_false (by omega)
    rcases Int.lt_or_le 2 axis with h2 | h2
    · have HE := Lib.hid (H0.out.trans (if_neg (by omega)))
      clear H0
      have d2 : decide (2 < axis) = true := decide_eq_true h2
      (have HB := Lib.hid (show Below w.heap.size w (w.alloc (.cells #[.int .i64 d.x, .int .i64 d.y, .int .i64 d.z] 23)) by (repeat (first | (with_reducible exact Below.refl _ _) | (with_reducible assumption) | (with_reducible refine below_alloc ?_ _) | (with_reducible refine below_drewN ?_ _) | (with_reducible refine Below.drew ?_) | (with_reducible refine below_then ?_ (by with_reducible assumption)) | (with_reducible refine Below.setCell ?_ (by go_size) _)))); have BD := Lib.hid (Blk.new w 23 #[.int .i64 d.x, .int .i64 d.y, .int .i64 d.z]).dims)
      go_enter Try.func43, Try.ntmps43
      go_wp2_with fail
      (refine (HM.out _).mono ?_; rintro e w1 ⟨rfl, hb1⟩; (have BD := Lib.hid (BD.out.keep hb1 BD.out.lt); have HB := Lib.hid (below_then HB.out hb1)); clear hb1; (have hlt := BD.out.lt; obtain ⟨d0, d1, d2⟩ := BD.out; go_wp2_with fail; clear d0 d1 d2 hlt))
      (try (refine (HN.out _).mono ?_; rintro e w1 ⟨rfl, hb1⟩; (have BD := Lib.hid (BD.out.keep hb1 BD.out.lt); have HB := Lib.hid (below_then HB.out hb1)); clear hb1; (have hlt := BD.out.lt; obtain ⟨d0, d1, d2⟩ := BD.out; go_wp2_with fail; clear d0 d1 d2 hlt)))
      go_returns
      exact ⟨by rw [HE.out]; rfl, HB.out⟩
    have d2 : decide (2 < axis) = false := decide_eq_false (by omega)
    rcases Int.lt_or_le m 0 with h3 | h3
    · have HE := Lib.hid (H0.out.trans (if_neg (by omega)))
      clear H0
      have d3 : decide (m < 0) = true := decide_eq_true h3
      (have HB := Lib.hid (show Below w.heap.size w (w.alloc (.cells #[.int .i64 d.x, .int .i64 d.y, .int .i64 d.z] 23)) by (repeat (first | (with_reducible exact Below.refl _ _) | (with_reducible assumption) | (with_reducible refine below_alloc ?_ _) | (with_reducible refine below_drewN ?_ _) | (with_reducible refine Below.drew ?_) | (with_reducible refine below_then ?_ (by with_reducible assumption)) | (with_reducible refine Below.setCell ?_ (by go_size) _)))); have BD := Lib.hid (Blk.new w 23 #[.int .i64 d.x, .int .i64 d.y, .int .i64 d.z]).dims)
      go_enter Try.func43, Try.ntmps43
      go_wp2_with fail
      (refine (HM.out _).mono ?_; rintro e w1 ⟨rfl, hb1⟩; (have BD := Lib.hid (BD.out.keep hb1 BD.out.lt); have HB := Lib.hid (below_then HB.out hb1)); clear hb1; (have hlt := BD.out.lt; obtain ⟨d0, d1, d2⟩ := BD.out; go_wp2_with fail; clear d0 d1 d2 hlt))
      (try (refine (HN.out _).mono ?_; rintro e w1 ⟨rfl, hb1⟩; (have BD := Lib.hid (BD.out.keep hb1 BD.out.lt); have HB := Lib.hid (below_then HB.out hb1)); clear hb1; (have hlt := BD.out.lt; obtain ⟨d0, d1, d2⟩ := BD.out; go_wp2_with fail; clear d0 d1 d2 hlt)))
      go_returns
      exact ⟨by rw [HE.out]; rfl, HB.out⟩
    have d3 : decide (m < 0) = false := decide_eq_false (by omega)
    rcases Int.lt_or_le m n with h4 | h4
    · have HE := Lib.hid (H0.out.trans (if_pos (by omega)))
      clear H0
      have d4 : decide (n ≤ m) = false := decide_eq_false (by omega)
      (have HB := Lib.hid (show Below w.heap.size w (w.alloc (.cells #[.int .i64 d.x, .int .i64 d.y, .int .i64 d.z] 23)) by (repeat (first | (with_reducible exact Below.refl _ _) | (with_reducible assumption) | (with_reducible refine below_alloc ?_ _) | (with_reducible refine below_drewN ?_ _) | (with_reducible refine Below.drew ?_) | (with_reducible refine below_then ?_ (by with_reducible assumption)) | (with_reducible refine Below.setCell ?_ (by go_size) _)))); have BD := Lib.hid (Blk.new w 23 #[.int .i64 d.x, .int .i64 d.y, .int .i64 d.z]).dims)
      go_enter Try.func43, Try.ntmps43
      go_wp2_with fail
      (refine (HM.out _).mono ?_; rintro e w1 ⟨rfl, hb1⟩; (have BD := Lib.hid (BD.out.keep hb1 BD.out.lt); have HB := Lib.hid (below_then HB.out hb1)); clear hb1; (have hlt := BD.out.lt; obtain ⟨d0, d1, d2⟩ := BD.out; go_wp2_with fail; clear d0 d1 d2 hlt))
      (try (refine (HN.out _).mono ?_; rintro e w1 ⟨rfl, hb1⟩; (have BD := Lib.hid (BD.out.keep hb1 BD.out.lt); have HB := Lib.hid (below_then HB.out hb1)); clear hb1; (have hlt := BD.out.lt; obtain ⟨d0, d1, d2⟩ := BD.out; go_wp2_with fail; clear d0 d1 d2 hlt)))
      go_returns
      exact ⟨by rw [HE.out]; rfl, HB.out⟩
    · have HE := Lib.hid (H0.out.trans (if_neg (by omega)))
      clear H0
      have d4 : decide (n ≤ m) = true := decide_eq_true (by omega)
      (have HB := Lib.hid (show Below w.heap.size w (w.alloc (.cells #[.int .i64 d.x, .int .i64 d.y, .int .i64 d.z] 23)) by (repeat (first | (with_reducible exact Below.refl _ _) | (with_reducible assumption) | (with_reducible refine below_alloc ?_ _) | (with_reducible refine below_drewN ?_ _) | (with_reducible refine Below.drew ?_) | (with_reducible refine below_then ?_ (by with_reducible assumption)) | (with_reducible refine Below.setCell ?_ (by go_size) _)))); have BD := Lib.hid (Blk.new w 23 #[.int .i64 d.x, .int .i64 d.y, .int .i64 d.z]).dims)
      go_enter Try.func43, Try.ntmps43
      go_wp2_with fail
      (refine (HM.out _).mono ?_; rintro e w1 ⟨rfl, hb1⟩; (have BD := Lib.hid (BD.out.keep hb1 BD.out.lt); have HB := Lib.hid (below_then HB.out hb1)); clear hb1; (have hlt := BD.out.lt; obtain ⟨d0, d1, d2⟩ := BD.out; go_wp2_with fail; clear d0 d1 d2 hlt))
      (try (refine (HN.out _).mono ?_; rintro e w1 ⟨rfl, hb1⟩; (have BD := Lib.hid (BD.out.keep hb1 BD.out.lt); have HB := Lib.hid (below_then HB.out hb1)); clear hb1; (have hlt := BD.out.lt; obtain ⟨d0, d1, d2⟩ := BD.out; go_wp2_with fail; clear d0 d1 d2 hlt)))
      go_returns
      exact ⟨by rw [HE.out]; rfl, HB.out⟩
  · have HM := Lib.hid (fun W => Calls.rb_eq (ref01_May d W) (show Value.bool _ = .bool false by rw [decide_eq_false hd]))
    have HN := Lib.hid (fun (W : World) => ref01_May d W)
    · have HE := Lib.hid (show d.askE axis m = 8 by rw [V3.askE, if_neg hd])
      clear hd
      (have HB := Lib.hid (show Below w.heap.size w (w.alloc (.cells #[.int .i64 d.x, .int .i64 d.y, .int .i64 d.z] 23)) by (repeat (first | (with_reducible exact Below.refl _ _) | (with_reducible assumption) | (with_reducible refine below_alloc ?_ _) | (with_reducible refine below_drewN ?_ _) | (with_reducible refine Below.drew ?_) | (with_reducible refine below_then ?_ (by with_reducible assumption)) | (with_reducible refine Below.setCell ?_ (by go_size) _)))); have BD := Lib.hid (Blk.new w 23 #[.int .i64 d.x, .int .i64 d.y, .int .i64 d.z]).dims)
      go_enter Try.func43, Try.ntmps43
      go_wp2_with fail
      (refine (HM.out _).mono ?_; rintro e w1 ⟨rfl, hb1⟩; (have BD := Lib.hid (BD.out.keep hb1 BD.out.lt); have HB := Lib.hid (below_then HB.out hb1)); clear hb1; (have hlt := BD.out.lt; obtain ⟨d0, d1, d2⟩ := BD.out; go_wp2_with fail; clear d0 d1 d2 hlt))
      (try (refine (HN.out _).mono ?_; rintro e w1 ⟨rfl, hb1⟩; (have BD := Lib.hid (BD.out.keep hb1 BD.out.lt); have HB := Lib.hid (below_then HB.out hb1)); clear hb1; (have hlt := BD.out.lt; obtain ⟨d0, d1, d2⟩ := BD.out; go_wp2_with fail; clear d0 d1 d2 hlt)))
      go_returns
      exact ⟨by rw [HE.out]; rfl, HB.out⟩
set_option maxRecDepth 100000 in set_option maxHeartbeats 4000000 in
theorem ref05_Link (d : V3) (axis m : Int) (w : World) : Calls Try.prog 23 #[.agg #[.int .i64 d.x, .int .i64 d.y, .int .i64 d.z], .int .i64 axis, .int .i64 m] w (RB w (.tuple #[.int .i64 (d.linkV axis m), .int .i64 (d.linkE axis m)])) := by
  have HA := Lib.hid (fun W => ref05_asked d axis m W)
  by_cases h : d.askE axis m = 0
  · obtain ⟨hd, ⟨a0, a1⟩, m0, m1⟩ := V3.askE_0 h
    have hle := V3.n_le hd
    have HM := Lib.hid (fun W => ref01_N d W hd)
    have HE := Lib.hid (show d.linkE axis m = if d.at axis.toNat = 1 then 6 else 0 by rw [V3.linkE, if_pos h])
    have HV := Lib.hid (show d.linkV axis m = if d.linkE axis m = 0 then axis * d.n + m else 0 from rfl)
    rw [h] at HA
    clear h hd
    generalize d.n = n at *
    have hax : axis = 0 ∨ axis = 1 ∨ axis = 2 := by omega
    rcases hax with rfl | rfl | rfl
    · clear a0 a1
      by_cases hx : d.x = 1
      · have HE2 := Lib.hid (HE.out.trans (if_pos hx))
        have HV2 := Lib.hid (HV.out.trans (if_neg (by rw [HE2.out]; decide)))
        have heq : (d.x == 1) = true := by simpa using hx
        clear hx
        (have HB := Lib.hid (show Below w.heap.size w (w.alloc (.cells #[.int .i64 d.x, .int .i64 d.y, .int .i64 d.z] 23)) by (repeat (first | (with_reducible exact Below.refl _ _) | (with_reducible assumption) | (with_reducible refine below_alloc ?_ _) | (with_reducible refine below_drewN ?_ _) | (with_reducible refine Below.drew ?_) | (with_reducible refine below_then ?_ (by with_reducible assumption)) | (with_reducible refine Below.setCell ?_ (by go_size) _)))); have BD := Lib.hid (Blk.new w 23 #[.int .i64 d.x, .int .i64 d.y, .int .i64 d.z]).dims)
        go_enter Try.func23, Try.ntmps23
        go_wp2_with fail
        (refine (HA.out _).mono ?_; rintro e w1 ⟨rfl, hb1⟩; (have BD := Lib.hid (BD.out.keep hb1 BD.out.lt); have HB := Lib.hid (below_then HB.out hb1)); clear hb1; (have hlt := BD.out.lt; obtain ⟨d0, d1, d2⟩ := BD.out; go_wp2_with fail; clear d0 d1 d2 hlt))
        go_returns
        exact ⟨ret_ii (by rw [HV2.out]) (by rw [HE2.out]), HB.out⟩
      · have HE2 := Lib.hid (HE.out.trans (if_neg hx))
        have HV2 := Lib.hid (HV.out.trans (if_pos HE2.out))
        have heq : (d.x == 1) = false := by simpa using hx
        clear hx
        (have HB := Lib.hid (show Below w.heap.size w (w.alloc (.cells #[.int .i64 d.x, .int .i64 d.y, .int .i64 d.z] 23)) by (repeat (first | (with_reducible exact Below.refl _ _) | (with_reducible assumption) | (with_reducible refine below_alloc ?_ _) | (with_reducible refine below_drewN ?_ _) | (with_reducible refine Below.drew ?_) | (with_reducible refine below_then ?_ (by with_reducible assumption)) | (with_reducible refine Below.setCell ?_ (by go_size) _)))); have BD := Lib.hid (Blk.new w 23 #[.int .i64 d.x, .int .i64 d.y, .int .i64 d.z]).dims)
        go_enter Try.func23, Try.ntmps23
        go_wp2_with fail
        (refine (HA.out _).mono ?_; rintro e w1 ⟨rfl, hb1⟩; (have BD := Lib.hid (BD.out.keep hb1 BD.out.lt); have HB := Lib.hid (below_then HB.out hb1)); clear hb1; (have hlt := BD.out.lt; obtain ⟨d0, d1, d2⟩ := BD.out; go_wp2_with fail; clear d0 d1 d2 hlt))
        (refine (HM.out _).mono ?_; rintro e w1 ⟨rfl, hb1⟩; (have BD := Lib.hid (BD.out.keep hb1 BD.out.lt); have HB := Lib.hid (below_then HB.out hb1)); clear hb1; (have hlt := BD.out.lt; obtain ⟨d0, d1, d2⟩ := BD.out; go_wp2_with fail; clear d0 d1 d2 hlt))
        go_returns
        exact ⟨ret_ii (by rw [HV2.out] <;> omega) (by rw [HE2.out]), HB.out⟩
    · clear a0 a1
      by_cases hx : d.y = 1
      · have HE2 := Lib.hid (HE.out.trans (if_pos hx))
        have HV2 := Lib.hid (HV.out.trans (if_neg (by rw [HE2.out]; decide)))
        have heq : (d.y == 1) = true := by simpa using hx
        clear hx
        (have HB := Lib.hid (show Below w.heap.size w (w.alloc (.cells #[.int .i64 d.x, .int .i64 d.y, .int .i64 d.z] 23)) by (repeat (first | (with_reducible exact Below.refl _ _) | (with_reducible assumption) | (with_reducible refine below_alloc ?_ _) | (with_reducible refine below_drewN ?_ _) | (with_reducible refine Below.drew ?_) | (with_reducible refine below_then ?_ (by with_reducible assumption)) | (with_reducible refine Below.setCell ?_ (by go_size) _)))); have BD := Lib.hid (Blk.new w 23 #[.int .i64 d.x, .int .i64 d.y, .int .i64 d.z]).dims)
        go_enter Try.func23, Try.ntmps23
        go_wp2_with fail
        (refine (HA.out _).mono ?_; rintro e w1 ⟨rfl, hb1⟩; (have BD := Lib.hid (BD.out.keep hb1 BD.out.lt); have HB := Lib.hid (below_then HB.out hb1)); clear hb1; (have hlt := BD.out.lt; obtain ⟨d0, d1, d2⟩ := BD.out; go_wp2_with fail; clear d0 d1 d2 hlt))
        go_returns
        exact ⟨ret_ii (by rw [HV2.out]) (by rw [HE2.out]), HB.out⟩
      · have HE2 := Lib.hid (HE.out.trans (if_neg hx))
        have HV2 := Lib.hid (HV.out.trans (if_pos HE2.out))
        have heq : (d.y == 1) = false := by simpa using hx
        clear hx
        (have HB := Lib.hid (show Below w.heap.size w (w.alloc (.cells #[.int .i64 d.x, .int .i64 d.y, .int .i64 d.z] 23)) by (repeat (first | (with_reducible exact Below.refl _ _) | (with_reducible assumption) | (with_reducible refine below_alloc ?_ _) | (with_reducible refine below_drewN ?_ _) | (with_reducible refine Below.drew ?_) | (with_reducible refine below_then ?_ (by with_reducible assumption)) | (with_reducible refine Below.setCell ?_ (by go_size) _)))); have BD := Lib.hid (Blk.new w 23 #[.int .i64 d.x, .int .i64 d.y, .int .i64 d.z]).dims)
        go_enter Try.func23, Try.ntmps23
        go_wp2_with fail
        (refine (HA.out _).mono ?_; rintro e w1 ⟨rfl, hb1⟩; (have BD := Lib.hid (BD.out.keep hb1 BD.out.lt); have HB := Lib.hid (below_then HB.out hb1)); clear hb1; (have hlt := BD.out.lt; obtain ⟨d0, d1, d2⟩ := BD.out; go_wp2_with fail; clear d0 d1 d2 hlt))
        (refine (HM.out _).mono ?_; rintro e w1 ⟨rfl, hb1⟩; (have BD := Lib.hid (BD.out.keep hb1 BD.out.lt); have HB := Lib.hid (below_then HB.out hb1)); clear hb1; (have hlt := BD.out.lt; obtain ⟨d0, d1, d2⟩ := BD.out; go_wp2_with fail; clear d0 d1 d2 hlt))
        go_returns
        exact ⟨ret_ii (by rw [HV2.out] <;> omega) (by rw [HE2.out]), HB.out⟩
    · clear a0 a1
      by_cases hx : d.z = 1
      · have HE2 := Lib.hid (HE.out.trans (if_pos hx))
        have HV2 := Lib.hid (HV.out.trans (if_neg (by rw [HE2.out]; decide)))
        have heq : (d.z == 1) = true := by simpa using hx
        clear hx
        (have HB := Lib.hid (show Below w.heap.size w (w.alloc (.cells #[.int .i64 d.x, .int .i64 d.y, .int .i64 d.z] 23)) by (repeat (first | (with_reducible exact Below.refl _ _) | (with_reducible assumption) | (with_reducible refine below_alloc ?_ _) | (with_reducible refine below_drewN ?_ _) | (with_reducible refine Below.drew ?_) | (with_reducible refine below_then ?_ (by with_reducible assumption)) | (with_reducible refine Below.setCell ?_ (by go_size) _)))); have BD := Lib.hid (Blk.new w 23 #[.int .i64 d.x, .int .i64 d.y, .int .i64 d.z]).dims)
        go_enter Try.func23, Try.ntmps23
        go_wp2_with fail
        (refine (HA.out _).mono ?_; rintro e w1 ⟨rfl, hb1⟩; (have BD := Lib.hid (BD.out.keep hb1 BD.out.lt); have HB := Lib.hid (below_then HB.out hb1)); clear hb1; (have hlt := BD.out.lt; obtain ⟨d0, d1, d2⟩ := BD.out; go_wp2_with fail; clear d0 d1 d2 hlt))
        go_returns
        exact ⟨ret_ii (by rw [HV2.out]) (by rw [HE2.out]), HB.out⟩
      · have HE2 := Lib.hid (HE.out.trans (if_neg hx))
        have HV2 := Lib.hid (HV.out.trans (if_pos HE2.out))
        have heq : (d.z == 1) = false := by simpa using hx
        clear hx
        (have HB := Lib.hid (show Below w.heap.size w (w.alloc (.cells #[.int .i64 d.x, .int .i64 d.y, .int .i64 d.z] 23)) by (repeat (first | (with_reducible exact Below.refl _ _) | (with_reducible assumption) | (with_reducible refine below_alloc ?_ _) | (with_reducible refine below_drewN ?_ _) | (with_reducible refine Below.drew ?_) | (with_reducible refine below_then ?_ (by with_reducible assumption)) | (with_reducible refine Below.setCell ?_ (by go_size) _)))); have BD := Lib.hid (Blk.new w 23 #[.int .i64 d.x, .int .i64 d.y, .int .i64 d.z]).dims)
        go_enter Try.func23, Try.ntmps23
        go_wp2_with fail
        (refine (HA.out _).mono ?_; rintro e w1 ⟨rfl, hb1⟩; (have BD := Lib.hid (BD.out.keep hb1 BD.out.lt); have HB := Lib.hid (below_then HB.out hb1)); clear hb1; (have hlt := BD.out.lt; obtain ⟨d0, d1, d2⟩ := BD.out; go_wp2_with fail; clear d0 d1 d2 hlt))
        (refine (HM.out _).mono ?_; rintro e w1 ⟨rfl, hb1⟩; (have BD := Lib.hid (BD.out.keep hb1 BD.out.lt); have HB := Lib.hid (below_then HB.out hb1)); clear hb1; (have hlt := BD.out.lt; obtain ⟨d0, d1, d2⟩ := BD.out; go_wp2_with fail; clear d0 d1 d2 hlt))
        go_returns
        exact ⟨ret_ii (by rw [HV2.out] <;> omega) (by rw [HE2.out]), HB.out⟩
  · have HE2 := Lib.hid (show d.linkE axis m = d.askE axis m by rw [V3.linkE, if_neg h])
    have HV2 := Lib.hid (show d.linkV axis m = 0 by rw [V3.linkV, if_neg (by rw [HE2.out]; exact h)])
    have hn : (d.askE axis m == 0) = false := by simpa using h
    have hm : (d.askE axis m != 0) = true := by simpa using h
    clear h
    generalize d.askE axis m = z at *
    · · (have HB := Lib.hid (show Below w.heap.size w (w.alloc (.cells #[.int .i64 d.x, .int .i64 d.y, .int .i64 d.z] 23)) by (repeat (first | (with_reducible exact Below.refl _ _) | (with_reducible assumption) | (with_reducible refine below_alloc ?_ _) | (with_reducible refine below_drewN ?_ _) | (with_reducible refine Below.drew ?_) | (with_reducible refine below_then ?_ (by with_reducible assumption)) | (with_reducible refine Below.setCell ?_ (by go_size) _)))); have BD := Lib.hid (Blk.new w 23 #[.int .i64 d.x, .int .i64 d.y, .int .i64 d.z]).dims)
        go_enter Try.func23, Try.ntmps23
        go_wp2_with fail
        (refine (HA.out _).mono ?_; rintro e w1 ⟨rfl, hb1⟩; (have BD := Lib.hid (BD.out.keep hb1 BD.out.lt); have HB := Lib.hid (below_then HB.out hb1)); clear hb1; (have hlt := BD.out.lt; obtain ⟨d0, d1, d2⟩ := BD.out; go_wp2_with fail; clear d0 d1 d2 hlt))
        go_returns
        exact ⟨ret_ii (by rw [HV2.out]) (by rw [HE2.out]), HB.out⟩
end Go.Proofs.Ytpooieghlceefaa
