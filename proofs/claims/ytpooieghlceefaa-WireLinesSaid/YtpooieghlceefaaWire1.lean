/- WIRES: how many; what is asked; a cable's number. -/
import Derived.Test.YtpooieghlceefaaWireLaw
namespace Go.Proofs.Ytpooieghlceefaa
open Go.RowKit Go.Shelf

set_option maxRecDepth 100000 in set_option maxHeartbeats 4000000 in
theorem wire_Many (d : V3) (w : World) : Calls Try.prog 21 #[.agg #[.int .i64 d.x, .int .i64 d.y, .int .i64 d.z]] w (RB w (.tuple #[.int .i64 (3 * d.many), .int .i64 d.err])) := by
  have HM := Lib.hid (fun W => pos_Many d W)
  have hb : 0 ≤ d.many ∧ d.many ≤ 4096 := by
    unfold V3.many
    split
    · next h => have := V3.n_le h; omega
    · omega
  generalize d.many = n at *
  generalize d.err = e0 at *
  go_enter Try.func21, Try.ntmps21
  go_wp2_with fail
  refine (HM.out _).mono ?_
  rintro e w1 ⟨rfl, hb1⟩
  go_wp2_with fail
  go_returns
  exact ⟨rfl, below_then (by (repeat (first | (with_reducible exact Below.refl _ _) | (with_reducible assumption) | (with_reducible refine below_alloc ?_ _) | (with_reducible refine below_drewN ?_ _) | (with_reducible refine Below.drew ?_) | (with_reducible refine below_then ?_ (by with_reducible assumption)) | (with_reducible refine Below.setCell ?_ (by go_size) _)))) hb1⟩

set_option maxRecDepth 100000 in set_option maxHeartbeats 4000000 in
theorem wire_asked (d : V3) (axis m : Int) (w : World) : Calls Try.prog 34 #[.agg #[.int .i64 d.x, .int .i64 d.y, .int .i64 d.z], .int .i64 axis, .int .i64 m] w (RB w (.int .i64 (d.askE axis m))) := by
  by_cases hd : d.may
  · have HM := Lib.hid (fun W => by have := pos_Many d W; rw [V3.many_ok hd, V3.err_ok hd] at this; exact this)
    have hb := V3.n_le hd
    have H0 := Lib.hid (show d.askE axis m = if (0 ≤ axis ∧ axis ≤ 2) ∧ (0 ≤ m ∧ m < d.n) then 0 else 2 by rw [V3.askE, if_pos hd])
    clear hd
    generalize d.n = n at *
    rcases Int.lt_or_le axis 0 with h1 | h1
    · have HE := Lib.hid (H0.out.trans (if_neg (by omega)))
      clear H0
      have d1 : decide (axis < 0) = true := decide_eq_true h1
      go_enter Try.func34, Try.ntmps34
      go_wp2_with fail
      refine (HM.out _).mono ?_
      rintro e w1 ⟨rfl, hb1⟩
      go_wp2_with fail
      go_returns
      exact ⟨by rw [HE.out]; rfl, below_then (by (repeat (first | (with_reducible exact Below.refl _ _) | (with_reducible assumption) | (with_reducible refine below_alloc ?_ _) | (with_reducible refine below_drewN ?_ _) | (with_reducible refine Below.drew ?_) | (with_reducible refine below_then ?_ (by with_reducible assumption)) | (with_reducible refine Below.setCell ?_ (by go_size) _)))) hb1⟩
    have d1 : decide (axis < 0) = false := decide_eq_false (by omega)
    rcases Int.lt_or_le 2 axis with h2 | h2
    · have HE := Lib.hid (H0.out.trans (if_neg (by omega)))
      clear H0
      have d2 : decide (2 < axis) = true := decide_eq_true h2
      go_enter Try.func34, Try.ntmps34
      go_wp2_with fail
      refine (HM.out _).mono ?_
      rintro e w1 ⟨rfl, hb1⟩
      go_wp2_with fail
      go_returns
      exact ⟨by rw [HE.out]; rfl, below_then (by (repeat (first | (with_reducible exact Below.refl _ _) | (with_reducible assumption) | (with_reducible refine below_alloc ?_ _) | (with_reducible refine below_drewN ?_ _) | (with_reducible refine Below.drew ?_) | (with_reducible refine below_then ?_ (by with_reducible assumption)) | (with_reducible refine Below.setCell ?_ (by go_size) _)))) hb1⟩
    have d2 : decide (2 < axis) = false := decide_eq_false (by omega)
    rcases Int.lt_or_le m 0 with h3 | h3
    · have HE := Lib.hid (H0.out.trans (if_neg (by omega)))
      clear H0
      have d3 : decide (m < 0) = true := decide_eq_true h3
      go_enter Try.func34, Try.ntmps34
      go_wp2_with fail
      refine (HM.out _).mono ?_
      rintro e w1 ⟨rfl, hb1⟩
      go_wp2_with fail
      go_returns
      exact ⟨by rw [HE.out]; rfl, below_then (by (repeat (first | (with_reducible exact Below.refl _ _) | (with_reducible assumption) | (with_reducible refine below_alloc ?_ _) | (with_reducible refine below_drewN ?_ _) | (with_reducible refine Below.drew ?_) | (with_reducible refine below_then ?_ (by with_reducible assumption)) | (with_reducible refine Below.setCell ?_ (by go_size) _)))) hb1⟩
    have d3 : decide (m < 0) = false := decide_eq_false (by omega)
    rcases Int.lt_or_le m n with h4 | h4
    · have HE := Lib.hid (H0.out.trans (if_pos (by omega)))
      clear H0
      have d4 : decide (n ≤ m) = false := decide_eq_false (by omega)
      go_enter Try.func34, Try.ntmps34
      go_wp2_with fail
      refine (HM.out _).mono ?_
      rintro e w1 ⟨rfl, hb1⟩
      go_wp2_with fail
      go_returns
      exact ⟨by rw [HE.out]; rfl, below_then (by (repeat (first | (with_reducible exact Below.refl _ _) | (with_reducible assumption) | (with_reducible refine below_alloc ?_ _) | (with_reducible refine below_drewN ?_ _) | (with_reducible refine Below.drew ?_) | (with_reducible refine below_then ?_ (by with_reducible assumption)) | (with_reducible refine Below.setCell ?_ (by go_size) _)))) hb1⟩
    · have HE := Lib.hid (H0.out.trans (if_neg (by omega)))
      clear H0
      have d4 : decide (n ≤ m) = true := decide_eq_true (by omega)
      go_enter Try.func34, Try.ntmps34
      go_wp2_with fail
      refine (HM.out _).mono ?_
      rintro e w1 ⟨rfl, hb1⟩
      go_wp2_with fail
      go_returns
      exact ⟨by rw [HE.out]; rfl, below_then (by (repeat (first | (with_reducible exact Below.refl _ _) | (with_reducible assumption) | (with_reducible refine below_alloc ?_ _) | (with_reducible refine below_drewN ?_ _) | (with_reducible refine Below.drew ?_) | (with_reducible refine below_then ?_ (by with_reducible assumption)) | (with_reducible refine Below.setCell ?_ (by go_size) _)))) hb1⟩
  · have HM := Lib.hid (fun W => by have := pos_Many d W; rw [V3.many_no hd, V3.err_no hd] at this; exact this)
    · have HE := Lib.hid (show d.askE axis m = 8 by rw [V3.askE, if_neg hd])
      clear hd
      go_enter Try.func34, Try.ntmps34
      go_wp2_with fail
      refine (HM.out _).mono ?_
      rintro e w1 ⟨rfl, hb1⟩
      go_wp2_with fail
      go_returns
      exact ⟨by rw [HE.out]; rfl, below_then (by (repeat (first | (with_reducible exact Below.refl _ _) | (with_reducible assumption) | (with_reducible refine below_alloc ?_ _) | (with_reducible refine below_drewN ?_ _) | (with_reducible refine Below.drew ?_) | (with_reducible refine below_then ?_ (by with_reducible assumption)) | (with_reducible refine Below.setCell ?_ (by go_size) _)))) hb1⟩

end Go.Proofs.Ytpooieghlceefaa
