/- WIRE: the check; the cable from a midplane on. -/
import Derived.Test.YtofoenlhbmammaaGreatQ8F11
set_option linter.unusedVariables false
set_option linter.unusedSimpArgs false
namespace Go.Proofs.YtofoenlhbmammaaGreat

section
section
open Go.RowKit Go.Shelf

set_option maxRecDepth 100000 in set_option maxHeartbeats 4000000 in
theorem wire_asked (d : V3) (axis m : Int) (w : World) : Calls Tryz.prog 113 #[.agg #[.int .i64 d.x, .int .i64 d.y, .int .i64 d.z], .int .i64 axis, .int .i64 m] w (RB w (.int .i64 (d.askE axis m))) := by
  by_cases hd : d.may
  · have HM := Lib.hid (fun W => by have := pos_Many d W; rw [V3.many_ok hd, V3.err_ok hd] at this; exact this)
    have hb := V3.n_le hd
    have H0 := Lib.hid (show d.askE axis m = if (0 ≤ axis ∧ axis ≤ 2) ∧ (0 ≤ m ∧ m < d.n) then 0 else 2 by rw [V3.askE, if_pos hd])
    clear hd
    generalize d.n = n at *
    rcases Int.lt_or_le axis 0 with h1 | h1
    · have HE := Lib.hid (H0.out.trans (if_neg (by omega)))
      clear H0
      have d1 : decide (axis < 0) = true := decide_eq_true h1
      go_enter Tryz.func113, Tryz.ntmps113
      go_wp2_with fail
      refine (HM.out _).mono ?_
      rintro e w1 ⟨rfl, hb1⟩
      go_wp2_with fail
      go_returns
      exact ⟨by rw [HE.out]; rfl, below_then (by (repeat (first | (with_reducible exact Below.refl _ _) | (with_reducible assumption) | (with_reducible refine below_alloc ?_ _) | (with_reducible refine below_drewN ?_ _) | (with_reducible refine Below.drew ?_) | (with_reducible refine below_then ?_ (by with_reducible assumption)) | (with_reducible refine Below.setCell ?_ (by go_size) _)))) hb1⟩
    have d1 : decide (axis < 0) = false := decide_eq_false (by omega)
    rcases Int.lt_or_le 2 axis with h2 | h2
    · have HE := Lib.hid (H0.out.trans (if_neg (by omega)))
      clear H0
      have d2 : decide (2 < axis) = true := decide_eq_true h2
      go_enter Tryz.func113, Tryz.ntmps113
      go_wp2_with fail
      refine (HM.out _).mono ?_
      rintro e w1 ⟨rfl, hb1⟩
      go_wp2_with fail
      go_returns
      exact ⟨by rw [HE.out]; rfl, below_then (by (repeat (first | (with_reducible exact Below.refl _ _) | (with_reducible assumption) | (with_reducible refine below_alloc ?_ _) | (with_reducible refine below_drewN ?_ _) | (with_reducible refine Below.drew ?_) | (with_reducible refine below_then ?_ (by with_reducible assumption)) | (with_reducible refine Below.setCell ?_ (by go_size) _)))) hb1⟩
    have d2 : decide (2 < axis) = false := decide_eq_false (by omega)
    rcases Int.lt_or_le m 0 with h3 | h3
    · have HE := Lib.hid (H0.out.trans (if_neg (by omega)))
      clear H0
      have d3 : decide (m < 0) = true := decide_eq_true h3
      go_enter Tryz.func113, Tryz.ntmps113
      go_wp2_with fail
      refine (HM.out _).mono ?_
      rintro e w1 ⟨rfl, hb1⟩
      go_wp2_with fail
      go_returns
      exact ⟨by rw [HE.out]; rfl, below_then (by (repeat (first | (with_reducible exact Below.refl _ _) | (with_reducible assumption) | (with_reducible refine below_alloc ?_ _) | (with_reducible refine below_drewN ?_ _) | (with_reducible refine Below.drew ?_) | (with_reducible refine below_then ?_ (by with_reducible assumption)) | (with_reducible refine Below.setCell ?_ (by go_size) _)))) hb1⟩
    have d3 : decide (m < 0) = false := decide_eq_false (by omega)
    rcases Int.lt_or_le m n with h4 | h4
    · have HE := Lib.hid (H0.out.trans (if_pos (by omega)))
      clear H0
      have d4 : decide (n ≤ m) = false := decide_eq_false (by omega)
      go_enter Tryz.func113, Tryz.ntmps113
      go_wp2_with fail
      refine (HM.out _).mono ?_
      rintro e w1 ⟨rfl, hb1⟩
      go_wp2_with fail
      go_returns
      exact ⟨by rw [HE.out]; rfl, below_then (by (repeat (first | (with_reducible exact Below.refl _ _) | (with_reducible assumption) | (with_reducible refine below_alloc ?_ _) | (with_reducible refine below_drewN ?_ _) | (with_reducible refine Below.drew ?_) | (with_reducible refine below_then ?_ (by with_reducible assumption)) | (with_reducible refine Below.setCell ?_ (by go_size) _)))) hb1⟩
    · have HE := Lib.hid (H0.out.trans (if_neg (by omega)))
      clear H0
      have d4 : decide (n ≤ m) = true := decide_eq_true (by omega)
      go_enter Tryz.func113, Tryz.ntmps113
      go_wp2_with fail
      refine (HM.out _).mono ?_
      rintro e w1 ⟨rfl, hb1⟩
      go_wp2_with fail
      go_returns
      exact ⟨by rw [HE.out]; rfl, below_then (by (repeat (first | (with_reducible exact Below.refl _ _) | (with_reducible assumption) | (with_reducible refine below_alloc ?_ _) | (with_reducible refine below_drewN ?_ _) | (with_reducible refine Below.drew ?_) | (with_reducible refine below_then ?_ (by with_reducible assumption)) | (with_reducible refine Below.setCell ?_ (by go_size) _)))) hb1⟩
  · have HM := Lib.hid (fun W => by have := pos_Many d W; rw [V3.many_no hd, V3.err_no hd] at this; exact this)
    · have HE := Lib.hid (show d.askE axis m = 8 by rw [V3.askE, if_neg hd])
      clear hd
      go_enter Tryz.func113, Tryz.ntmps113
      go_wp2_with fail
      refine (HM.out _).mono ?_
      rintro e w1 ⟨rfl, hb1⟩
      go_wp2_with fail
      go_returns
      exact ⟨by rw [HE.out]; rfl, below_then (by (repeat (first | (with_reducible exact Below.refl _ _) | (with_reducible assumption) | (with_reducible refine below_alloc ?_ _) | (with_reducible refine below_drewN ?_ _) | (with_reducible refine Below.drew ?_) | (with_reducible refine below_then ?_ (by with_reducible assumption)) | (with_reducible refine Below.setCell ?_ (by go_size) _)))) hb1⟩
end

section
open Go.RowKit Go.Shelf

theorem ret_ii {a b c e : Int} (h1 : a = b) (h2 : c = e) : Ending.returned (.tuple #[.int .i64 a, .int .i64 c]) = .returned (.tuple #[.int .i64 b, .int .i64 e]) := by rw [h1, h2]
set_option maxRecDepth 100000 in set_option maxHeartbeats 4000000 in
theorem wire_Link (d : V3) (axis m : Int) (w : World) : Calls Tryz.prog 132 #[.agg #[.int .i64 d.x, .int .i64 d.y, .int .i64 d.z], .int .i64 axis, .int .i64 m] w (RB w (.tuple #[.int .i64 (d.linkV axis m), .int .i64 (d.linkE axis m)])) := by
  have HA := Lib.hid (fun W => wire_asked d axis m W)
  by_cases h : d.askE axis m = 0
  · obtain ⟨hd, ⟨a0, a1⟩, m0, m1⟩ := V3.askE_0 h
    have hle := V3.n_le hd
    have HM := Lib.hid (fun W => by have := pos_Many d W; rw [V3.many_ok hd, V3.err_ok hd] at this; exact this)
    have HE := Lib.hid (show d.linkE axis m = if d.at axis.toNat = 1 then 6 else 0 by rw [V3.linkE, if_pos h])
    have HV := Lib.hid (show d.linkV axis m = if d.linkE axis m = 0 then axis * d.n + m else 0 from rfl)
    rw [h] at HA
    clear h hd
    generalize d.n = n at *
    have hax : axis = 0 ∨ axis = 1 ∨ axis = 2 := by omega
    rcases hax with rfl | rfl | rfl
    · clear a0 a1
      by_cases hx : d.x = 1
      · have HE2 := Lib.hid (HE.out.trans (if_pos hx))
        have HV2 := Lib.hid (HV.out.trans (if_neg (by rw [HE2.out]; decide)))
        have heq : (d.x == 1) = true := by simpa using hx
        clear hx
        (go_enter Tryz.func132, Tryz.ntmps132; go_wp2_with fail; refine (HA.out _).mono ?_; rintro e w1 ⟨rfl, hb1⟩; (obtain ⟨hc1, hf1⟩ := bcell hb1; have hz1 := hb1.size; (try simp at hz1); have hB : Below w.heap.size w w1 := (by (repeat (first | (with_reducible exact Below.refl _ _) | (with_reducible assumption) | (with_reducible refine below_alloc ?_ _) | (with_reducible refine below_drewN ?_ _) | (with_reducible refine Below.drew ?_) | (with_reducible refine below_then ?_ (by with_reducible assumption)) | (with_reducible refine Below.setCell ?_ (by go_size) _)))); obtain ⟨hcB, hfB⟩ := bcell hB; (try have z0 : w.heap.size < w1.heap.size := by omega); (try have z1 : w.heap.size + 1 < w1.heap.size := by omega); (try have z2 : w.heap.size + 2 < w1.heap.size := by omega); (try have z3 : w.heap.size + 3 < w1.heap.size := by omega)); go_wp2_with fail; go_returns; exact ⟨ret_ii (by rw [HV2.out]) (by rw [HE2.out]), by (repeat (first | (with_reducible exact Below.refl _ _) | (with_reducible assumption) | (with_reducible refine below_alloc ?_ _) | (with_reducible refine below_drewN ?_ _) | (with_reducible refine Below.drew ?_) | (with_reducible refine below_then ?_ (by with_reducible assumption)) | (with_reducible refine Below.setCell ?_ (by go_size) _)))⟩)
      · have HE2 := Lib.hid (HE.out.trans (if_neg hx))
        have HV2 := Lib.hid (HV.out.trans (if_pos HE2.out))
        have heq : (d.x == 1) = false := by simpa using hx
        clear hx
        (go_enter Tryz.func132, Tryz.ntmps132; go_wp2_with fail; refine (HA.out _).mono ?_; rintro e w1 ⟨rfl, hb1⟩; (obtain ⟨hc1, hf1⟩ := bcell hb1; have hz1 := hb1.size; (try simp at hz1); have hB : Below w.heap.size w w1 := (by (repeat (first | (with_reducible exact Below.refl _ _) | (with_reducible assumption) | (with_reducible refine below_alloc ?_ _) | (with_reducible refine below_drewN ?_ _) | (with_reducible refine Below.drew ?_) | (with_reducible refine below_then ?_ (by with_reducible assumption)) | (with_reducible refine Below.setCell ?_ (by go_size) _)))); obtain ⟨hcB, hfB⟩ := bcell hB; (try have z0 : w.heap.size < w1.heap.size := by omega); (try have z1 : w.heap.size + 1 < w1.heap.size := by omega); (try have z2 : w.heap.size + 2 < w1.heap.size := by omega); (try have z3 : w.heap.size + 3 < w1.heap.size := by omega)); go_wp2_with fail; refine (HM.out _).mono ?_; rintro e w2 ⟨rfl, hb2⟩; go_wp2_with fail; go_returns; exact ⟨ret_ii (by rw [HV2.out] <;> omega) (by rw [HE2.out]), below_then hB hb2⟩)
    · clear a0 a1
      by_cases hx : d.y = 1
      · have HE2 := Lib.hid (HE.out.trans (if_pos hx))
        have HV2 := Lib.hid (HV.out.trans (if_neg (by rw [HE2.out]; decide)))
        have heq : (d.y == 1) = true := by simpa using hx
        clear hx
        (go_enter Tryz.func132, Tryz.ntmps132; go_wp2_with fail; refine (HA.out _).mono ?_; rintro e w1 ⟨rfl, hb1⟩; (obtain ⟨hc1, hf1⟩ := bcell hb1; have hz1 := hb1.size; (try simp at hz1); have hB : Below w.heap.size w w1 := (by (repeat (first | (with_reducible exact Below.refl _ _) | (with_reducible assumption) | (with_reducible refine below_alloc ?_ _) | (with_reducible refine below_drewN ?_ _) | (with_reducible refine Below.drew ?_) | (with_reducible refine below_then ?_ (by with_reducible assumption)) | (with_reducible refine Below.setCell ?_ (by go_size) _)))); obtain ⟨hcB, hfB⟩ := bcell hB; (try have z0 : w.heap.size < w1.heap.size := by omega); (try have z1 : w.heap.size + 1 < w1.heap.size := by omega); (try have z2 : w.heap.size + 2 < w1.heap.size := by omega); (try have z3 : w.heap.size + 3 < w1.heap.size := by omega)); go_wp2_with fail; go_returns; exact ⟨ret_ii (by rw [HV2.out]) (by rw [HE2.out]), by (repeat (first | (with_reducible exact Below.refl _ _) | (with_reducible assumption) | (with_reducible refine below_alloc ?_ _) | (with_reducible refine below_drewN ?_ _) | (with_reducible refine Below.drew ?_) | (with_reducible refine below_then ?_ (by with_reducible assumption)) | (with_reducible refine Below.setCell ?_ (by go_size) _)))⟩)
      · have HE2 := Lib.hid (HE.out.trans (if_neg hx))
        have HV2 := Lib.hid (HV.out.trans (if_pos HE2.out))
        have heq : (d.y == 1) = false := by simpa using hx
        clear hx
        (go_enter Tryz.func132, Tryz.ntmps132; go_wp2_with fail; refine (HA.out _).mono ?_; rintro e w1 ⟨rfl, hb1⟩; (obtain ⟨hc1, hf1⟩ := bcell hb1; have hz1 := hb1.size; (try simp at hz1); have hB : Below w.heap.size w w1 := (by (repeat (first | (with_reducible exact Below.refl _ _) | (with_reducible assumption) | (with_reducible refine below_alloc ?_ _) | (with_reducible refine below_drewN ?_ _) | (with_reducible refine Below.drew ?_) | (with_reducible refine below_then ?_ (by with_reducible assumption)) | (with_reducible refine Below.setCell ?_ (by go_size) _)))); obtain ⟨hcB, hfB⟩ := bcell hB; (try have z0 : w.heap.size < w1.heap.size := by omega); (try have z1 : w.heap.size + 1 < w1.heap.size := by omega); (try have z2 : w.heap.size + 2 < w1.heap.size := by omega); (try have z3 : w.heap.size + 3 < w1.heap.size := by omega)); go_wp2_with fail; refine (HM.out _).mono ?_; rintro e w2 ⟨rfl, hb2⟩; go_wp2_with fail; go_returns; exact ⟨ret_ii (by rw [HV2.out] <;> omega) (by rw [HE2.out]), below_then hB hb2⟩)
    · clear a0 a1
      by_cases hx : d.z = 1
      · have HE2 := Lib.hid (HE.out.trans (if_pos hx))
        have HV2 := Lib.hid (HV.out.trans (if_neg (by rw [HE2.out]; decide)))
        have heq : (d.z == 1) = true := by simpa using hx
        clear hx
        (go_enter Tryz.func132, Tryz.ntmps132; go_wp2_with fail; refine (HA.out _).mono ?_; rintro e w1 ⟨rfl, hb1⟩; (obtain ⟨hc1, hf1⟩ := bcell hb1; have hz1 := hb1.size; (try simp at hz1); have hB : Below w.heap.size w w1 := (by (repeat (first | (with_reducible exact Below.refl _ _) | (with_reducible assumption) | (with_reducible refine below_alloc ?_ _) | (with_reducible refine below_drewN ?_ _) | (with_reducible refine Below.drew ?_) | (with_reducible refine below_then ?_ (by with_reducible assumption)) | (with_reducible refine Below.setCell ?_ (by go_size) _)))); obtain ⟨hcB, hfB⟩ := bcell hB; (try have z0 : w.heap.size < w1.heap.size := by omega); (try have z1 : w.heap.size + 1 < w1.heap.size := by omega); (try have z2 : w.heap.size + 2 < w1.heap.size := by omega); (try have z3 : w.heap.size + 3 < w1.heap.size := by omega)); go_wp2_with fail; go_returns; exact ⟨ret_ii (by rw [HV2.out]) (by rw [HE2.out]), by (repeat (first | (with_reducible exact Below.refl _ _) | (with_reducible assumption) | (with_reducible refine below_alloc ?_ _) | (with_reducible refine below_drewN ?_ _) | (with_reducible refine Below.drew ?_) | (with_reducible refine below_then ?_ (by with_reducible assumption)) | (with_reducible refine Below.setCell ?_ (by go_size) _)))⟩)
      · have HE2 := Lib.hid (HE.out.trans (if_neg hx))
        have HV2 := Lib.hid (HV.out.trans (if_pos HE2.out))
        have heq : (d.z == 1) = false := by simpa using hx
        clear hx
        (go_enter Tryz.func132, Tryz.ntmps132; go_wp2_with fail; refine (HA.out _).mono ?_; rintro e w1 ⟨rfl, hb1⟩; (obtain ⟨hc1, hf1⟩ := bcell hb1; have hz1 := hb1.size; (try simp at hz1); have hB : Below w.heap.size w w1 := (by (repeat (first | (with_reducible exact Below.refl _ _) | (with_reducible assumption) | (with_reducible refine below_alloc ?_ _) | (with_reducible refine below_drewN ?_ _) | (with_reducible refine Below.drew ?_) | (with_reducible refine below_then ?_ (by with_reducible assumption)) | (with_reducible refine Below.setCell ?_ (by go_size) _)))); obtain ⟨hcB, hfB⟩ := bcell hB; (try have z0 : w.heap.size < w1.heap.size := by omega); (try have z1 : w.heap.size + 1 < w1.heap.size := by omega); (try have z2 : w.heap.size + 2 < w1.heap.size := by omega); (try have z3 : w.heap.size + 3 < w1.heap.size := by omega)); go_wp2_with fail; refine (HM.out _).mono ?_; rintro e w2 ⟨rfl, hb2⟩; go_wp2_with fail; go_returns; exact ⟨ret_ii (by rw [HV2.out] <;> omega) (by rw [HE2.out]), below_then hB hb2⟩)
  · have HE2 := Lib.hid (show d.linkE axis m = d.askE axis m by rw [V3.linkE, if_neg h])
    have HV2 := Lib.hid (show d.linkV axis m = 0 by rw [V3.linkV, if_neg (by rw [HE2.out]; exact h)])
    have hn : (d.askE axis m == 0) = false := by simpa using h
    have hm : (d.askE axis m != 0) = true := by simpa using h
    clear h
    generalize d.askE axis m = z at *
    (go_enter Tryz.func132, Tryz.ntmps132; go_wp2_with fail; refine (HA.out _).mono ?_; rintro e w1 ⟨rfl, hb1⟩; (obtain ⟨hc1, hf1⟩ := bcell hb1; have hz1 := hb1.size; (try simp at hz1); have hB : Below w.heap.size w w1 := (by (repeat (first | (with_reducible exact Below.refl _ _) | (with_reducible assumption) | (with_reducible refine below_alloc ?_ _) | (with_reducible refine below_drewN ?_ _) | (with_reducible refine Below.drew ?_) | (with_reducible refine below_then ?_ (by with_reducible assumption)) | (with_reducible refine Below.setCell ?_ (by go_size) _)))); obtain ⟨hcB, hfB⟩ := bcell hB; (try have z0 : w.heap.size < w1.heap.size := by omega); (try have z1 : w.heap.size + 1 < w1.heap.size := by omega); (try have z2 : w.heap.size + 2 < w1.heap.size := by omega); (try have z3 : w.heap.size + 3 < w1.heap.size := by omega)); go_wp2_with fail; go_returns; exact ⟨ret_ii (by rw [HV2.out]) (by rw [HE2.out]), by (repeat (first | (with_reducible exact Below.refl _ _) | (with_reducible assumption) | (with_reducible refine below_alloc ?_ _) | (with_reducible refine below_drewN ?_ _) | (with_reducible refine Below.drew ?_) | (with_reducible refine below_then ?_ (by with_reducible assumption)) | (with_reducible refine Below.setCell ?_ (by go_size) _)))⟩)
end
end
end Go.Proofs.YtofoenlhbmammaaGreat
