/- WIRE: the check; the cable from a midplane on. -/
import Derived.Test.YtofoenlhbmammaaGreatQ0PosC
namespace Go.Proofs.YtofoenlhbmammaaGreat

section
open Go.RowKit Go.Shelf

def V3.put (p : V3) (k : Nat) (v : Int) : V3 := ⟨if k = 0 then v else p.x, if k = 1 then v else p.y, if k = 2 then v else p.z⟩
/-- The midplane some steps on. -/
def V3.stepped (d : V3) (m : Int) (k : Nat) (by' : Int) : V3 := (d.pos m).put k (((d.pos m).at k + by') % d.at k)
def V3.step (d : V3) (m : Int) (k : Nat) (by' : Int) : Int := d.num (d.stepped m k by')
theorem V3.stepped_inside {d : V3} {m : Int} (h : d.may) (h0 : 0 ≤ m) (h1 : m < d.n) {k : Nat} (hk : k < 3) (by' : Int) : d.inside (d.stepped m k by') := by
  obtain ⟨px, py, pz⟩ := V3.pos_inside h h0 h1
  unfold V3.may at h
  unfold V3.stepped V3.put V3.inside
  generalize d.pos m = p at *
  match k, hk with
  | 0, _ => exact ⟨⟨Int.emod_nonneg _ (by show d.x ≠ 0; omega), Int.emod_lt_of_pos _ (by show 0 < d.x; omega)⟩, py, pz⟩
  | 1, _ => exact ⟨px, ⟨Int.emod_nonneg _ (by show d.y ≠ 0; omega), Int.emod_lt_of_pos _ (by show 0 < d.y; omega)⟩, pz⟩
  | 2, _ => exact ⟨px, py, Int.emod_nonneg _ (by show d.z ≠ 0; omega), Int.emod_lt_of_pos _ (by show 0 < d.z; omega)⟩
/-- How far two coordinates are apart along a ring. -/
def ringFar (n p q : Int) : Int := if n - (q - p + n) % n < (q - p + n) % n then n - (q - p + n) % n else (q - p + n) % n
def V3.far (d p q : V3) : Int := ringFar d.x p.x q.x + ringFar d.y p.y q.y + ringFar d.z p.z q.z
theorem ringFar_self {n p : Int} (hn : 1 ≤ n) : ringFar n p p = 0 := by
  unfold ringFar
  rw [show p - p + n = n by omega, Int.emod_self, if_neg (by omega)]
theorem ringFar_next {n p : Int} (hn : 2 ≤ n) (h0 : 0 ≤ p) (h1 : p < n) : ringFar n p ((p + 1) % n) = 1 := by
  have h : ((p + 1) % n - p + n) % n = 1 := by
    rcases Int.lt_or_le (p + 1) n with h2 | h2
    · rw [Int.emod_eq_of_lt (by omega) h2, show p + 1 - p + n = 1 + n by omega, Int.add_emod_right, Int.emod_eq_of_lt (by omega) (by omega)]
    · rw [show p + 1 = n by omega, Int.emod_self, show 0 - p + n = 1 by omega, Int.emod_eq_of_lt (by omega) (by omega)]
  unfold ringFar
  rw [h, if_neg (by omega)]
theorem far_step {d : V3} {m : Int} (h : d.may) (h0 : 0 ≤ m) (h1 : m < d.n) {k : Nat} (hk : k < 3) (hn : d.at k ≠ 1) : d.far (d.pos m) (d.pos (d.step m k 1)) = 1 := by
  unfold V3.step
  rw [V3.pos_num h (V3.stepped_inside h h0 h1 hk 1)]
  obtain ⟨px, py, pz⟩ := V3.pos_inside h h0 h1
  unfold V3.may at h
  unfold V3.stepped V3.put V3.far
  generalize d.pos m = p at *
  match k, hk with
  | 0, _ =>
    change d.x ≠ 1 at hn
    show ringFar d.x p.x ((p.x + 1) % d.x) + ringFar d.y p.y p.y + ringFar d.z p.z p.z = 1
    rw [ringFar_next (by omega) px.1 px.2, ringFar_self (by omega), ringFar_self (by omega)]; rfl
  | 1, _ =>
    change d.y ≠ 1 at hn
    show ringFar d.x p.x p.x + ringFar d.y p.y ((p.y + 1) % d.y) + ringFar d.z p.z p.z = 1
    rw [ringFar_next (by omega) py.1 py.2, ringFar_self (by omega), ringFar_self (by omega)]; rfl
  | 2, _ =>
    change d.z ≠ 1 at hn
    show ringFar d.x p.x p.x + ringFar d.y p.y p.y + ringFar d.z p.z ((p.z + 1) % d.z) = 1
    rw [ringFar_next (by omega) pz.1 pz.2, ringFar_self (by omega), ringFar_self (by omega)]; rfl

/-- The error of an axis and a midplane; a cable's number. -/
def V3.askE (d : V3) (axis m : Int) : Int := if d.may then if (0 ≤ axis ∧ axis ≤ 2) ∧ (0 ≤ m ∧ m < d.n) then 0 else 2 else 8
def V3.linkE (d : V3) (axis m : Int) : Int := if d.askE axis m = 0 then if d.at axis.toNat = 1 then 6 else 0 else d.askE axis m
def V3.linkV (d : V3) (axis m : Int) : Int := if d.linkE axis m = 0 then axis * d.n + m else 0
/-- A cable's ends. -/
def V3.endE (d : V3) (l : Int) : Int := if d.may then if 0 ≤ l ∧ l < 3 * d.n then if d.at (l / d.n).toNat = 1 then 6 else 0 else 2 else 8
def V3.endA (d : V3) (l : Int) : Int := if d.endE l = 0 then l / d.n else 0
def V3.endM (d : V3) (l : Int) : Int := if d.endE l = 0 then l % d.n else 0
def V3.endT (d : V3) (l : Int) : Int := if d.endE l = 0 then d.step (l % d.n) (l / d.n).toNat 1 else 0
theorem V3.askE_0 {d : V3} {axis m : Int} (h : d.askE axis m = 0) : d.may ∧ (0 ≤ axis ∧ axis ≤ 2) ∧ (0 ≤ m ∧ m < d.n) := by
  unfold V3.askE at h
  split at h
  · next h1 =>
    split at h
    · next h2 => exact ⟨h1, h2⟩
    · cases h
  · cases h
theorem V3.linkE_0 {d : V3} {axis m : Int} (h : d.linkE axis m = 0) : (d.may ∧ (0 ≤ axis ∧ axis ≤ 2) ∧ (0 ≤ m ∧ m < d.n)) ∧ d.at axis.toNat ≠ 1 := by
  unfold V3.linkE at h
  split at h
  · next h1 =>
    split at h
    · cases h
    · next h2 => exact ⟨V3.askE_0 h1, h2⟩
  · next h1 => exact absurd h h1
theorem V3.endE_0 {d : V3} {l : Int} (h : d.endE l = 0) : d.may ∧ (0 ≤ l ∧ l < 3 * d.n) ∧ d.at (l / d.n).toNat ≠ 1 := by
  unfold V3.endE at h
  split at h
  · next h1 =>
    split at h
    · next h2 =>
      split at h
      · cases h
      · next h3 => exact ⟨h1, h2, h3⟩
    · cases h
  · cases h
theorem divI_of {n a m : Int} (h0 : 0 ≤ m) (h1 : m < n) : (a * n + m) / n = a ∧ (a * n + m) % n = m := by
  constructor
  · rw [Int.add_comm, Int.add_mul_ediv_right _ _ (by omega), Int.ediv_eq_zero_of_lt h0 h1, Int.zero_add]
  · rw [Int.add_comm, Int.add_mul_emod_self_right, Int.emod_eq_of_lt h0 h1]
/-- What Link gives, Ends takes back. -/
theorem link_end {d : V3} {axis m : Int} (h : d.linkE axis m = 0) : d.endE (d.linkV axis m) = 0 ∧ d.endA (d.linkV axis m) = axis ∧ d.endM (d.linkV axis m) = m ∧ d.endT (d.linkV axis m) = d.step m axis.toNat 1 := by
  obtain ⟨⟨hd, ⟨a0, a1⟩, m0, m1⟩, hn⟩ := V3.linkE_0 h
  have hv : d.linkV axis m = axis * d.n + m := if_pos h
  obtain ⟨e1, e2⟩ := divI_of (a := axis) m0 m1
  have hle := V3.n_le hd
  have hb : 0 ≤ axis * d.n + m ∧ axis * d.n + m < 3 * d.n := by
    have h1 : 0 ≤ axis * d.n := Int.mul_nonneg a0 (by omega)
    have h2 : axis * d.n ≤ 2 * d.n := Int.mul_le_mul_of_nonneg_right a1 (by omega)
    omega
  have he : d.endE (d.linkV axis m) = 0 := by
    rw [hv, V3.endE, if_pos hd, if_pos hb, e1, if_neg hn]
  refine ⟨he, ?_, ?_, ?_⟩
  · rw [V3.endA, if_pos he, hv, e1]
  · rw [V3.endM, if_pos he, hv, e2]
  · rw [V3.endT, if_pos he, hv, e1, e2]
/-- What Ends gives, Link takes back; the ends are one step apart. -/
theorem end_link {d : V3} {l : Int} (h : d.endE l = 0) : (d.linkE (d.endA l) (d.endM l) = 0 ∧ d.linkV (d.endA l) (d.endM l) = l) ∧ d.far (d.pos (d.endM l)) (d.pos (d.endT l)) = 1 ∧ (0 ≤ d.endM l ∧ d.endM l < d.n) ∧ (0 ≤ d.endT l ∧ d.endT l < d.n) := by
  obtain ⟨hd, ⟨l0, l1⟩, hn⟩ := V3.endE_0 h
  have hle := V3.n_le hd
  have a0 : 0 ≤ l / d.n := Int.ediv_nonneg l0 (by omega)
  have a1 : l / d.n < 3 := Int.ediv_lt_of_lt_mul (by omega) (by omega)
  have m0 : 0 ≤ l % d.n := Int.emod_nonneg _ (by omega)
  have m1 : l % d.n < d.n := Int.emod_lt_of_pos _ (by omega)
  have eA : d.endA l = l / d.n := if_pos h
  have eM : d.endM l = l % d.n := if_pos h
  have eT : d.endT l = d.step (l % d.n) (l / d.n).toNat 1 := if_pos h
  rw [eA, eM, eT]
  have hk : (l / d.n).toNat < 3 := by omega
  have hL : d.linkE (l / d.n) (l % d.n) = 0 := by
    have : d.askE (l / d.n) (l % d.n) = 0 := by rw [V3.askE, if_pos hd, if_pos ⟨⟨a0, by omega⟩, m0, m1⟩]
    rw [V3.linkE, if_pos this, if_neg hn]
  refine ⟨⟨hL, ?_⟩, far_step hd m0 m1 hk hn, ⟨m0, m1⟩, V3.num_lt hd (V3.stepped_inside hd m0 m1 hk 1)⟩
  rw [V3.linkV, if_pos hL]
  have := Int.mul_ediv_add_emod l d.n
  rw [Int.mul_comm]; exact this
end

section
section
open Go.RowKit Go.Shelf

set_option maxRecDepth 100000 in set_option maxHeartbeats 4000000 in
theorem wire_asked (d : V3) (axis m : Int) (w : World) : Calls Tryz.prog 113 #[.agg #[.int .i64 d.x, .int .i64 d.y, .int .i64 d.z], .int .i64 axis, .int .i64 m] w (RB w (.int .i64 (d.askE axis m))) := by
  by_cases hd : d.may
  · have HM := Lib.hid (fun W => by have := pos_Many d W; rw [V3.many_ok hd, V3.err_ok hd] at this; exact this)
    have hb := V3.n_le hd
    have H0 := Lib.hid (show d.askE axis m = if (0 ≤ axis ∧ axis ≤ 2) ∧ (0 ≤ m ∧ m < d.n) then 0 else 2 by rw [V3.askE, if_pos hd])
    clear hd
    generalize d.n = n at *
    rcases Int.lt_or_le axis 0 with h1 | h1
    · have HE := Lib.hid (H0.out.trans (if_neg (by omega)))
      clear H0
      have d1 : decide (axis < 0) = true := decide_eq_true h1
      go_enter Tryz.func113, Tryz.ntmps113
      go_wp2_with fail
      refine (HM.out _).mono ?_
      rintro e w1 ⟨rfl, hb1⟩
      go_wp2_with fail
      go_returns
      exact ⟨by rw [HE.out]; rfl, below_then (by (repeat (first | (with_reducible exact Below.refl _ _) | (with_reducible assumption) | (with_reducible refine below_alloc ?_ _) | (with_reducible refine below_drewN ?_ _) | (with_reducible refine Below.drew ?_) | (with_reducible refine below_then ?_ (by with_reducible assumption)) | (with_reducible refine Below.setCell ?_ (by go_size) _)))) hb1⟩
    have d1 : decide (axis < 0) = false := decide_eq_false (by omega)
    rcases Int.lt_or_le 2 axis with h2 | h2
    · have HE := Lib.hid (H0.out.trans (if_neg (by omega)))
      clear H0
      have d2 : decide (2 < axis) = true := decide_eq_true h2
      go_enter Tryz.func113, Tryz.ntmps113
      go_wp2_with fail
      refine (HM.out _).mono ?_
      rintro e w1 ⟨rfl, hb1⟩
      go_wp2_with fail
      go_returns
      exact ⟨by rw [HE.out]; rfl, below_then (by (repeat (first | (with_reducible exact Below.refl _ _) | (with_reducible assumption) | (with_reducible refine below_alloc ?_ _) | (with_reducible refine below_drewN ?_ _) | (with_reducible refine Below.drew ?_) | (with_reducible refine below_then ?_ (by with_reducible assumption)) | (with_reducible refine Below.setCell ?_ (by go_size) _)))) hb1⟩
    have d2 : decide (2 < axis) = false := decide_eq_false (by omega)
    rcases Int.lt_or_le m 0 with h3 | h3
    · have HE := Lib.hid (H0.out.trans (if_neg (by omega)))
      clear H0
      have d3 : decide (m < 0) = true := decide_eq_true h3
      go_enter Tryz.func113, Tryz.ntmps113
      go_wp2_with fail
      refine (HM.out _).mono ?_
      rintro e w1 ⟨rfl, hb1⟩
      go_wp2_with fail
      go_returns
      exact ⟨by rw [HE.out]; rfl, below_then (by (repeat (first | (with_reducible exact Below.refl _ _) | (with_reducible assumption) | (with_reducible refine below_alloc ?_ _) | (with_reducible refine below_drewN ?_ _) | (with_reducible refine Below.drew ?_) | (with_reducible refine below_then ?_ (by with_reducible assumption)) | (with_reducible refine Below.setCell ?_ (by go_size) _)))) hb1⟩
    have d3 : decide (m < 0) = false := decide_eq_false (by omega)
    rcases Int.lt_or_le m n with h4 | h4
    · have HE := Lib.hid (H0.out.trans (if_pos (by omega)))
      clear H0
      have d4 : decide (n ≤ m) = false := decide_eq_false (by omega)
      go_enter Tryz.func113, Tryz.ntmps113
      go_wp2_with fail
      refine (HM.out _).mono ?_
      rintro e w1 ⟨rfl, hb1⟩
      go_wp2_with fail
      go_returns
      exact ⟨by rw [HE.out]; rfl, below_then (by (repeat (first | (with_reducible exact Below.refl _ _) | (with_reducible assumption) | (with_reducible refine below_alloc ?_ _) | (with_reducible refine below_drewN ?_ _) | (with_reducible refine Below.drew ?_) | (with_reducible refine below_then ?_ (by with_reducible assumption)) | (with_reducible refine Below.setCell ?_ (by go_size) _)))) hb1⟩
    · have HE := Lib.hid (H0.out.trans (if_neg (by omega)))
      clear H0
      have d4 : decide (n ≤ m) = true := decide_eq_true (by omega)
      go_enter Tryz.func113, Tryz.ntmps113
      go_wp2_with fail
      refine (HM.out _).mono ?_
      rintro e w1 ⟨rfl, hb1⟩
      go_wp2_with fail
      go_returns
      exact ⟨by rw [HE.out]; rfl, below_then (by (repeat (first | (with_reducible exact Below.refl _ _) | (with_reducible assumption) | (with_reducible refine below_alloc ?_ _) | (with_reducible refine below_drewN ?_ _) | (with_reducible refine Below.drew ?_) | (with_reducible refine below_then ?_ (by with_reducible assumption)) | (with_reducible refine Below.setCell ?_ (by go_size) _)))) hb1⟩
  · have HM := Lib.hid (fun W => by have := pos_Many d W; rw [V3.many_no hd, V3.err_no hd] at this; exact this)
    · have HE := Lib.hid (show d.askE axis m = 8 by rw [V3.askE, if_neg hd])
      clear hd
      go_enter Tryz.func113, Tryz.ntmps113
      go_wp2_with fail
      refine (HM.out _).mono ?_
      rintro e w1 ⟨rfl, hb1⟩
      go_wp2_with fail
      go_returns
      exact ⟨by rw [HE.out]; rfl, below_then (by (repeat (first | (with_reducible exact Below.refl _ _) | (with_reducible assumption) | (with_reducible refine below_alloc ?_ _) | (with_reducible refine below_drewN ?_ _) | (with_reducible refine Below.drew ?_) | (with_reducible refine below_then ?_ (by with_reducible assumption)) | (with_reducible refine Below.setCell ?_ (by go_size) _)))) hb1⟩
end

section
open Go.RowKit Go.Shelf

theorem ret_ii {a b c e : Int} (h1 : a = b) (h2 : c = e) : Ending.returned (.tuple #[.int .i64 a, .int .i64 c]) = .returned (.tuple #[.int .i64 b, .int .i64 e]) := by rw [h1, h2]
set_option maxRecDepth 100000 in set_option maxHeartbeats 4000000 in
theorem wire_Link (d : V3) (axis m : Int) (w : World) : Calls Tryz.prog 132 #[.agg #[.int .i64 d.x, .int .i64 d.y, .int .i64 d.z], .int .i64 axis, .int .i64 m] w (RB w (.tuple #[.int .i64 (d.linkV axis m), .int .i64 (d.linkE axis m)])) := by
  have HA := Lib.hid (fun W => wire_asked d axis m W)
  by_cases h : d.askE axis m = 0
  · obtain ⟨hd, ⟨a0, a1⟩, m0, m1⟩ := V3.askE_0 h
    have hle := V3.n_le hd
    have HM := Lib.hid (fun W => by have := pos_Many d W; rw [V3.many_ok hd, V3.err_ok hd] at this; exact this)
    have HE := Lib.hid (show d.linkE axis m = if d.at axis.toNat = 1 then 6 else 0 by rw [V3.linkE, if_pos h])
    have HV := Lib.hid (show d.linkV axis m = if d.linkE axis m = 0 then axis * d.n + m else 0 from rfl)
    rw [h] at HA
    clear h hd
    generalize d.n = n at *
    have hax : axis = 0 ∨ axis = 1 ∨ axis = 2 := by omega
    rcases hax with rfl | rfl | rfl
    · clear a0 a1
      by_cases hx : d.x = 1
      · have HE2 := Lib.hid (HE.out.trans (if_pos hx))
        have HV2 := Lib.hid (HV.out.trans (if_neg (by rw [HE2.out]; decide)))
        have heq : (d.x == 1) = true := by simpa using hx
        clear hx
        (go_enter Tryz.func132, Tryz.ntmps132; go_wp2_with fail; refine (HA.out _).mono ?_; rintro e w1 ⟨rfl, hb1⟩; (obtain ⟨hc1, hf1⟩ := bcell hb1; have hz1 := hb1.size; (try simp at hz1); have hB : Below w.heap.size w w1 := (by (repeat (first | (with_reducible exact Below.refl _ _) | (with_reducible assumption) | (with_reducible refine below_alloc ?_ _) | (with_reducible refine below_drewN ?_ _) | (with_reducible refine Below.drew ?_) | (with_reducible refine below_then ?_ (by with_reducible assumption)) | (with_reducible refine Below.setCell ?_ (by go_size) _)))); obtain ⟨hcB, hfB⟩ := bcell hB; (try have z0 : w.heap.size < w1.heap.size := by omega); (try have z1 : w.heap.size + 1 < w1.heap.size := by omega); (try have z2 : w.heap.size + 2 < w1.heap.size := by omega); (try have z3 : w.heap.size + 3 < w1.heap.size := by omega)); go_wp2_with fail; go_returns; exact ⟨ret_ii (by rw [HV2.out]) (by rw [HE2.out]), by (repeat (first | (with_reducible exact Below.refl _ _) | (with_reducible assumption) | (with_reducible refine below_alloc ?_ _) | (with_reducible refine below_drewN ?_ _) | (with_reducible refine Below.drew ?_) | (with_reducible refine below_then ?_ (by with_reducible assumption)) | (with_reducible refine Below.setCell ?_ (by go_size) _)))⟩)
      · have HE2 := Lib.hid (HE.out.trans (if_neg hx))
        have HV2 := Lib.hid (HV.out.trans (if_pos HE2.out))
        have heq : (d.x == 1) = false := by simpa using hx
        clear hx
        (go_enter Tryz.func132, Tryz.ntmps132; go_wp2_with fail; refine (HA.out _).mono ?_; rintro e w1 ⟨rfl, hb1⟩; (obtain ⟨hc1, hf1⟩ := bcell hb1; have hz1 := hb1.size; (try simp at hz1); have hB : Below w.heap.size w w1 := (by (repeat (first | (with_reducible exact Below.refl _ _) | (with_reducible assumption) | (with_reducible refine below_alloc ?_ _) | (with_reducible refine below_drewN ?_ _) | (with_reducible refine Below.drew ?_) | (with_reducible refine below_then ?_ (by with_reducible assumption)) | (with_reducible refine Below.setCell ?_ (by go_size) _)))); obtain ⟨hcB, hfB⟩ := bcell hB; (try have z0 : w.heap.size < w1.heap.size := by omega); (try have z1 : w.heap.size + 1 < w1.heap.size := by omega); (try have z2 : w.heap.size + 2 < w1.heap.size := by omega); (try have z3 : w.heap.size + 3 < w1.heap.size := by omega)); go_wp2_with fail; refine (HM.out _).mono ?_; rintro e w2 ⟨rfl, hb2⟩; go_wp2_with fail; go_returns; exact ⟨ret_ii (by rw [HV2.out] <;> omega) (by rw [HE2.out]), below_then hB hb2⟩)
    · clear a0 a1
      by_cases hx : d.y = 1
      · have HE2 := Lib.hid (HE.out.trans (if_pos hx))
        have HV2 := Lib.hid (HV.out.trans (if_neg (by rw [HE2.out]; decide)))
        have heq : (d.y == 1) = true := by simpa using hx
        clear hx
        (go_enter Tryz.func132, Tryz.ntmps132; go_wp2_with fail; refine (HA.out _).mono ?_; rintro e w1 ⟨rfl, hb1⟩; (obtain ⟨hc1, hf1⟩ := bcell hb1; have hz1 := hb1.size; (try simp at hz1); have hB : Below w.heap.size w w1 := (by (repeat (first | (with_reducible exact Below.refl _ _) | (with_reducible assumption) | (with_reducible refine below_alloc ?_ _) | (with_reducible refine below_drewN ?_ _) | (with_reducible refine Below.drew ?_) | (with_reducible refine below_then ?_ (by with_reducible assumption)) | (with_reducible refine Below.setCell ?_ (by go_size) _)))); obtain ⟨hcB, hfB⟩ := bcell hB; (try have z0 : w.heap.size < w1.heap.size := by omega); (try have z1 : w.heap.size + 1 < w1.heap.size := by omega); (try have z2 : w.heap.size + 2 < w1.heap.size := by omega); (try have z3 : w.heap.size + 3 < w1.heap.size := by omega)); go_wp2_with fail; go_returns; exact ⟨ret_ii (by rw [HV2.out]) (by rw [HE2.out]), by (repeat (first | (with_reducible exact Below.refl _ _) | (with_reducible assumption) | (with_reducible refine below_alloc ?_ _) | (with_reducible refine below_drewN ?_ _) | (with_reducible refine Below.drew ?_) | (with_reducible refine below_then ?_ (by with_reducible assumption)) | (with_reducible refine Below.setCell ?_ (by go_size) _)))⟩)
      · have HE2 := Lib.hid (HE.out.trans (if_neg hx))
        have HV2 := Lib.hid (HV.out.trans (if_pos HE2.out))
        have heq : (d.y == 1) = false := by simpa using hx
        clear hx
        (go_enter Tryz.func132, Tryz.ntmps132; go_wp2_with fail; refine (HA.out _).mono ?_; rintro e w1 ⟨rfl, hb1⟩; (obtain ⟨hc1, hf1⟩ := bcell hb1; have hz1 := hb1.size; (try simp at hz1); have hB : Below w.heap.size w w1 := (by (repeat (first | (with_reducible exact Below.refl _ _) | (with_reducible assumption) | (with_reducible refine below_alloc ?_ _) | (with_reducible refine below_drewN ?_ _) | (with_reducible refine Below.drew ?_) | (with_reducible refine below_then ?_ (by with_reducible assumption)) | (with_reducible refine Below.setCell ?_ (by go_size) _)))); obtain ⟨hcB, hfB⟩ := bcell hB; (try have z0 : w.heap.size < w1.heap.size := by omega); (try have z1 : w.heap.size + 1 < w1.heap.size := by omega); (try have z2 : w.heap.size + 2 < w1.heap.size := by omega); (try have z3 : w.heap.size + 3 < w1.heap.size := by omega)); go_wp2_with fail; refine (HM.out _).mono ?_; rintro e w2 ⟨rfl, hb2⟩; go_wp2_with fail; go_returns; exact ⟨ret_ii (by rw [HV2.out] <;> omega) (by rw [HE2.out]), below_then hB hb2⟩)
    · clear a0 a1
      by_cases hx : d.z = 1
      · have HE2 := Lib.hid (HE.out.trans (if_pos hx))
        have HV2 := Lib.hid (HV.out.trans (if_neg (by rw [HE2.out]; decide)))
        have heq : (d.z == 1) = true := by simpa using hx
        clear hx
        (go_enter Tryz.func132, Tryz.ntmps132; go_wp2_with fail; refine (HA.out _).mono ?_; rintro e w1 ⟨rfl, hb1⟩; (obtain ⟨hc1, hf1⟩ := bcell hb1; have hz1 := hb1.size; (try simp at hz1); have hB : Below w.heap.size w w1 := (by (repeat (first | (with_reducible exact Below.refl _ _) | (with_reducible assumption) | (with_reducible refine below_alloc ?_ _) | (with_reducible refine below_drewN ?_ _) | (with_reducible refine Below.drew ?_) | (with_reducible refine below_then ?_ (by with_reducible assumption)) | (with_reducible refine Below.setCell ?_ (by go_size) _)))); obtain ⟨hcB, hfB⟩ := bcell hB; (try have z0 : w.heap.size < w1.heap.size := by omega); (try have z1 : w.heap.size + 1 < w1.heap.size := by omega); (try have z2 : w.heap.size + 2 < w1.heap.size := by omega); (try have z3 : w.heap.size + 3 < w1.heap.size := by omega)); go_wp2_with fail; go_returns; exact ⟨ret_ii (by rw [HV2.out]) (by rw [HE2.out]), by (repeat (first | (with_reducible exact Below.refl _ _) | (with_reducible assumption) | (with_reducible refine below_alloc ?_ _) | (with_reducible refine below_drewN ?_ _) | (with_reducible refine Below.drew ?_) | (with_reducible refine below_then ?_ (by with_reducible assumption)) | (with_reducible refine Below.setCell ?_ (by go_size) _)))⟩)
      · have HE2 := Lib.hid (HE.out.trans (if_neg hx))
        have HV2 := Lib.hid (HV.out.trans (if_pos HE2.out))
        have heq : (d.z == 1) = false := by simpa using hx
        clear hx
        (go_enter Tryz.func132, Tryz.ntmps132; go_wp2_with fail; refine (HA.out _).mono ?_; rintro e w1 ⟨rfl, hb1⟩; (obtain ⟨hc1, hf1⟩ := bcell hb1; have hz1 := hb1.size; (try simp at hz1); have hB : Below w.heap.size w w1 := (by (repeat (first | (with_reducible exact Below.refl _ _) | (with_reducible assumption) | (with_reducible refine below_alloc ?_ _) | (with_reducible refine below_drewN ?_ _) | (with_reducible refine Below.drew ?_) | (with_reducible refine below_then ?_ (by with_reducible assumption)) | (with_reducible refine Below.setCell ?_ (by go_size) _)))); obtain ⟨hcB, hfB⟩ := bcell hB; (try have z0 : w.heap.size < w1.heap.size := by omega); (try have z1 : w.heap.size + 1 < w1.heap.size := by omega); (try have z2 : w.heap.size + 2 < w1.heap.size := by omega); (try have z3 : w.heap.size + 3 < w1.heap.size := by omega)); go_wp2_with fail; refine (HM.out _).mono ?_; rintro e w2 ⟨rfl, hb2⟩; go_wp2_with fail; go_returns; exact ⟨ret_ii (by rw [HV2.out] <;> omega) (by rw [HE2.out]), below_then hB hb2⟩)
  · have HE2 := Lib.hid (show d.linkE axis m = d.askE axis m by rw [V3.linkE, if_neg h])
    have HV2 := Lib.hid (show d.linkV axis m = 0 by rw [V3.linkV, if_neg (by rw [HE2.out]; exact h)])
    have hn : (d.askE axis m == 0) = false := by simpa using h
    have hm : (d.askE axis m != 0) = true := by simpa using h
    clear h
    generalize d.askE axis m = z at *
    (go_enter Tryz.func132, Tryz.ntmps132; go_wp2_with fail; refine (HA.out _).mono ?_; rintro e w1 ⟨rfl, hb1⟩; (obtain ⟨hc1, hf1⟩ := bcell hb1; have hz1 := hb1.size; (try simp at hz1); have hB : Below w.heap.size w w1 := (by (repeat (first | (with_reducible exact Below.refl _ _) | (with_reducible assumption) | (with_reducible refine below_alloc ?_ _) | (with_reducible refine below_drewN ?_ _) | (with_reducible refine Below.drew ?_) | (with_reducible refine below_then ?_ (by with_reducible assumption)) | (with_reducible refine Below.setCell ?_ (by go_size) _)))); obtain ⟨hcB, hfB⟩ := bcell hB; (try have z0 : w.heap.size < w1.heap.size := by omega); (try have z1 : w.heap.size + 1 < w1.heap.size := by omega); (try have z2 : w.heap.size + 2 < w1.heap.size := by omega); (try have z3 : w.heap.size + 3 < w1.heap.size := by omega)); go_wp2_with fail; go_returns; exact ⟨ret_ii (by rw [HV2.out]) (by rw [HE2.out]), by (repeat (first | (with_reducible exact Below.refl _ _) | (with_reducible assumption) | (with_reducible refine below_alloc ?_ _) | (with_reducible refine below_drewN ?_ _) | (with_reducible refine Below.drew ?_) | (with_reducible refine below_then ?_ (by with_reducible assumption)) | (with_reducible refine Below.setCell ?_ (by go_size) _)))⟩)
end
end
end Go.Proofs.YtofoenlhbmammaaGreat
