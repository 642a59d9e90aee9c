/- BOX, THE PLAIN LAW: boxes meet along each axis; within one another. -/
import Derived.Test.YtofoenlhbmammaaQ0NodesLawG13
import Derived.Test.YtofoenlhbmammaaQ0BoxCanLawG13
set_option linter.unusedVariables false
set_option linter.unusedSimpArgs false
namespace Go.Proofs.Ytofoenlhbmammaa

section
theorem chk2_both {d : V3} {a b : Bx} : chk2 d a b = 0 ↔ chk d a = 0 ∧ chk d b = 0 := by
  constructor
  · intro h
    obtain ⟨hd, ha, hb⟩ := chk2_0 h
    exact ⟨chk_of hd ha, chk_of hd hb⟩
  · rintro ⟨h1, h2⟩
    obtain ⟨hd, ha⟩ := chk_may h1
    obtain ⟨_, hb⟩ := chk_may h2
    rw [chk2, if_pos hd, okIf_yes ⟨ha, hb⟩]
theorem chk2_turn (d : V3) (a b : Bx) : chk2 d a b = chk2 d b a := by
  unfold chk2
  by_cases hd : d.may
  · rw [if_pos hd, if_pos hd]
    by_cases h : a.may d ∧ b.may d
    · rw [okIf_yes h, okIf_yes h.symm]
    · rw [okIf_no h, okIf_no (fun h' => h h'.symm)]
  · rw [if_neg hd, if_neg hd]
theorem meets1_turn (a b : Bx) (n : Int) (i : Nat) : meets1 a b n i = meets1 b a n i := by unfold meets1; exact Bool.or_comm _ _
theorem boxMeet_turn (d : V3) (a b : Bx) : boxMeet d a b = boxMeet d b a := by
  unfold boxMeet
  rw [chk2_turn]
  simp only [all3, meets1_turn a b]

/-- One axis alone. -/
def axisD (n : Int) (i : Nat) : V3 := ⟨if i = 0 then n else 1, if i = 1 then n else 1, if i = 2 then n else 1⟩
def axisB (b : Bx) (i : Nat) : Bx := ⟨⟨if i = 0 then b.b.x else 0, if i = 1 then b.b.y else 0, if i = 2 then b.b.z else 0⟩, ⟨if i = 0 then b.s.x else 1, if i = 1 then b.s.y else 1, if i = 2 then b.s.z else 1⟩⟩
theorem axis_may {d : V3} {b : Bx} (hd : d.may) (hb : b.may d) (i : Nat) (hi : i < 3) : (axisD (d.at i) i).may ∧ (axisB b i).may (axisD (d.at i) i) := by
  unfold V3.may Bx.may at *
  match i, hi with
  | 0, _ => simp only [axisD, axisB, V3.at0]; simp; omega
  | 1, _ => simp only [axisD, axisB, V3.at1]; simp; omega
  | 2, _ => simp only [axisD, axisB, V3.at2]; simp; omega
theorem one_meet : stepsOn 0 0 1 = 0 := by decide
theorem axis_meet {d : V3} {a b : Bx} (hd : d.may) (ha : a.may d) (hb : b.may d) (i : Nat) (hi : i < 3) :
    chk2 (axisD (d.at i) i) (axisB a i) (axisB b i) = 0 ∧ boxMeet (axisD (d.at i) i) (axisB a i) (axisB b i) = meets1 a b (d.at i) i := by
  obtain ⟨h1, h2⟩ := axis_may hd ha i hi
  have h3 := (axis_may hd hb i hi).2
  have h0 := chk2_both.2 ⟨chk_of h1 h2, chk_of h1 h3⟩
  refine ⟨h0, ?_⟩
  rw [boxMeet_ok h0, Bool.eq_iff_iff]
  simp only [all3, meets1, Bool.and_eq_true, Bool.or_eq_true, decide_eq_true_iff]
  match i, hi with
  | 0, _ => simp [axisD, axisB, one_meet]
  | 1, _ => simp [axisD, axisB, one_meet, V3.at]
  | 2, _ => simp [axisD, axisB, one_meet, V3.at]

theorem steps_lt {f t n : Int} (hf : 0 ≤ f ∧ f < n) (ht : 0 ≤ t ∧ t < n) : 0 ≤ stepsOn f t n ∧ stepsOn f t n < n := by
  unfold stepsOn; exact ⟨Int.emod_nonneg _ (by omega), Int.emod_lt_of_pos _ (by omega)⟩
theorem steps_zero {f t n : Int} (hf : 0 ≤ f ∧ f < n) (ht : 0 ≤ t ∧ t < n) (h : stepsOn f t n ≤ 0) : f = t := by
  rw [stepsOn_eq hf.1 hf.2 ht.1 ht.2] at h; split at h <;> omega
theorem steps_self {f n : Int} (hf : 0 ≤ f ∧ f < n) : stepsOn f f n = 0 := by rw [stepsOn_eq hf.1 hf.2 hf.1 hf.2, if_pos (Int.le_refl _)]; omega

/-- Along one axis: what lies within meets, and is no longer; both ways, it is the same canonical run. -/
theorem inner_axis {a b s u n : Int} (ha : 0 ≤ a ∧ a < n) (hb : 0 ≤ b ∧ b < n) (hs : 1 ≤ s ∧ s ≤ n) (hu : 1 ≤ u ∧ u ≤ n) (h : u = n ∨ stepsOn b a n + s ≤ u) : (stepsOn a b n < s ∨ stepsOn b a n < u) ∧ s ≤ u := by
  have h1 := steps_lt hb ha
  rcases h with h | h
  · exact ⟨.inr (by omega), by omega⟩
  · exact ⟨.inr (by omega), by omega⟩
theorem both_axis {a b s u n : Int} (ha : 0 ≤ a ∧ a < n) (hb : 0 ≤ b ∧ b < n) (hs : 1 ≤ s ∧ s ≤ n) (hu : 1 ≤ u ∧ u ≤ n) :
    ((u = n ∨ stepsOn b a n + s ≤ u) ∧ (s = n ∨ stepsOn a b n + u ≤ s)) ↔ (s = u ∧ (bif s == n then 0 else a) = (bif u == n then 0 else b)) := by
  have h1 := steps_lt hb ha
  have h2 := steps_lt ha hb
  constructor
  · rintro ⟨k1, k2⟩
    by_cases e : s = n
    · have : u = n := by omega
      subst e; subst this
      exact ⟨rfl, by simp⟩
    · have e2 : u ≠ n := by omega
      have e3 : s = u := by omega
      have e4 : a = b := steps_zero ha hb (by omega)
      subst e3; subst e4
      exact ⟨rfl, rfl⟩
  · rintro ⟨rfl, h⟩
    by_cases e : s = n
    · exact ⟨.inl e, .inl e⟩
    · have e2 : (s == n) = false := by simpa using e
      rw [e2] at h
      simp only [cond_false] at h
      subst h
      rw [steps_self ha]
      exact ⟨.inr (by omega), .inr (by omega)⟩

theorem boxWithin_iff {d : V3} {a b : Bx} (h : chk2 d a b = 0) : boxWithin d a b = true ↔ (b.s.x = d.x ∨ stepsOn b.b.x a.b.x d.x + a.s.x ≤ b.s.x) ∧ (b.s.y = d.y ∨ stepsOn b.b.y a.b.y d.y + a.s.y ≤ b.s.y) ∧ (b.s.z = d.z ∨ stepsOn b.b.z a.b.z d.z + a.s.z ≤ b.s.z) := by
  rw [boxWithin_ok h]
  simp only [all3, within1, Bool.and_eq_true, Bool.or_eq_true, decide_eq_true_iff]
  simp only [V3.at0, V3.at1, V3.at2, and_assoc]
theorem boxMeet_iff {d : V3} {a b : Bx} (h : chk2 d a b = 0) : boxMeet d a b = true ↔ (stepsOn a.b.x b.b.x d.x < a.s.x ∨ stepsOn b.b.x a.b.x d.x < b.s.x) ∧ (stepsOn a.b.y b.b.y d.y < a.s.y ∨ stepsOn b.b.y a.b.y d.y < b.s.y) ∧ (stepsOn a.b.z b.b.z d.z < a.s.z ∨ stepsOn b.b.z a.b.z d.z < b.s.z) := by
  rw [boxMeet_ok h]
  simp only [all3, meets1, Bool.and_eq_true, Bool.or_eq_true, decide_eq_true_iff]
  simp only [V3.at0, V3.at1, V3.at2, and_assoc]

theorem within_law {d : V3} {a b : Bx} (h : chk2 d a b = 0) (hw : boxWithin d a b = true) : boxMeet d a b = true ∧ a.vol ≤ b.vol := by
  obtain ⟨_, ha, hb⟩ := chk2_0 h
  unfold Bx.may at ha hb
  obtain ⟨w1, w2, w3⟩ := (boxWithin_iff h).1 hw
  have x := inner_axis (by omega) (by omega) (by omega) (by omega) w1
  have y := inner_axis (by omega) (by omega) (by omega) (by omega) w2
  have z := inner_axis (by omega) (by omega) (by omega) (by omega) w3
  refine ⟨(boxMeet_iff h).2 ⟨x.1, y.1, z.1⟩, ?_⟩
  unfold Bx.vol
  have m1 := mul_le_of (a := a.s.x) (A := b.s.x) (b := a.s.y) (B := b.s.y) (by omega) x.2 (by omega) y.2
  exact (mul_le_of (a := a.s.x * a.s.y) (A := b.s.x * b.s.y) (b := a.s.z) (B := b.s.z) m1.1 m1.2 (by omega) z.2).2

theorem both_law {d : V3} {a b : Bx} (h : chk2 d a b = 0) : decide (a.can d = b.can d) = (boxWithin d a b && boxWithin d b a) := by
  have h' : chk2 d b a = 0 := by rw [chk2_turn]; exact h
  obtain ⟨_, ha, hb⟩ := chk2_0 h
  unfold Bx.may at ha hb
  rw [Bool.eq_iff_iff, decide_eq_true_iff, Bool.and_eq_true, boxWithin_iff h, boxWithin_iff h']
  have x := both_axis (a := a.b.x) (b := b.b.x) (s := a.s.x) (u := b.s.x) (n := d.x) (by omega) (by omega) (by omega) (by omega)
  have y := both_axis (a := a.b.y) (b := b.b.y) (s := a.s.y) (u := b.s.y) (n := d.y) (by omega) (by omega) (by omega) (by omega)
  have z := both_axis (a := a.b.z) (b := b.b.z) (s := a.s.z) (u := b.s.z) (n := d.z) (by omega) (by omega) (by omega) (by omega)
  have e : a.can d = b.can d ↔ ((a.s.x = b.s.x ∧ (bif a.s.x == d.x then 0 else a.b.x) = (bif b.s.x == d.x then 0 else b.b.x)) ∧ (a.s.y = b.s.y ∧ (bif a.s.y == d.y then 0 else a.b.y) = (bif b.s.y == d.y then 0 else b.b.y)) ∧ (a.s.z = b.s.z ∧ (bif a.s.z == d.z then 0 else a.b.z) = (bif b.s.z == d.z then 0 else b.b.z))) := by
    obtain ⟨⟨ax, ay, az⟩, ⟨sx, sy, sz⟩⟩ := a
    obtain ⟨⟨bx, by', bz⟩, ⟨ux, uy, uz⟩⟩ := b
    simp only [Bx.can, Bx.mk.injEq, V3.mk.injEq]
    constructor
    · rintro ⟨⟨h1, h2, h3⟩, h4, h5, h6⟩; exact ⟨⟨h4, h1⟩, ⟨h5, h2⟩, h6, h3⟩
    · rintro ⟨⟨h4, h1⟩, ⟨h5, h2⟩, h6, h3⟩; exact ⟨⟨h1, h2, h3⟩, h4, h5, h6⟩
  rw [e, ← x, ← y, ← z]
  constructor
  · rintro ⟨⟨p1, q1⟩, ⟨p2, q2⟩, p3, q3⟩; exact ⟨⟨p1, p2, p3⟩, q1, q2, q3⟩
  · rintro ⟨⟨p1, p2, p3⟩, q1, q2, q3⟩; exact ⟨⟨p1, q1⟩, ⟨p2, q2⟩, p3, q3⟩
end
end Go.Proofs.Ytofoenlhbmammaa
