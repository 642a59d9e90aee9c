/- GROW, THE PLAIN LAW: canonical boxes free of a set; those that lie in no other one; a box grown as far as it goes. -/
import Derived.Test.YtofoenlhbmammaaQ0MeetsLawG13
import Derived.Test.YtofoenlhbmammaaQ0SetHasPG13
import Derived.Test.YtofoenlhbmammaaQ0WireLawG13
set_option linter.unusedVariables false
set_option linter.unusedSimpArgs false
namespace Go.Proofs.Ytofoenlhbmammaa

section
open Go.RowKit Go.Shelf

/-! ### boxes within one another -/
def Bx.isC (d : V3) (b : Bx) : Prop := b.may d ∧ b.can d = b
instance (d : V3) (b : Bx) : Decidable (b.isC d) := by unfold Bx.isC; infer_instance
/-- One box within another, by coordinates. -/
def Bx.inB (d : V3) (a b : Bx) : Prop := (b.s.x = d.x ∨ stepsOn b.b.x a.b.x d.x + a.s.x ≤ b.s.x) ∧ (b.s.y = d.y ∨ stepsOn b.b.y a.b.y d.y + a.s.y ≤ b.s.y) ∧ (b.s.z = d.z ∨ stepsOn b.b.z a.b.z d.z + a.s.z ≤ b.s.z)
theorem chk2_may {d : V3} {a b : Bx} (hd : d.may) (ha : a.may d) (hb : b.may d) : chk2 d a b = 0 := chk2_eq0 hd ha hb
theorem within_in {d : V3} {a b : Bx} (hd : d.may) (ha : a.may d) (hb : b.may d) : boxWithin d a b = true ↔ a.inB d b := boxWithin_iff (chk2_may hd ha hb)
theorem in_sub {d : V3} {a b : Bx} (hd : d.may) (ha : a.may d) (hb : b.may d) : a.inB d b ↔ ∀ m ∈ a.all d, m ∈ b.all d := by
  rw [← within_in hd ha hb, boxWithin_ok (chk2_may hd ha hb), ← Bx.within_eq hd ha hb]
  simp only [Bool.not_eq_true', List.any_eq_false]
  constructor
  · intro h m hm
    have := h m hm
    exact Bx.mem_all.2 ⟨(Bx.mem_all.1 hm).1, by simpa using this⟩
  · intro h m hm
    have := (Bx.mem_all.1 (h m hm)).2
    simp [this]
theorem in_refl {d : V3} {a : Bx} (hd : d.may) (ha : a.may d) : a.inB d a := (in_sub hd ha ha).2 (fun _ h => h)
theorem in_trans {d : V3} {a b c : Bx} (hd : d.may) (ha : a.may d) (hb : b.may d) (hc : c.may d) (h1 : a.inB d b) (h2 : b.inB d c) : a.inB d c :=
  (in_sub hd ha hc).2 (fun m hm => (in_sub hd hb hc).1 h2 m ((in_sub hd ha hb).1 h1 m hm))
theorem in_anti {d : V3} {a b : Bx} (hd : d.may) (ha : a.isC d) (hb : b.isC d) (h1 : a.inB d b) (h2 : b.inB d a) : a = b := by
  have := both_law (chk2_may hd ha.1 hb.1)
  rw [(within_in hd ha.1 hb.1).2 h1, (within_in hd hb.1 ha.1).2 h2] at this
  have h3 : a.can d = b.can d := by simpa using this
  rw [ha.2, hb.2] at h3
  exact h3
theorem in_size {d : V3} {a b : Bx} (ha : a.may d) (hb : b.may d) (h : a.inB d b) : a.s.x ≤ b.s.x ∧ a.s.y ≤ b.s.y ∧ a.s.z ≤ b.s.z := by
  obtain ⟨hx, hy, hz⟩ := h
  obtain ⟨⟨sx, bx⟩, ⟨sy, by'⟩, ⟨sz, bz⟩⟩ := ha
  obtain ⟨⟨tx, cx⟩, ⟨ty, cy⟩, ⟨tz, cz⟩⟩ := hb
  exact ⟨(inner_axis bx cx sx tx hx).2, (inner_axis by' cy sy ty hy).2, (inner_axis bz cz sz tz hz).2⟩
theorem vol_lt {a b c x y z : Int} (h1 : 1 ≤ a) (h2 : 1 ≤ b) (h3 : 1 ≤ c) (hx : a ≤ x) (hy : b ≤ y) (hz : c ≤ z) (h : a < x ∨ b < y ∨ c < z) : a * b * c < x * y * z := by
  have e1 : a * b ≤ x * y := Int.mul_le_mul hx hy (by omega) (by omega)
  have p1 : 1 ≤ a * b := Int.le_trans (by omega) (Int.mul_le_mul h1 h2 (by omega) (by omega) : (1 : Int) * 1 ≤ a * b)
  by_cases hzz : c < z
  · have e2 : a * b * c < a * b * z := Int.mul_lt_mul_of_pos_left hzz (by omega)
    have e3 : a * b * z ≤ x * y * z := Int.mul_le_mul_of_nonneg_right e1 (by omega)
    omega
  · have e4 : a * b < x * y := by
      by_cases hyy : b < y
      · have e5 : a * b < a * y := Int.mul_lt_mul_of_pos_left hyy (by omega)
        have e6 : a * y ≤ x * y := Int.mul_le_mul_of_nonneg_right hx (by omega)
        omega
      · have hxx : a < x := by omega
        have e5 : a * b < x * b := Int.mul_lt_mul_of_pos_right hxx (by omega)
        have e6 : x * b ≤ x * y := Int.mul_le_mul_of_nonneg_left hy (by omega)
        omega
    have e7 : a * b * c < x * y * c := Int.mul_lt_mul_of_pos_right e4 (by omega)
    have e8 : x * y * c ≤ x * y * z := Int.mul_le_mul_of_nonneg_left hz (by omega)
    omega
theorem vol_pos {d : V3} {a : Bx} (ha : a.may d) : 1 ≤ a.vol := by
  obtain ⟨⟨sx, _⟩, ⟨sy, _⟩, ⟨sz, _⟩⟩ := ha
  have h1 : (1 : Int) * 1 ≤ a.s.x * a.s.y := Int.mul_le_mul (by omega) (by omega) (by omega) (by omega)
  have h2 : (1 : Int) * 1 ≤ a.s.x * a.s.y * a.s.z := Int.mul_le_mul (by omega) (by omega) (by omega) (by omega)
  show 1 ≤ a.s.x * a.s.y * a.s.z
  omega
theorem in_vol {d : V3} {a b : Bx} (ha : a.may d) (hb : b.may d) (h : a.inB d b) (hs : a.s.x < b.s.x ∨ a.s.y < b.s.y ∨ a.s.z < b.s.z) : a.vol < b.vol := by
  obtain ⟨h1, h2, h3⟩ := in_size ha hb h
  obtain ⟨⟨sx, _⟩, ⟨sy, _⟩, ⟨sz, _⟩⟩ := ha
  exact vol_lt sx.1 sy.1 sz.1 h1 h2 h3 hs
theorem axis_eq {a c s n : Int} (ha : 0 ≤ a ∧ a < n) (hc : 0 ≤ c ∧ c < n) (h : s = n ∨ stepsOn c a n + s ≤ s) : s = n ∨ c = a := by
  rcases h with h | h
  · exact .inl h
  · exact .inr (steps_zero hc ha (by omega))
/-- Canonical ones that lie in one another and differ, differ in size. -/
theorem in_ne {d : V3} {a b : Bx} (ha : a.isC d) (hb : b.isC d) (h : a.inB d b) (hne : a ≠ b) : a.s.x < b.s.x ∨ a.s.y < b.s.y ∨ a.s.z < b.s.z := by
  obtain ⟨h1, h2, h3⟩ := in_size ha.1 hb.1 h
  by_cases hx : a.s.x < b.s.x
  · exact .inl hx
  by_cases hy : a.s.y < b.s.y
  · exact .inr (.inl hy)
  by_cases hz : a.s.z < b.s.z
  · exact .inr (.inr hz)
  exfalso
  apply hne
  have ex : a.s.x = b.s.x := by omega
  have ey : a.s.y = b.s.y := by omega
  have ez : a.s.z = b.s.z := by omega
  obtain ⟨⟨⟨sx, bx⟩, ⟨sy, by'⟩, ⟨sz, bz⟩⟩, ca⟩ := ha
  obtain ⟨⟨⟨tx, cx⟩, ⟨ty, cy⟩, ⟨tz, cz⟩⟩, cb⟩ := hb
  obtain ⟨wx, wy, wz⟩ := h
  rw [← ex] at wx; rw [← ey] at wy; rw [← ez] at wz
  have kx := axis_eq bx cx wx
  have ky := axis_eq by' cy wy
  have kz := axis_eq bz cz wz
  obtain ⟨⟨a1, a2, a3⟩, ⟨u1, u2, u3⟩⟩ := a
  obtain ⟨⟨b1, b2, b3⟩, ⟨v1, v2, v3⟩⟩ := b
  simp only [Bx.can, Bx.mk.injEq, V3.mk.injEq] at *
  subst ex ey ez
  obtain ⟨⟨p1, p2, p3⟩, _⟩ := ca
  obtain ⟨⟨q1, q2, q3⟩, _⟩ := cb
  refine ⟨⟨?_, ?_, ?_⟩, rfl, rfl, rfl⟩
  · rcases kx with e | e
    · rw [e] at p1 q1; simp at p1 q1; omega
    · exact e.symm
  · rcases ky with e | e
    · rw [e] at p2 q2; simp at p2 q2; omega
    · exact e.symm
  · rcases kz with e | e
    · rw [e] at p3 q3; simp at p3 q3; omega
    · exact e.symm
theorem in_can {d : V3} {a b : Bx} (hd : d.may) (ha : a.may d) (hb : b.may d) : (a.can d).inB d b ↔ a.inB d b := by
  rw [in_sub hd (Bx.can_may ha) hb, in_sub hd ha hb, Bx.can_all hd ha]
theorem in_can' {d : V3} {a b : Bx} (hd : d.may) (ha : a.may d) (hb : b.may d) : a.inB d (b.can d) ↔ a.inB d b := by
  rw [in_sub hd ha (Bx.can_may hb), in_sub hd ha hb, Bx.can_all hd hb]
theorem can_isC {d : V3} {b : Bx} (hb : b.may d) : (b.can d).isC d := ⟨Bx.can_may hb, Bx.can_can d b⟩

/-! ### free of a set -/
def clearS (d : V3) (s : List Nat) (b : Bx) : Bool := !(b.all d).any (hasI s)
theorem clear_sub {d : V3} {s : List Nat} {a b : Bx} (hd : d.may) (ha : a.may d) (hb : b.may d) (h : a.inB d b) (hc : clearS d s b = true) : clearS d s a = true := by
  unfold clearS at hc ⊢
  rw [Bool.not_eq_true', List.any_eq_false] at hc ⊢
  exact fun m hm => hc m ((in_sub hd ha hb).1 h m hm)
theorem clear_can {d : V3} {s : List Nat} {b : Bx} (hd : d.may) (hb : b.may d) : clearS d s (b.can d) = clearS d s b := by unfold clearS; rw [Bx.can_all hd hb]

/-! ### steps by which a box grows -/
/-- A box one step greater along an axis (base so many back). -/
def Bx.stepG (d : V3) (b : Bx) (k : Nat) (back : Int) : Bx := ⟨b.b.put k ((b.b.at k + d.at k - back) % d.at k), b.s.put k (b.s.at k + 1)⟩
theorem grow_axis {a c s u n : Int} (ha : 0 ≤ a ∧ a < n) (hc : 0 ≤ c ∧ c < n) (hs : 1 ≤ s) (hu : u ≤ n) (hsu : s < u) (h : u = n ∨ stepsOn c a n + s ≤ u) :
    (u = n ∨ stepsOn c ((a + n - 0) % n) n + (s + 1) ≤ u) ∨ (u = n ∨ stepsOn c ((a + n - 1) % n) n + (s + 1) ≤ u) := by
  rcases h with h | h
  · exact .inl (.inl h)
  · by_cases h1 : stepsOn c a n + (s + 1) ≤ u
    · left; right
      rw [show a + n - 0 = a + n by omega, Int.add_emod_right, Int.emod_eq_of_lt ha.1 ha.2]
      exact h1
    · right; right
      have h2 := steps_lt hc ha
      have hne : a ≠ c := fun e => by
        subst e
        rw [steps_self ha] at h h1
        omega
      have h3 := steps_prev ha hc hne
      rw [show a + n - 1 = a + (n - 1) by omega, emod2 (by omega) (by omega)]
      unfold wrapTo at h3
      rw [h3]
      omega
/-- The same box along the other axes; within along this one. -/
theorem axis_same {a c n s u : Int} (ha : 0 ≤ a ∧ a < n) (hb : (a + n) % n = a) (h : u = n ∨ stepsOn c a n + s ≤ u) : u = n ∨ stepsOn c a n + s ≤ u := h
theorem step_may {d : V3} {a : Bx} {k : Nat} {back : Int} (ha : a.may d) (hk : k < 3) (hs : a.s.at k < d.at k) (hb : back = 0 ∨ back = 1) : (a.stepG d k back).may d := by
  obtain ⟨⟨sx, bx⟩, ⟨sy, by'⟩, ⟨sz, bz⟩⟩ := ha
  unfold Bx.may Bx.stepG V3.put
  match k, hk with
  | 0, _ => exact ⟨⟨⟨by simp; omega, by simp at hs ⊢; omega⟩, by simpa using Int.emod_nonneg _ (by omega : d.x ≠ 0), by simpa using Int.emod_lt_of_pos _ (by omega : 0 < d.x)⟩, ⟨sy, by'⟩, ⟨sz, bz⟩⟩
  | 1, _ => exact ⟨⟨sx, bx⟩, ⟨⟨by simp; omega, by simp at hs ⊢; omega⟩, by simpa using Int.emod_nonneg _ (by omega : d.y ≠ 0), by simpa using Int.emod_lt_of_pos _ (by omega : 0 < d.y)⟩, ⟨sz, bz⟩⟩
  | 2, _ => exact ⟨⟨sx, bx⟩, ⟨sy, by'⟩, ⟨⟨by simp; omega, by simp at hs ⊢; omega⟩, by simpa using Int.emod_nonneg _ (by omega : d.z ≠ 0), by simpa using Int.emod_lt_of_pos _ (by omega : 0 < d.z)⟩⟩
theorem step_may_size {d : V3} {a : Bx} {k : Nat} {back : Int} (hk : k < 3) (h : (a.stepG d k back).may d) : a.s.at k < d.at k := by
  obtain ⟨⟨sx, _⟩, ⟨sy, _⟩, ⟨sz, _⟩⟩ := h
  match k, hk with
  | 0, _ => have := sx.2; simp [Bx.stepG, V3.put] at this; simp; omega
  | 1, _ => have := sy.2; simp [Bx.stepG, V3.put] at this; simp; omega
  | 2, _ => have := sz.2; simp [Bx.stepG, V3.put] at this; simp; omega
/-- Where a box lies within a larger one, one of the steps stays within it. -/
theorem grow_in {d : V3} {a c : Bx} {k : Nat} (ha : a.may d) (hc : c.may d) (h : a.inB d c) (hk : k < 3) (hs : a.s.at k < c.s.at k) :
    (a.stepG d k 0).inB d c ∨ (a.stepG d k 1).inB d c := by
  obtain ⟨⟨sx, bx⟩, ⟨sy, by'⟩, ⟨sz, bz⟩⟩ := ha
  obtain ⟨⟨tx, cx⟩, ⟨ty, cy⟩, ⟨tz, cz⟩⟩ := hc
  obtain ⟨wx, wy, wz⟩ := h
  unfold Bx.inB Bx.stepG V3.put
  match k, hk with
  | 0, _ =>
    rcases grow_axis bx cx sx.1 tx.2 (by simpa using hs) wx with h | h
    · exact .inl ⟨by simpa using h, by simpa using wy, by simpa using wz⟩
    · exact .inr ⟨by simpa using h, by simpa using wy, by simpa using wz⟩
  | 1, _ =>
    rcases grow_axis by' cy sy.1 ty.2 (by simpa using hs) wy with h | h
    · exact .inl ⟨by simpa using wx, by simpa using h, by simpa using wz⟩
    · exact .inr ⟨by simpa using wx, by simpa using h, by simpa using wz⟩
  | 2, _ =>
    rcases grow_axis bz cz sz.1 tz.2 (by simpa using hs) wz with h | h
    · exact .inl ⟨by simpa using wx, by simpa using wy, by simpa using h⟩
    · exact .inr ⟨by simpa using wx, by simpa using wy, by simpa using h⟩
/-- A box lies within each of its steps. -/
theorem axis_fwd {a n s : Int} (ha : 0 ≤ a ∧ a < n) (hs : 1 ≤ s) (hn : s < n) : (s + 1 = n ∨ stepsOn ((a + n - 0) % n) a n + s ≤ s + 1) ∧ (s + 1 = n ∨ stepsOn ((a + n - 1) % n) a n + s ≤ s + 1) := by
  constructor
  · right
    rw [show a + n - 0 = a + n by omega, Int.add_emod_right, Int.emod_eq_of_lt ha.1 ha.2, steps_self ha]
    omega
  · right
    rw [show a + n - 1 = a + (n - 1) by omega, emod2 (by omega) (by omega)]
    split
    · rw [stepsOn_eq (by omega) (by omega) ha.1 ha.2]; split <;> omega
    · rw [stepsOn_eq (by omega) (by omega) ha.1 ha.2]; split <;> omega
theorem axis_refl {a n s : Int} (ha : 0 ≤ a ∧ a < n) : s = n ∨ stepsOn a a n + s ≤ s := by right; rw [steps_self ha]; omega
theorem in_step {d : V3} {a : Bx} {k : Nat} {back : Int} (ha : a.may d) (hk : k < 3) (hs : a.s.at k < d.at k) (hb : back = 0 ∨ back = 1) : a.inB d (a.stepG d k back) := by
  obtain ⟨⟨sx, bx⟩, ⟨sy, by'⟩, ⟨sz, bz⟩⟩ := ha
  have rx := axis_refl (s := a.s.x) bx
  have ry := axis_refl (s := a.s.y) by'
  have rz := axis_refl (s := a.s.z) bz
  unfold Bx.inB Bx.stepG V3.put
  match k, hk with
  | 0, _ =>
    have h := axis_fwd bx sx.1 (by simpa using hs)
    rcases hb with rfl | rfl
    · exact ⟨by simpa using h.1, by simpa using ry, by simpa using rz⟩
    · exact ⟨by simpa using h.2, by simpa using ry, by simpa using rz⟩
  | 1, _ =>
    have h := axis_fwd by' sy.1 (by simpa using hs)
    rcases hb with rfl | rfl
    · exact ⟨by simpa using rx, by simpa using h.1, by simpa using rz⟩
    · exact ⟨by simpa using rx, by simpa using h.2, by simpa using rz⟩
  | 2, _ =>
    have h := axis_fwd bz sz.1 (by simpa using hs)
    rcases hb with rfl | rfl
    · exact ⟨by simpa using rx, by simpa using ry, by simpa using h.1⟩
    · exact ⟨by simpa using rx, by simpa using ry, by simpa using h.2⟩
theorem step_vol {d : V3} {a : Bx} {k : Nat} {back : Int} (ha : a.may d) (hk : k < 3) (hs : a.s.at k < d.at k) (hb : back = 0 ∨ back = 1) : a.vol < ((a.stepG d k back).can d).vol := by
  have hm := step_may ha hk hs hb
  refine in_vol (b := (a.stepG d k back)) ha hm (in_step ha hk hs hb) ?_
  match k, hk with
  | 0, _ => left; simp [Bx.stepG, V3.put]; omega
  | 1, _ => right; left; simp [Bx.stepG, V3.put]; omega
  | 2, _ => right; right; simp [Bx.stepG, V3.put]; omega
/-- What a step leads to, if it may be and is free. -/
def okStep (d : V3) (s : List Nat) (b : Bx) (k : Nat) (back : Int) : Bool := decide ((b.stepG d k back).may d) && clearS d s ((b.stepG d k back).can d)
/-- No step leads anywhere: the box lies in no other free one. -/
theorem stuck_most {d : V3} {s : List Nat} {g c : Bx} (hd : d.may) (hg : g.isC d) (hc : c.isC d) (hf : clearS d s c = true) (h : ∀ k, k < 3 → ∀ back, back = 0 ∨ back = 1 → okStep d s g k back = false) (hin : g.inB d c) : g = c := by
  by_cases hne : g = c
  · exact hne
  exfalso
  have hs := in_ne hg hc hin hne
  have go : ∀ k, k < 3 → g.s.at k < c.s.at k → False := fun k hk hlt => by
    have hcd : c.s.at k ≤ d.at k := by
      obtain ⟨⟨sx, _⟩, ⟨sy, _⟩, ⟨sz, _⟩⟩ := hc.1
      match k, hk with
      | 0, _ => exact sx.2
      | 1, _ => exact sy.2
      | 2, _ => exact sz.2
    have key : ∀ back, (back = 0 ∨ back = 1) → (g.stepG d k back).inB d c → False := fun back hb hi => by
      have hm := step_may hg.1 hk (by omega : g.s.at k < d.at k) hb
      have h1 := h k hk back hb
      unfold okStep at h1
      rw [decide_eq_true hm, Bool.true_and, clear_can hd hm, clear_sub hd hm hc.1 hi hf] at h1
      cases h1
    rcases grow_in hg.1 hc.1 hin hk hlt with h1 | h1
    · exact key 0 (.inl rfl) h1
    · exact key 1 (.inr rfl) h1
  rcases hs with h1 | h1 | h1
  · exact go 0 (by omega) h1
  · exact go 1 (by omega) h1
  · exact go 2 (by omega) h1
end
end Go.Proofs.Ytofoenlhbmammaa
