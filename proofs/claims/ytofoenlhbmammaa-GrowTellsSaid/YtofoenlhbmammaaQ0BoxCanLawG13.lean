/- BOX, THE PLAIN LAW: the same midplanes, just if the same canonical box. -/
import Derived.Test.YtofoenlhbmammaaQ0BoxNodesG13
set_option linter.unusedVariables false
set_option linter.unusedSimpArgs false
namespace Go.Proofs.Ytofoenlhbmammaa

section
theorem Bx.can_may {d : V3} {b : Bx} (hb : b.may d) : (b.can d).may d := by
  unfold Bx.may at *
  obtain ⟨⟨h1, h2⟩, ⟨h3, h4⟩, h5, h6⟩ := hb
  refine ⟨⟨h1, ?_⟩, ⟨h3, ?_⟩, h5, ?_⟩
  · simp only [Bx.can]; cases b.s.x == d.x <;> simp <;> omega
  · simp only [Bx.can]; cases b.s.y == d.y <;> simp <;> omega
  · simp only [Bx.can]; cases b.s.z == d.z <;> simp <;> omega
theorem Bx.can_can (d : V3) (b : Bx) : (b.can d).can d = b.can d := by
  simp only [Bx.can]
  cases b.s.x == d.x <;> cases b.s.y == d.y <;> cases b.s.z == d.z <;> rfl
theorem run_whole {b n p : Int} (h1 : 0 ≤ b) (h2 : b < n) (h5 : 0 ≤ p) (h6 : p < n) : stepsOn b p n < n := by
  unfold stepsOn; exact Int.emod_lt_of_pos _ (by omega)
theorem can_run {b s n p : Int} (h1 : 0 ≤ b) (h2 : b < n) (h5 : 0 ≤ p) (h6 : p < n) : stepsOn (bif s == n then 0 else b) p n < s ↔ stepsOn b p n < s := by
  cases e : s == n with
  | false => rfl
  | true =>
    obtain rfl : s = n := by simpa using e
    exact ⟨fun _ => run_whole h1 h2 h5 h6, fun _ => run_whole (by simp) (by simp; omega) h5 h6⟩
theorem Bx.can_hasP {d p : V3} {b : Bx} (hb : b.may d) (hp : d.inside p) : (b.can d).hasP d p ↔ b.hasP d p := by
  unfold Bx.may at hb
  obtain ⟨i1, i2, i3⟩ := hp
  unfold Bx.hasP
  simp only [Bx.can]
  rw [can_run (by omega) (by omega) i1.1 i1.2, can_run (by omega) (by omega) i2.1 i2.2, can_run (by omega) (by omega) i3.1 i3.2]
theorem Bx.mem_all_iff {d : V3} {b : Bx} (hd : d.may) (hb : b.may d) {m : Int} : m ∈ b.all d ↔ (0 ≤ m ∧ m < d.n) ∧ b.hasP d (d.pos m) := by
  rw [Bx.mem_all]
  constructor
  · rintro ⟨h, hh⟩; exact ⟨h, (Bx.has_iff hd hb h.1 h.2).1 hh⟩
  · rintro ⟨h, hh⟩; exact ⟨h, (Bx.has_iff hd hb h.1 h.2).2 hh⟩
theorem Bx.can_all {d : V3} {b : Bx} (hd : d.may) (hb : b.may d) : (b.can d).all d = b.all d := by
  refine rise_ext (Bx.all_rise _ _) (Bx.all_rise _ _) (fun m => ?_)
  rw [Bx.mem_all_iff hd (Bx.can_may hb), Bx.mem_all_iff hd hb]
  constructor
  · rintro ⟨h, hh⟩; exact ⟨h, (Bx.can_hasP hb (V3.pos_inside hd h.1 h.2)).1 hh⟩
  · rintro ⟨h, hh⟩; exact ⟨h, (Bx.can_hasP hb (V3.pos_inside hd h.1 h.2)).2 hh⟩

def wrapTo (x n : Int) : Int := if x < n then x else x - n
theorem wrapTo_in {x n : Int} (h0 : 0 ≤ x) (h1 : x < 2 * n) : 0 ≤ wrapTo x n ∧ wrapTo x n < n := by unfold wrapTo; split <;> omega
theorem steps_wrap {a k n : Int} (ha : 0 ≤ a ∧ a < n) (hk : 0 ≤ k ∧ k < n) : stepsOn a (wrapTo (a + k) n) n = k := by
  have h := wrapTo_in (x := a + k) (n := n) (by omega) (by omega)
  rw [stepsOn_eq ha.1 ha.2 h.1 h.2]
  unfold wrapTo
  split <;> split <;> omega
theorem steps_prev {a b n : Int} (ha : 0 ≤ a ∧ a < n) (hb : 0 ≤ b ∧ b < n) (h0 : a ≠ b) : stepsOn b (wrapTo (a + (n - 1)) n) n = stepsOn b a n - 1 := by
  have h := wrapTo_in (x := a + (n - 1)) (n := n) (by omega) (by omega)
  rw [stepsOn_eq hb.1 hb.2 h.1 h.2, stepsOn_eq hb.1 hb.2 ha.1 ha.2]
  unfold wrapTo
  split <;> split <;> split <;> omega
theorem run_same {a b s u n : Int} (ha : 0 ≤ a ∧ a < n) (hb : 0 ≤ b ∧ b < n) (hs : 1 ≤ s ∧ s ≤ n) (hu : 1 ≤ u ∧ u ≤ n) (h : ∀ t, 0 ≤ t → t < n → (stepsOn a t n < s ↔ stepsOn b t n < u)) : s = u ∧ (s = n ∨ a = b) := by
  have at' : ∀ x k, 0 ≤ x → x < n → 0 ≤ k → k < n → (stepsOn a (wrapTo (x + k) n) n < s ↔ stepsOn b (wrapTo (x + k) n) n < u) := fun x k h1 h2 h3 h4 => by
    have := wrapTo_in (x := x + k) (n := n) (by omega) (by omega)
    exact h _ this.1 this.2
  have hor : s = n ∨ a = b := by
    by_cases e : a = b
    · exact .inr e
    · left
      have k1 := at' a 0 ha.1 ha.2 (Int.le_refl _) (by omega)
      rw [steps_wrap ha ⟨Int.le_refl _, by omega⟩, show wrapTo (a + 0) n = a by unfold wrapTo; rw [if_pos (by omega)]; omega] at k1
      have k2 := at' a (n - 1) ha.1 ha.2 (by omega) (by omega)
      rw [steps_wrap ha ⟨by omega, by omega⟩, steps_prev ha hb e] at k2
      have : stepsOn b a n < u := k1.1 (by omega)
      have : n - 1 < s := k2.2 (by omega)
      omega
  refine ⟨?_, hor⟩
  rcases hor with e | e
  · have k3 := at' b (n - 1) hb.1 hb.2 (by omega) (by omega)
    rw [steps_wrap hb ⟨by omega, by omega⟩] at k3
    have h3 := wrapTo_in (x := b + (n - 1)) (n := n) (by omega) (by omega)
    have := k3.1 (by rw [e]; exact run_whole ha.1 ha.2 h3.1 h3.2)
    omega
  · subst e
    have k3 := at' a (s - 1) ha.1 ha.2 (by omega) (by omega)
    rw [steps_wrap ha ⟨by omega, by omega⟩] at k3
    have k4 := at' a (u - 1) ha.1 ha.2 (by omega) (by omega)
    rw [steps_wrap ha ⟨by omega, by omega⟩] at k4
    have : s - 1 < u := k3.1 (by omega)
    have : u - 1 < s := k4.2 (by omega)
    omega

theorem V3.inside_mk {d : V3} {x y z : Int} (h1 : 0 ≤ x ∧ x < d.x) (h2 : 0 ≤ y ∧ y < d.y) (h3 : 0 ≤ z ∧ z < d.z) : d.inside ⟨x, y, z⟩ := ⟨h1, h2, h3⟩
theorem Bx.same_iff {d : V3} {a b : Bx} (hd : d.may) (ha : a.may d) (hb : b.may d) : a.all d = b.all d ↔ a.can d = b.can d := by
  constructor
  · intro h
    have hq : ∀ p, d.inside p → (a.hasP d p ↔ b.hasP d p) := by
      intro p hp
      have hn := V3.num_lt hd hp
      have h1 := Bx.mem_all_iff hd ha (m := d.num p)
      have h2 := Bx.mem_all_iff hd hb (m := d.num p)
      rw [V3.pos_num hd hp] at h1 h2
      rw [h] at h1
      constructor
      · intro hh; exact (h2.1 (h1.2 ⟨hn, hh⟩)).2
      · intro hh; exact (h1.1 (h2.2 ⟨hn, hh⟩)).2
    have ha' := ha
    have hb' := hb
    unfold Bx.may at ha' hb'
    have z0 : ∀ x n : Int, 0 ≤ x → x < n → stepsOn x x n = 0 := fun x n h1 h2 => by rw [stepsOn_eq h1 h2 h1 h2, if_pos (Int.le_refl _)]; omega
    have hbase : b.hasP d a.b := (hq a.b ⟨⟨by omega, by omega⟩, ⟨by omega, by omega⟩, by omega, by omega⟩).1 ⟨by rw [z0 _ _ (by omega) (by omega)]; omega, by rw [z0 _ _ (by omega) (by omega)]; omega, by rw [z0 _ _ (by omega) (by omega)]; omega⟩
    obtain ⟨g1, g2, g3⟩ := hbase
    have y0 : stepsOn a.b.x a.b.x d.x < a.s.x := by rw [z0 _ _ (by omega) (by omega)]; omega
    have y1 : stepsOn a.b.y a.b.y d.y < a.s.y := by rw [z0 _ _ (by omega) (by omega)]; omega
    have y2 : stepsOn a.b.z a.b.z d.z < a.s.z := by rw [z0 _ _ (by omega) (by omega)]; omega
    have rx := run_same (a := a.b.x) (b := b.b.x) (s := a.s.x) (u := b.s.x) (n := d.x) (by omega) (by omega) (by omega) (by omega) (fun t h1 h2 => by
      have := hq ⟨t, a.b.y, a.b.z⟩ (V3.inside_mk ⟨h1, h2⟩ (by omega) (by omega))
      unfold Bx.hasP at this
      exact ⟨fun h => (this.1 ⟨h, y1, y2⟩).1, fun h => (this.2 ⟨h, g2, g3⟩).1⟩)
    have ry := run_same (a := a.b.y) (b := b.b.y) (s := a.s.y) (u := b.s.y) (n := d.y) (by omega) (by omega) (by omega) (by omega) (fun t h1 h2 => by
      have := hq ⟨a.b.x, t, a.b.z⟩ (V3.inside_mk (by omega) ⟨h1, h2⟩ (by omega))
      unfold Bx.hasP at this
      exact ⟨fun h => (this.1 ⟨y0, h, y2⟩).2.1, fun h => (this.2 ⟨g1, h, g3⟩).2.1⟩)
    have rz := run_same (a := a.b.z) (b := b.b.z) (s := a.s.z) (u := b.s.z) (n := d.z) (by omega) (by omega) (by omega) (by omega) (fun t h1 h2 => by
      have := hq ⟨a.b.x, a.b.y, t⟩ (V3.inside_mk (by omega) (by omega) ⟨h1, h2⟩)
      unfold Bx.hasP at this
      exact ⟨fun h => (this.1 ⟨y0, y1, h⟩).2.2, fun h => (this.2 ⟨g1, g2, h⟩).2.2⟩)
    obtain ⟨⟨ax, ay, az⟩, ⟨sx, sy, sz⟩⟩ := a
    obtain ⟨⟨bx, by', bz⟩, ⟨ux, uy, uz⟩⟩ := b
    simp only at rx ry rz
    obtain ⟨rfl, rx⟩ := rx
    obtain ⟨rfl, ry⟩ := ry
    obtain ⟨rfl, rz⟩ := rz
    have e1 : (bif sx == d.x then 0 else ax) = (bif sx == d.x then 0 else bx) := by rcases rx with e | e <;> simp [e]
    have e2 : (bif sy == d.y then 0 else ay) = (bif sy == d.y then 0 else by') := by rcases ry with e | e <;> simp [e]
    have e3 : (bif sz == d.z then 0 else az) = (bif sz == d.z then 0 else bz) := by rcases rz with e | e <;> simp [e]
    simp only [Bx.can, e1, e2, e3]
  · intro h
    rw [← Bx.can_all hd ha, ← Bx.can_all hd hb, h]
end
end Go.Proofs.Ytofoenlhbmammaa
