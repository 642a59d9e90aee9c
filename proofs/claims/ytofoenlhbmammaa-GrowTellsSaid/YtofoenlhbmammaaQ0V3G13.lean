/- DIMENSIONS: how many midplanes; coordinates; bounds. -/
import Derived.Test.YtofoenlhbmammaaQ0BaseG13
set_option linter.unusedVariables false
set_option linter.unusedSimpArgs false
namespace Go.Proofs.Ytofoenlhbmammaa

section
open Go.RowKit Go.Shelf

def V3.n (d : V3) : Int := d.x * d.y * d.z

/-- How many midplanes, or none; the error of dimensions. -/
def V3.many (d : V3) : Int := if d.may then d.n else 0
def V3.err (d : V3) : Int := okIf d.may 8
theorem V3.many_ok {d : V3} (h : d.may) : d.many = d.n := if_pos h
theorem V3.many_no {d : V3} (h : ¬ d.may) : d.many = 0 := if_neg h
theorem V3.err_ok {d : V3} (h : d.may) : d.err = 0 := okIf_yes h
theorem V3.err_no {d : V3} (h : ¬ d.may) : d.err = 8 := okIf_no h

/-- The coordinates of a midplane. -/
def V3.pos (d : V3) (m : Int) : V3 := ⟨m % d.x, m / d.x % d.y, m / d.x / d.y⟩

theorem mul_le_of {a b A B : Int} (h0 : 0 ≤ a) (h1 : a ≤ A) (h2 : 0 ≤ b) (h3 : b ≤ B) : 0 ≤ a * b ∧ a * b ≤ A * B :=
  ⟨Int.mul_nonneg h0 h2, Int.mul_le_mul h1 h3 h2 (Int.le_trans h0 h1)⟩

theorem V3.xy_le {d : V3} (h : d.may) : 1 ≤ d.x * d.y ∧ d.x * d.y ≤ 256 := by
  unfold V3.may at h
  have h1 := (mul_le_of (a := d.x - 1) (A := 15) (b := d.y - 1) (B := 15) (by omega) (by omega) (by omega) (by omega)).1
  have h2 := (mul_le_of (a := d.x) (A := 16) (b := d.y) (B := 16) (by omega) (by omega) (by omega) (by omega)).2
  have e : (d.x - 1) * (d.y - 1) = d.x * d.y - d.x - d.y + 1 := by rw [Int.sub_mul, Int.mul_sub, Int.one_mul, Int.mul_one]; omega
  omega
theorem V3.n_le {d : V3} (h : d.may) : 1 ≤ d.n ∧ d.n ≤ 4096 := by
  have hxy := V3.xy_le h
  unfold V3.may at h
  unfold V3.n
  generalize d.x * d.y = p at *
  have h1 := (mul_le_of (a := p - 1) (A := 255) (b := d.z - 1) (B := 15) (by omega) (by omega) (by omega) (by omega)).1
  have h2 := (mul_le_of (a := p) (A := 256) (b := d.z) (B := 16) (by omega) (by omega) (by omega) (by omega)).2
  have e : (p - 1) * (d.z - 1) = p * d.z - p - d.z + 1 := by rw [Int.sub_mul, Int.mul_sub, Int.one_mul, Int.mul_one]; omega
  omega
/-- Coordinates that may be. -/
def V3.inside (d p : V3) : Prop := (0 ≤ p.x ∧ p.x < d.x) ∧ (0 ≤ p.y ∧ p.y < d.y) ∧ (0 ≤ p.z ∧ p.z < d.z)
/-- The midplane at coordinates. -/
def V3.num (d p : V3) : Int := p.x + d.x * (p.y + d.y * p.z)

theorem V3.pos_inside {d : V3} {m : Int} (h : d.may) (h0 : 0 ≤ m) (h1 : m < d.n) : d.inside (d.pos m) := by
  unfold V3.may at h
  unfold V3.n at h1
  refine ⟨⟨Int.emod_nonneg _ (by omega), Int.emod_lt_of_pos _ (by omega)⟩, ⟨Int.emod_nonneg _ (by omega), Int.emod_lt_of_pos _ (by omega)⟩, ?_, ?_⟩
  · exact Int.ediv_nonneg (Int.ediv_nonneg h0 (by omega)) (by omega)
  · simp only [V3.pos]
    refine Int.ediv_lt_of_lt_mul (by omega) (Int.ediv_lt_of_lt_mul (by omega) ?_)
    rw [show d.z * d.y * d.x = d.x * d.y * d.z by rw [Int.mul_comm d.z d.y, Int.mul_assoc, Int.mul_comm (d.y) , Int.mul_comm (d.z * d.x), Int.mul_comm d.z d.x, ← Int.mul_assoc, Int.mul_comm d.y d.x]]
    exact h1

theorem V3.pos_num {d p : V3} (h : d.may) (hp : d.inside p) : d.pos (d.num p) = p := by
  unfold V3.may at h
  obtain ⟨⟨x0, x1⟩, ⟨y0, y1⟩, z0, z1⟩ := hp
  have e1 : (p.x + d.x * (p.y + d.y * p.z)) % d.x = p.x := by rw [Int.add_mul_emod_self_left, Int.emod_eq_of_lt x0 x1]
  have e2 : (p.x + d.x * (p.y + d.y * p.z)) / d.x = p.y + d.y * p.z := by rw [Int.add_mul_ediv_left _ _ (by omega), Int.ediv_eq_zero_of_lt x0 x1, Int.zero_add]
  have e3 : (p.y + d.y * p.z) % d.y = p.y := by rw [Int.add_mul_emod_self_left, Int.emod_eq_of_lt y0 y1]
  have e4 : (p.y + d.y * p.z) / d.y = p.z := by rw [Int.add_mul_ediv_left _ _ (by omega), Int.ediv_eq_zero_of_lt y0 y1, Int.zero_add]
  simp only [V3.pos, V3.num, e1, e2, e3, e4]

theorem V3.num_lt {d p : V3} (h : d.may) (hp : d.inside p) : 0 ≤ d.num p ∧ d.num p < d.n := by
  unfold V3.may at h
  obtain ⟨⟨x0, x1⟩, ⟨y0, y1⟩, z0, z1⟩ := hp
  unfold V3.num V3.n
  have a1 : 0 ≤ d.y * p.z := Int.mul_nonneg (by omega) z0
  have a2 : d.y * p.z ≤ d.y * (d.z - 1) := Int.mul_le_mul_of_nonneg_left (by omega) (by omega)
  have a3 : d.y * (d.z - 1) = d.y * d.z - d.y := by rw [Int.mul_sub, Int.mul_one]
  generalize hq : p.y + d.y * p.z = q at *
  generalize hr : d.y * d.z = r at *
  have b0 : 0 ≤ q ∧ q ≤ r - 1 := by omega
  have b1 : 0 ≤ d.x * q := Int.mul_nonneg (by omega) b0.1
  have b2 : d.x * q ≤ d.x * (r - 1) := Int.mul_le_mul_of_nonneg_left b0.2 (by omega)
  have b3 : d.x * (r - 1) = d.x * r - d.x := by rw [Int.mul_sub, Int.mul_one]
  have b4 : d.x * d.y * d.z = d.x * r := by rw [Int.mul_assoc, hr]
  omega
end
end Go.Proofs.Ytofoenlhbmammaa
