/- WIRES, THE PLAIN LAW: a step; how far; a cable's number and its ends. -/
import Derived.Test.YtofoenlhbmammaaQ0PosCG13
set_option linter.unusedVariables false
set_option linter.unusedSimpArgs false
namespace Go.Proofs.Ytofoenlhbmammaa

section
open Go.RowKit Go.Shelf

def V3.put (p : V3) (k : Nat) (v : Int) : V3 := ⟨if k = 0 then v else p.x, if k = 1 then v else p.y, if k = 2 then v else p.z⟩
/-- The midplane some steps on. -/
def V3.stepped (d : V3) (m : Int) (k : Nat) (by' : Int) : V3 := (d.pos m).put k (((d.pos m).at k + by') % d.at k)
def V3.step (d : V3) (m : Int) (k : Nat) (by' : Int) : Int := d.num (d.stepped m k by')
theorem V3.stepped_inside {d : V3} {m : Int} (h : d.may) (h0 : 0 ≤ m) (h1 : m < d.n) {k : Nat} (hk : k < 3) (by' : Int) : d.inside (d.stepped m k by') := by
  obtain ⟨px, py, pz⟩ := V3.pos_inside h h0 h1
  unfold V3.may at h
  unfold V3.stepped V3.put V3.inside
  generalize d.pos m = p at *
  match k, hk with
  | 0, _ => exact ⟨⟨Int.emod_nonneg _ (by show d.x ≠ 0; omega), Int.emod_lt_of_pos _ (by show 0 < d.x; omega)⟩, py, pz⟩
  | 1, _ => exact ⟨px, ⟨Int.emod_nonneg _ (by show d.y ≠ 0; omega), Int.emod_lt_of_pos _ (by show 0 < d.y; omega)⟩, pz⟩
  | 2, _ => exact ⟨px, py, Int.emod_nonneg _ (by show d.z ≠ 0; omega), Int.emod_lt_of_pos _ (by show 0 < d.z; omega)⟩
/-- How far two coordinates are apart along a ring. -/
def ringFar (n p q : Int) : Int := if n - (q - p + n) % n < (q - p + n) % n then n - (q - p + n) % n else (q - p + n) % n
def V3.far (d p q : V3) : Int := ringFar d.x p.x q.x + ringFar d.y p.y q.y + ringFar d.z p.z q.z
theorem ringFar_self {n p : Int} (hn : 1 ≤ n) : ringFar n p p = 0 := by
  unfold ringFar
  rw [show p - p + n = n by omega, Int.emod_self, if_neg (by omega)]
theorem ringFar_next {n p : Int} (hn : 2 ≤ n) (h0 : 0 ≤ p) (h1 : p < n) : ringFar n p ((p + 1) % n) = 1 := by
  have h : ((p + 1) % n - p + n) % n = 1 := by
    rcases Int.lt_or_le (p + 1) n with h2 | h2
    · rw [Int.emod_eq_of_lt (by omega) h2, show p + 1 - p + n = 1 + n by omega, Int.add_emod_right, Int.emod_eq_of_lt (by omega) (by omega)]
    · rw [show p + 1 = n by omega, Int.emod_self, show 0 - p + n = 1 by omega, Int.emod_eq_of_lt (by omega) (by omega)]
  unfold ringFar
  rw [h, if_neg (by omega)]
theorem far_step {d : V3} {m : Int} (h : d.may) (h0 : 0 ≤ m) (h1 : m < d.n) {k : Nat} (hk : k < 3) (hn : d.at k ≠ 1) : d.far (d.pos m) (d.pos (d.step m k 1)) = 1 := by
  unfold V3.step
  rw [V3.pos_num h (V3.stepped_inside h h0 h1 hk 1)]
  obtain ⟨px, py, pz⟩ := V3.pos_inside h h0 h1
  unfold V3.may at h
  unfold V3.stepped V3.put V3.far
  generalize d.pos m = p at *
  match k, hk with
  | 0, _ =>
    change d.x ≠ 1 at hn
    show ringFar d.x p.x ((p.x + 1) % d.x) + ringFar d.y p.y p.y + ringFar d.z p.z p.z = 1
    rw [ringFar_next (by omega) px.1 px.2, ringFar_self (by omega), ringFar_self (by omega)]; rfl
  | 1, _ =>
    change d.y ≠ 1 at hn
    show ringFar d.x p.x p.x + ringFar d.y p.y ((p.y + 1) % d.y) + ringFar d.z p.z p.z = 1
    rw [ringFar_next (by omega) py.1 py.2, ringFar_self (by omega), ringFar_self (by omega)]; rfl
  | 2, _ =>
    change d.z ≠ 1 at hn
    show ringFar d.x p.x p.x + ringFar d.y p.y p.y + ringFar d.z p.z ((p.z + 1) % d.z) = 1
    rw [ringFar_next (by omega) pz.1 pz.2, ringFar_self (by omega), ringFar_self (by omega)]; rfl

/-- The error of an axis and a midplane; a cable's number. -/
def V3.askE (d : V3) (axis m : Int) : Int := if d.may then if (0 ≤ axis ∧ axis ≤ 2) ∧ (0 ≤ m ∧ m < d.n) then 0 else 2 else 8
def V3.linkE (d : V3) (axis m : Int) : Int := if d.askE axis m = 0 then if d.at axis.toNat = 1 then 6 else 0 else d.askE axis m
def V3.linkV (d : V3) (axis m : Int) : Int := if d.linkE axis m = 0 then axis * d.n + m else 0
/-- A cable's ends. -/
def V3.endE (d : V3) (l : Int) : Int := if d.may then if 0 ≤ l ∧ l < 3 * d.n then if d.at (l / d.n).toNat = 1 then 6 else 0 else 2 else 8
def V3.endA (d : V3) (l : Int) : Int := if d.endE l = 0 then l / d.n else 0
def V3.endM (d : V3) (l : Int) : Int := if d.endE l = 0 then l % d.n else 0
def V3.endT (d : V3) (l : Int) : Int := if d.endE l = 0 then d.step (l % d.n) (l / d.n).toNat 1 else 0
theorem V3.askE_0 {d : V3} {axis m : Int} (h : d.askE axis m = 0) : d.may ∧ (0 ≤ axis ∧ axis ≤ 2) ∧ (0 ≤ m ∧ m < d.n) := by
  unfold V3.askE at h
  split at h
  · next h1 =>
    split at h
    · next h2 => exact ⟨h1, h2⟩
    · cases h
  · cases h
theorem V3.linkE_0 {d : V3} {axis m : Int} (h : d.linkE axis m = 0) : (d.may ∧ (0 ≤ axis ∧ axis ≤ 2) ∧ (0 ≤ m ∧ m < d.n)) ∧ d.at axis.toNat ≠ 1 := by
  unfold V3.linkE at h
  split at h
  · next h1 =>
    split at h
    · cases h
    · next h2 => exact ⟨V3.askE_0 h1, h2⟩
  · next h1 => exact absurd h h1
theorem V3.endE_0 {d : V3} {l : Int} (h : d.endE l = 0) : d.may ∧ (0 ≤ l ∧ l < 3 * d.n) ∧ d.at (l / d.n).toNat ≠ 1 := by
  unfold V3.endE at h
  split at h
  · next h1 =>
    split at h
    · next h2 =>
      split at h
      · cases h
      · next h3 => exact ⟨h1, h2, h3⟩
    · cases h
  · cases h
theorem divI_of {n a m : Int} (h0 : 0 ≤ m) (h1 : m < n) : (a * n + m) / n = a ∧ (a * n + m) % n = m := by
  constructor
  · rw [Int.add_comm, Int.add_mul_ediv_right _ _ (by omega), Int.ediv_eq_zero_of_lt h0 h1, Int.zero_add]
  · rw [Int.add_comm, Int.add_mul_emod_self_right, Int.emod_eq_of_lt h0 h1]
/-- What Link gives, Ends takes back. -/
theorem link_end {d : V3} {axis m : Int} (h : d.linkE axis m = 0) : d.endE (d.linkV axis m) = 0 ∧ d.endA (d.linkV axis m) = axis ∧ d.endM (d.linkV axis m) = m ∧ d.endT (d.linkV axis m) = d.step m axis.toNat 1 := by
  obtain ⟨⟨hd, ⟨a0, a1⟩, m0, m1⟩, hn⟩ := V3.linkE_0 h
  have hv : d.linkV axis m = axis * d.n + m := if_pos h
  obtain ⟨e1, e2⟩ := divI_of (a := axis) m0 m1
  have hle := V3.n_le hd
  have hb : 0 ≤ axis * d.n + m ∧ axis * d.n + m < 3 * d.n := by
    have h1 : 0 ≤ axis * d.n := Int.mul_nonneg a0 (by omega)
    have h2 : axis * d.n ≤ 2 * d.n := Int.mul_le_mul_of_nonneg_right a1 (by omega)
    omega
  have he : d.endE (d.linkV axis m) = 0 := by
    rw [hv, V3.endE, if_pos hd, if_pos hb, e1, if_neg hn]
  refine ⟨he, ?_, ?_, ?_⟩
  · rw [V3.endA, if_pos he, hv, e1]
  · rw [V3.endM, if_pos he, hv, e2]
  · rw [V3.endT, if_pos he, hv, e1, e2]
/-- What Ends gives, Link takes back; the ends are one step apart. -/
theorem end_link {d : V3} {l : Int} (h : d.endE l = 0) : (d.linkE (d.endA l) (d.endM l) = 0 ∧ d.linkV (d.endA l) (d.endM l) = l) ∧ d.far (d.pos (d.endM l)) (d.pos (d.endT l)) = 1 ∧ (0 ≤ d.endM l ∧ d.endM l < d.n) ∧ (0 ≤ d.endT l ∧ d.endT l < d.n) := by
  obtain ⟨hd, ⟨l0, l1⟩, hn⟩ := V3.endE_0 h
  have hle := V3.n_le hd
  have a0 : 0 ≤ l / d.n := Int.ediv_nonneg l0 (by omega)
  have a1 : l / d.n < 3 := Int.ediv_lt_of_lt_mul (by omega) (by omega)
  have m0 : 0 ≤ l % d.n := Int.emod_nonneg _ (by omega)
  have m1 : l % d.n < d.n := Int.emod_lt_of_pos _ (by omega)
  have eA : d.endA l = l / d.n := if_pos h
  have eM : d.endM l = l % d.n := if_pos h
  have eT : d.endT l = d.step (l % d.n) (l / d.n).toNat 1 := if_pos h
  rw [eA, eM, eT]
  have hk : (l / d.n).toNat < 3 := by omega
  have hL : d.linkE (l / d.n) (l % d.n) = 0 := by
    have : d.askE (l / d.n) (l % d.n) = 0 := by rw [V3.askE, if_pos hd, if_pos ⟨⟨a0, by omega⟩, m0, m1⟩]
    rw [V3.linkE, if_pos this, if_neg hn]
  refine ⟨⟨hL, ?_⟩, far_step hd m0 m1 hk hn, ⟨m0, m1⟩, V3.num_lt hd (V3.stepped_inside hd m0 m1 hk 1)⟩
  rw [V3.linkV, if_pos hL]
  have := Int.mul_ediv_add_emod l d.n
  rw [Int.mul_comm]; exact this
end
end Go.Proofs.Ytofoenlhbmammaa
