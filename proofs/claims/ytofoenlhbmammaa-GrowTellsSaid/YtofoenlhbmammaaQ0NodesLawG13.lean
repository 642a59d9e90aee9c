/- BOX: its midplanes, one after another; sorted they are those that the document lists. -/
import Derived.Test.YtofoenlhbmammaaQ0BoxAxG13
import Derived.Test.YtofoenlhbmammaaQ0SortRiseG13
set_option linter.unusedVariables false
set_option linter.unusedSimpArgs false
namespace Go.Proofs.Ytofoenlhbmammaa

section
/-- Some steps on. -/
def Bx.at (d : V3) (b : Bx) (x y z : Nat) : V3 := ⟨(b.b.x + x) % d.x, (b.b.y + y) % d.y, (b.b.z + z) % d.z⟩
def Bx.nX (d : V3) (b : Bx) (y z k : Nat) : List Int := (List.range k).map fun x => d.num (b.at d x y z)
def Bx.nY (d : V3) (b : Bx) (z k : Nat) : List Int := (List.range k).flatMap fun y => b.nX d y z b.s.x.toNat
def Bx.nZ (d : V3) (b : Bx) (k : Nat) : List Int := (List.range k).flatMap fun z => b.nY d z b.s.y.toNat
theorem Bx.nX_succ (d : V3) (b : Bx) (y z k : Nat) : b.nX d y z (k + 1) = b.nX d y z k ++ [d.num (b.at d k y z)] := by simp [Bx.nX, List.range_succ]
theorem Bx.nY_succ (d : V3) (b : Bx) (z k : Nat) : b.nY d z (k + 1) = b.nY d z k ++ b.nX d k z b.s.x.toNat := by simp [Bx.nY, List.range_succ]
theorem Bx.nZ_succ (d : V3) (b : Bx) (k : Nat) : b.nZ d (k + 1) = b.nZ d k ++ b.nY d k b.s.y.toNat := by simp [Bx.nZ, List.range_succ]
theorem Bx.nX_len (d : V3) (b : Bx) (y z k : Nat) : (b.nX d y z k).length = k := by simp [Bx.nX]
theorem Bx.nY_len (d : V3) (b : Bx) (z k : Nat) : (b.nY d z k).length = k * b.s.x.toNat := by
  induction k with
  | zero => simp [Bx.nY]
  | succ k ih => rw [Bx.nY_succ, List.length_append, ih, Bx.nX_len, Nat.succ_mul]
theorem Bx.nZ_len (d : V3) (b : Bx) (k : Nat) : (b.nZ d k).length = k * (b.s.y.toNat * b.s.x.toNat) := by
  induction k with
  | zero => simp [Bx.nZ]
  | succ k ih => rw [Bx.nZ_succ, List.length_append, ih, Bx.nY_len, Nat.succ_mul]
theorem Bx.part_len {d : V3} {b : Bx} (hd : d.may) (hb : b.may d) {x y z : Nat} (hx : x ≤ b.s.x.toNat) (hy : y ≤ b.s.y.toNat) (hz : z ≤ b.s.z.toNat) : (b.nZ d z ++ b.nY d z y ++ b.nX d y z x).length ≤ 5000 := by
  unfold V3.may at hd
  unfold Bx.may at hb
  rw [List.length_append, List.length_append, Bx.nZ_len, Bx.nY_len, Bx.nX_len]
  have h1 : b.s.y.toNat * b.s.x.toNat ≤ 16 * 16 := Nat.mul_le_mul (by omega) (by omega)
  have h2 : z * (b.s.y.toNat * b.s.x.toNat) ≤ 16 * 256 := Nat.mul_le_mul (by omega) h1
  have h3 : y * b.s.x.toNat ≤ 16 * 16 := Nat.mul_le_mul (by omega) (by omega)
  omega
theorem Bx.at_inside {d : V3} {b : Bx} (hd : d.may) (x y z : Nat) : d.inside (b.at d x y z) := by
  unfold V3.may at hd
  exact ⟨⟨Int.emod_nonneg _ (by omega), Int.emod_lt_of_pos _ (by omega)⟩, ⟨Int.emod_nonneg _ (by omega), Int.emod_lt_of_pos _ (by omega)⟩, Int.emod_nonneg _ (by omega), Int.emod_lt_of_pos _ (by omega)⟩

theorem Bx.mem_nZ {d : V3} {b : Bx} {k : Nat} {m : Int} : m ∈ b.nZ d k ↔ ∃ z y x, z < k ∧ y < b.s.y.toNat ∧ x < b.s.x.toNat ∧ m = d.num (b.at d x y z) := by
  simp only [Bx.nZ, Bx.nY, Bx.nX, List.mem_flatMap, List.mem_map, List.mem_range]
  constructor
  · rintro ⟨z, hz, y, hy, x, hx, rfl⟩; exact ⟨z, y, x, hz, hy, hx, rfl⟩
  · rintro ⟨z, y, x, hz, hy, hx, rfl⟩; exact ⟨z, hz, y, hy, x, hx, rfl⟩

/-- A coordinate is among a run's just if it is few enough steps on. -/
theorem run_iff {b s n p : Int} (h1 : 0 ≤ b) (h2 : b < n) (h3 : 1 ≤ s) (h4 : s ≤ n) (h5 : 0 ≤ p) (h6 : p < n) : (∃ k : Nat, k < s.toNat ∧ p = (b + k) % n) ↔ stepsOn b p n < s := by
  have h := inRun_eq h1 h2 h3 h4 h5 h6
  rw [Bool.eq_iff_iff, decide_eq_true_iff] at h
  rw [← h]
  simp only [inRun, List.any_eq_true, List.mem_range, decide_eq_true_eq]
  constructor
  · rintro ⟨k, hk, e⟩; exact ⟨k, hk, e.symm⟩
  · rintro ⟨k, hk, e⟩; exact ⟨k, hk, e.symm⟩
theorem run_one {b n : Int} {i j : Nat} (h1 : 0 ≤ b) (h2 : b < n) (hi : (i : Int) < n) (hj : (j : Int) < n) (e : (b + i) % n = (b + j) % n) : i = j := by
  rw [emod2 (by omega) (by omega), emod2 (by omega) (by omega)] at e
  split at e <;> split at e <;> omega

theorem V3.num_one {d p q : V3} (hd : d.may) (hp : d.inside p) (hq : d.inside q) (h : d.num p = d.num q) : p = q := by
  rw [← V3.pos_num hd hp, ← V3.pos_num hd hq, h]

theorem Bx.nZ_all {d : V3} {b : Bx} (hd : d.may) (hb : b.may d) (m : Int) : m ∈ b.nZ d b.s.z.toNat ↔ m ∈ b.all d := by
  have hb' := hb
  unfold Bx.may at hb'
  have hd' := hd
  unfold V3.may at hd'
  rw [Bx.mem_nZ, Bx.mem_all]
  constructor
  · rintro ⟨z, y, x, hz, hy, hx, rfl⟩
    have hin := Bx.at_inside (b := b) hd x y z
    have hlt := V3.num_lt hd hin
    refine ⟨hlt, (Bx.has_iff hd hb hlt.1 hlt.2).2 ?_⟩
    rw [V3.pos_num hd hin]
    obtain ⟨i1, i2, i3⟩ := hin
    exact ⟨(run_iff (by omega) (by omega) (by omega) (by omega) i1.1 i1.2).1 ⟨x, hx, rfl⟩, (run_iff (by omega) (by omega) (by omega) (by omega) i2.1 i2.2).1 ⟨y, hy, rfl⟩, (run_iff (by omega) (by omega) (by omega) (by omega) i3.1 i3.2).1 ⟨z, hz, rfl⟩⟩
  · rintro ⟨⟨h0, h1⟩, hh⟩
    obtain ⟨i1, i2, i3⟩ := V3.pos_inside hd h0 h1
    obtain ⟨a1, a2, a3⟩ := (Bx.has_iff hd hb h0 h1).1 hh
    obtain ⟨x, hx, ex⟩ := (run_iff (by omega) (by omega) (by omega) (by omega) i1.1 i1.2).2 a1
    obtain ⟨y, hy, ey⟩ := (run_iff (by omega) (by omega) (by omega) (by omega) i2.1 i2.2).2 a2
    obtain ⟨z, hz, ez⟩ := (run_iff (by omega) (by omega) (by omega) (by omega) i3.1 i3.2).2 a3
    refine ⟨z, y, x, hz, hy, hx, ?_⟩
    have e : b.at d x y z = d.pos m := by unfold Bx.at; rw [← ex, ← ey, ← ez]
    rw [e]
    unfold V3.num V3.pos
    simp only []
    rw [Int.emod_add_mul_ediv, Int.emod_add_mul_ediv]

theorem pairwise_range_map {f : Nat → Int} {k : Nat} (h : ∀ i j, i < k → j < k → f i = f j → i = j) : ((List.range k).map f).Nodup := by
  rw [List.Nodup, List.pairwise_map]
  refine List.Pairwise.imp_of_mem ?_ (List.pairwise_lt_range (n := k))
  intro i j hi hj hlt e
  have := h i j (List.mem_range.1 hi) (List.mem_range.1 hj) e
  omega
theorem nodup_flatMap_range {f : Nat → List Int} {k : Nat} (h1 : ∀ i, i < k → (f i).Nodup) (h2 : ∀ i j x, i < k → j < k → x ∈ f i → x ∈ f j → i = j) : ((List.range k).flatMap f).Nodup := by
  induction k with
  | zero => simp
  | succ k ih =>
    rw [List.range_succ, List.flatMap_append, List.nodup_append]
    refine ⟨ih (fun i hi => h1 i (by omega)) (fun i j x hi hj => h2 i j x (by omega) (by omega)), by simpa using h1 k (by omega), ?_⟩
    intro a ha c hc e
    subst e
    simp only [List.mem_flatMap, List.mem_range] at ha
    obtain ⟨i, hi, ha⟩ := ha
    have := h2 i k a (by omega) (by omega) ha (by simpa using hc)
    omega
theorem Bx.nZ_nodup {d : V3} {b : Bx} (hd : d.may) (hb : b.may d) : (b.nZ d b.s.z.toNat).Nodup := by
  have hb' := hb
  unfold Bx.may at hb'
  have key : ∀ x y z x' y' z', x < b.s.x.toNat → y < b.s.y.toNat → z < b.s.z.toNat → x' < b.s.x.toNat → y' < b.s.y.toNat → z' < b.s.z.toNat → d.num (b.at d x y z) = d.num (b.at d x' y' z') → x = x' ∧ y = y' ∧ z = z' := by
    intro x y z x' y' z' h1 h2 h3 h4 h5 h6 e
    have e2 := V3.num_one hd (Bx.at_inside hd x y z) (Bx.at_inside hd x' y' z') e
    unfold Bx.at at e2
    injection e2 with e3 e4 e5
    exact ⟨run_one (by omega) (by omega) (by omega) (by omega) e3, run_one (by omega) (by omega) (by omega) (by omega) e4, run_one (by omega) (by omega) (by omega) (by omega) e5⟩
  unfold Bx.nZ
  refine nodup_flatMap_range (fun z hz => ?_) (fun z z' m hz hz' hm hm' => ?_)
  · unfold Bx.nY
    refine nodup_flatMap_range (fun y hy => ?_) (fun y y' m hy hy' hm hm' => ?_)
    · exact pairwise_range_map (fun i j hi hj e => (key _ _ _ _ _ _ hi hy hz hj hy hz e).1)
    · simp only [Bx.nX, List.mem_map, List.mem_range] at hm hm'
      obtain ⟨x, hx, rfl⟩ := hm
      obtain ⟨x', hx', e⟩ := hm'
      exact (key _ _ _ _ _ _ hx hy hz hx' hy' hz e.symm).2.1
  · simp only [Bx.nY, Bx.nX, List.mem_flatMap, List.mem_map, List.mem_range] at hm hm'
    obtain ⟨y, hy, x, hx, rfl⟩ := hm
    obtain ⟨y', hy', x', hx', e⟩ := hm'
    exact (key _ _ _ _ _ _ hx hy hz hx' hy' hz' e.symm).2.2

theorem Bx.all_rise (d : V3) (b : Bx) : (b.all d).Pairwise (· < ·) := by
  unfold Bx.all Bx.upto
  refine List.Pairwise.filter _ ?_
  rw [List.pairwise_map]
  exact (List.pairwise_lt_range).imp (fun h => by omega)
theorem Bx.nodes_eq {d : V3} {b : Bx} (hd : d.may) (hb : b.may d) : sorted (b.nZ d b.s.z.toNat) = b.all d :=
  rise_ext (sorted_rise (Bx.nZ_nodup hd hb)) (Bx.all_rise d b) (fun x => ((List.mergeSort_perm _ _).mem_iff).trans (Bx.nZ_all hd hb x))
end
end Go.Proofs.Ytofoenlhbmammaa
