/- PLACE, THE PLAIN LAW: cables by coordinates; the sets of a place; places apart. -/
import Derived.Test.YtofoenlhbmammaaGreatQ6F11
import Derived.Test.YtofoenlhbmammaaGreatQ7F11
import Derived.Test.YtofoenlhbmammaaGreatQ12F11
import Derived.Test.YtofoenlhbmammaaGreatQ0PlSetsF11
set_option linter.unusedVariables false
set_option linter.unusedSimpArgs false
namespace Go.Proofs.YtofoenlhbmammaaGreat

section
section
open Go.RowKit Go.Shelf

theorem V3.put_at (p : V3) (v : Int) {k j : Nat} (hk : k < 3) (hj : j < 3) : (p.put k v).at j = if j = k then v else p.at j := by
  match k, hk, j, hj with
  | 0, _, 0, _ => rfl
  | 0, _, 1, _ => rfl
  | 0, _, 2, _ => rfl
  | 1, _, 0, _ => rfl
  | 1, _, 1, _ => rfl
  | 1, _, 2, _ => rfl
  | 2, _, 0, _ => rfl
  | 2, _, 1, _ => rfl
  | 2, _, 2, _ => rfl
theorem V3.ext3 {p q : V3} (h : ∀ j, j < 3 → p.at j = q.at j) : p = q := by
  have h0 := h 0 (by omega); have h1 := h 1 (by omega); have h2 := h 2 (by omega)
  obtain ⟨a, b, c⟩ := p
  obtain ⟨x, y, z⟩ := q
  simp only [V3.at0, V3.at1, V3.at2] at h0 h1 h2
  subst h0 h1 h2
  rfl
theorem V3.inside_at {d p : V3} : d.inside p ↔ ∀ j, j < 3 → 0 ≤ p.at j ∧ p.at j < d.at j := by
  constructor
  · rintro ⟨h0, h1, h2⟩ j hj
    match j, hj with
    | 0, _ => exact h0
    | 1, _ => exact h1
    | 2, _ => exact h2
  · intro h; exact ⟨h 0 (by omega), h 1 (by omega), h 2 (by omega)⟩
theorem Bx.may_at {d : V3} {b : Bx} : b.may d ↔ ∀ j, j < 3 → (1 ≤ b.s.at j ∧ b.s.at j ≤ d.at j) ∧ (0 ≤ b.b.at j ∧ b.b.at j < d.at j) := by
  constructor
  · rintro ⟨h0, h1, h2⟩ j hj
    match j, hj with
    | 0, _ => exact h0
    | 1, _ => exact h1
    | 2, _ => exact h2
  · intro h; exact ⟨h 0 (by omega), h 1 (by omega), h 2 (by omega)⟩
theorem Bx.hasP_at {d : V3} {b : Bx} {p : V3} : b.hasP d p ↔ ∀ j, j < 3 → stepsOn (b.b.at j) (p.at j) (d.at j) < b.s.at j := by
  constructor
  · rintro ⟨h0, h1, h2⟩ j hj
    match j, hj with
    | 0, _ => exact h0
    | 1, _ => exact h1
    | 2, _ => exact h2
  · intro h; exact ⟨h 0 (by omega), h 1 (by omega), h 2 (by omega)⟩
/-- Whether the cable along an axis from a midplane on is one of a place. -/
def lk (d : V3) (p : Pl) (k : Nat) (q : V3) : Prop :=
  1 < p.b.s.at k ∧ (∀ j, j < 3 → j ≠ k → stepsOn (p.b.b.at j) (q.at j) (d.at j) < p.b.s.at j) ∧ (p.tor k = true ∨ stepsOn (p.b.b.at k) (q.at k) (d.at k) < p.b.s.at k - 1)
theorem mem_sorted (l : List Int) (x : Int) : x ∈ sorted l ↔ x ∈ l := (List.mergeSort_perm _ _).mem_iff
/-- How many of a line are taken. -/
def Pl.per (d : V3) (p : Pl) (k : Nat) : Nat := if p.tor k then (d.at k).toNat else (p.b.s.at k - 1).toNat
theorem run_eq {d : V3} {p : Pl} {k : Nat} {m : Int} (hd : d.may) (hb : p.b.may d) (hk : k < 3) (m0 : 0 ≤ m) (m1 : m < d.n) :
    d.runV k m (p.b.s.at k) (p.tor k) = if 1 < p.b.s.at k then sorted (d.links k m (p.per d k)) else [] := by
  have ha : d.askE k m = 0 := by rw [V3.askE, if_pos hd, if_pos ⟨⟨by omega, by omega⟩, m0, m1⟩]
  have hs := (Bx.may_at.1 hb k hk).1
  have hE : d.runE k m (p.b.s.at k) = 0 := by rw [V3.runE, if_pos ha, Int.toNat_natCast, if_pos hs]
  unfold V3.runV
  by_cases h : 1 < p.b.s.at k
  · rw [if_pos ⟨hE, h⟩, if_pos h, Int.toNat_natCast]
    unfold Pl.per
    cases p.tor k <;> rfl
  · rw [if_neg (fun hh => h hh.2), if_neg h]
theorem mem_run {d : V3} {p : Pl} {k : Nat} {m x : Int} (hd : d.may) (hb : p.b.may d) (hk : k < 3) (m0 : 0 ≤ m) (m1 : m < d.n) :
    x ∈ d.runV k m (p.b.s.at k) (p.tor k) ↔ 1 < p.b.s.at k ∧ ∃ i : Nat, i < p.per d k ∧ x = k * d.n + d.step m k i := by
  rw [run_eq hd hb hk m0 m1]
  split
  · next h =>
    rw [mem_sorted]
    simp only [V3.links, List.mem_map, List.mem_range]
    exact ⟨fun ⟨i, h1, h2⟩ => ⟨h, i, h1, h2.symm⟩, fun ⟨_, i, h1, h2⟩ => ⟨i, h1, h2.symm⟩⟩
  · next h => simp [h]
theorem steps_le {f t n : Int} (h3 : 0 ≤ f) (h4 : f < n) (h5 : 0 ≤ t) (h6 : t < n) : 0 ≤ stepsOn f t n ∧ stepsOn f t n < n := by
  rw [stepsOn_eq h3 h4 h5 h6]; split <;> omega
theorem steps_self {f t n : Int} (h3 : 0 ≤ f) (h4 : f < n) (h5 : 0 ≤ t) (h6 : t < n) (h : stepsOn f t n < 1) : t = f := by
  rw [stepsOn_eq h3 h4 h5 h6] at h; split at h <;> omega
theorem steps_on {f i n : Int} (h3 : 0 ≤ f) (h4 : f < n) (h5 : 0 ≤ i) (h6 : i < n) : stepsOn f ((f + i) % n) n = i := by
  have e := emod2 (x := f + i) (n := n) (by omega) (by omega)
  have h7 : 0 ≤ (f + i) % n ∧ (f + i) % n < n := ⟨Int.emod_nonneg _ (by omega), Int.emod_lt_of_pos _ (by omega)⟩
  rw [stepsOn_eq h3 h4 h7.1 h7.2, e]
  split <;> split <;> omega
theorem steps_back {f t n : Int} (h3 : 0 ≤ f) (h4 : f < n) (h5 : 0 ≤ t) (h6 : t < n) : (f + stepsOn f t n) % n = t := by
  rw [stepsOn_eq h3 h4 h5 h6]
  split
  · rw [show f + (t - f) = t by omega, Int.emod_eq_of_lt h5 h6]
  · rw [show f + (t - f + n) = t + n by omega, Int.add_emod_right, Int.emod_eq_of_lt h5 h6]
theorem V3.num_pos_ {d : V3} {m : Int} : d.num (d.pos m) = m := by
  unfold V3.num V3.pos
  have h1 := Int.emod_add_mul_ediv (m / d.x) d.y
  have h2 := Int.emod_add_mul_ediv m d.x
  show m % d.x + d.x * (m / d.x % d.y + d.y * (m / d.x / d.y)) = m
  rw [h1, h2]
theorem thin_iff {d : V3} {b : Bx} {k : Nat} (hd : d.may) (hb : b.may d) (hk : k < 3) {m : Int} :
    m ∈ (b.thin k).all d ↔ (0 ≤ m ∧ m < d.n) ∧ (d.pos m).at k = b.b.at k ∧ ∀ j, j < 3 → j ≠ k → stepsOn (b.b.at j) ((d.pos m).at j) (d.at j) < b.s.at j := by
  rw [Bx.mem_all_iff hd (Bx.thin_may hb k hk)]
  constructor
  · rintro ⟨hm, hh⟩
    have hi := V3.inside_at.1 (V3.pos_inside hd hm.1 hm.2)
    have hbm := Bx.may_at.1 hb
    have hh := Bx.hasP_at.1 hh
    refine ⟨hm, ?_, fun j hj hne => ?_⟩
    · have h1 := hh k hk
      rw [show (b.thin k).s.at k = 1 by show (b.s.put k 1).at k = 1; rw [V3.put_at _ _ hk hk, if_pos rfl]] at h1
      exact steps_self (hbm k hk).2.1 (hbm k hk).2.2 (hi k hk).1 (hi k hk).2 h1
    · have h1 := hh j hj
      rw [show (b.thin k).s.at j = b.s.at j by show (b.s.put k 1).at j = b.s.at j; rw [V3.put_at _ _ hk hj, if_neg hne]] at h1
      exact h1
  · rintro ⟨hm, he, hh⟩
    have hbm := Bx.may_at.1 hb
    refine ⟨hm, Bx.hasP_at.2 (fun j hj => ?_)⟩
    by_cases hne : j = k
    · subst hne
      rw [show (b.thin j).s.at j = 1 by show (b.s.put j 1).at j = 1; rw [V3.put_at _ _ hj hj, if_pos rfl], he]
      show stepsOn (b.b.at j) (b.b.at j) (d.at j) < 1
      rw [stepsOn_eq (hbm j hj).2.1 (hbm j hj).2.2 (hbm j hj).2.1 (hbm j hj).2.2]
      simp
    · rw [show (b.thin k).s.at j = b.s.at j by show (b.s.put k 1).at j = b.s.at j; rw [V3.put_at _ _ hk hj, if_neg hne]]
      exact hh j hj hne
/-- The cables along an axis. -/
theorem mem_cabs {d : V3} {p : Pl} {k : Nat} (hd : d.may) (hb : p.b.may d) (hk : k < 3) (x : Int) :
    x ∈ cabs d p k ↔ ∃ m, (0 ≤ m ∧ m < d.n) ∧ x = k * d.n + m ∧ lk d p k (d.pos m) := by
  have hbm := Bx.may_at.1 hb
  obtain ⟨⟨s1, s2⟩, b1, b2⟩ := hbm k hk
  unfold cabs cabsOf
  rw [List.mem_flatMap]
  constructor
  · rintro ⟨m0, hm0, hx⟩
    obtain ⟨hr, he, hj⟩ := (thin_iff hd hb hk).1 hm0
    obtain ⟨h1, i, hi, rfl⟩ := (mem_run hd hb hk hr.1 hr.2).1 hx
    have hst := V3.stepped_inside hd hr.1 hr.2 hk (i : Int)
    have hpos : d.pos (d.step m0 k i) = (d.pos m0).put k (((d.pos m0).at k + i) % d.at k) := V3.pos_num hd hst
    have hid : (i : Int) < d.at k := by
      unfold Pl.per at hi
      cases ht : p.tor k with
      | false => rw [ht] at hi; simp at hi; omega
      | true => rw [ht] at hi; simp at hi; omega
    refine ⟨d.step m0 k i, V3.num_lt hd hst, rfl, h1, fun j hj' hne => ?_, ?_⟩
    · rw [hpos, V3.put_at _ _ hk hj', if_neg hne]
      exact hj j hj' hne
    · cases ht : p.tor k with
      | true => exact .inl rfl
      | false =>
        right
        rw [hpos, V3.put_at _ _ hk hk, if_pos rfl, he, steps_on b1 b2 (by omega) hid]
        unfold Pl.per at hi
        rw [ht] at hi
        simp at hi
        omega
  · rintro ⟨m, hm, rfl, h1, hj, ht⟩
    have hin := V3.pos_inside hd hm.1 hm.2
    have hi := V3.inside_at.1 hin
    have hq : d.inside ((d.pos m).put k (p.b.b.at k)) := V3.inside_at.2 (fun j hj' => by
      rw [V3.put_at _ _ hk hj']
      split
      · next e => subst e; exact ⟨b1, b2⟩
      · exact hi j hj')
    have hpn := V3.pos_num hd hq
    have hst := steps_le b1 b2 (hi k hk).1 (hi k hk).2
    refine ⟨d.num ((d.pos m).put k (p.b.b.at k)), (thin_iff hd hb hk).2 ⟨V3.num_lt hd hq, ?_, fun j hj' hne => ?_⟩, (mem_run hd hb hk (V3.num_lt hd hq).1 (V3.num_lt hd hq).2).2 ⟨h1, (stepsOn (p.b.b.at k) ((d.pos m).at k) (d.at k)).toNat, ?_, ?_⟩⟩
    · rw [hpn, V3.put_at _ _ hk hk, if_pos rfl]
    · rw [hpn, V3.put_at _ _ hk hj', if_neg hne]
      exact hj j hj' hne
    · unfold Pl.per
      cases ht' : p.tor k with
      | true => simp; omega
      | false =>
        rw [ht'] at ht
        simp at ht
        simp
        omega
    · congr 1
      unfold V3.step V3.stepped
      rw [hpn, V3.put_at _ _ hk hk, if_pos rfl, Int.toNat_of_nonneg hst.1, steps_back b1 b2 (hi k hk).1 (hi k hk).2]
      have : ((d.pos m).put k (p.b.b.at k)).put k ((d.pos m).at k) = d.pos m := V3.ext3 (fun j hj' => by
        rw [V3.put_at _ _ hk hj', V3.put_at _ _ hk hj']
        split
        · next e => subst e; rfl
        · rfl)
      rw [this, V3.num_pos_]
end

section
open Go.RowKit Go.Shelf

theorem setOf_facts {n : Int} {l : List Int} (hn : nMay n) (hl : l.length ≤ 65536) (hr : ∀ x ∈ l, 0 ≤ x ∧ x < n) : ofErr n l = 0 ∧ sChk n (ofSet n l) = 0 ∧ ∀ i : Nat, there (ofSet n l) i = decide ((i : Int) ∈ l) := by
  have hin : inR n l = true := List.all_eq_true.2 (fun x hx => by simpa using hr x hx)
  have he : ofErr n l = 0 := by unfold ofErr; rw [if_pos hn, if_neg (by omega), if_pos hin]
  have e : ofSet n l = bitsOf (nWords n) l := if_pos he
  have hw := nWords_le hn
  have ht : ∀ i : Nat, there (ofSet n l) i = decide ((i : Int) ∈ l) := fun i => by rw [e]; exact there_bitsOf (fun x hx => by have := hr x hx; omega) i
  refine ⟨he, sChk_of hn (by rw [e, bitsOf_len]) (ofSet_fit' n l) (fun i hi => ?_), ht⟩
  rw [ht, decide_eq_false_iff_not]
  intro hx
  have := hr _ hx
  unfold nMay at hn
  omega
theorem all_vol' {d : V3} {b : Bx} (hd : d.may) (hb : b.may d) : ((b.all d).length : Int) = b.vol := by
  rw [← Bx.nodes_eq hd hb, sorted_len, Bx.nZ_len]
  unfold Bx.may at hb
  unfold Bx.vol
  obtain ⟨x, hx⟩ : ∃ x : Nat, b.s.x = x := ⟨b.s.x.toNat, by omega⟩
  obtain ⟨y, hy⟩ : ∃ y : Nat, b.s.y = y := ⟨b.s.y.toNat, by omega⟩
  obtain ⟨z, hz⟩ : ∃ z : Nat, b.s.z = z := ⟨b.s.z.toNat, by omega⟩
  rw [hx, hy, hz]
  simp only [Int.toNat_natCast, Int.natCast_mul]
  rw [Int.mul_comm (y : Int), Int.mul_comm (z : Int)]
theorem flat_const {l : List Int} {f : Int → List Int} {c : Nat} (h : ∀ m ∈ l, (f m).length = c) : (l.flatMap f).length = l.length * c := by
  induction l with
  | nil => simp
  | cons m l ih =>
    rw [List.flatMap_cons, List.length_append, h m (List.mem_cons_self ..), ih (fun m hm => h m (List.mem_cons_of_mem _ hm)), List.length_cons, Nat.add_mul]
    omega
/-- How many cables each line gives. -/
def Pl.gives (d : V3) (p : Pl) (k : Nat) : Nat := if 1 < p.b.s.at k then p.per d k else 0
theorem cabs_count {d : V3} {p : Pl} {k : Nat} (hd : d.may) (hb : p.b.may d) (hk : k < 3) : (cabs d p k).length = ((p.b.thin k).all d).length * p.gives d k :=
  flat_const (fun m hm => by
    obtain ⟨m0, m1⟩ := Bx.mem_all' hm
    rw [run_eq hd hb hk m0 m1]
    unfold Pl.gives
    split
    · rw [sorted_len, V3.links_len]
    · rfl)
theorem per_le {d : V3} {p : Pl} {k : Nat} (hd : d.may) (hb : p.b.may d) (hk : k < 3) : p.per d k ≤ 16 := by
  have h1 := (Bx.may_at.1 hb k hk).1
  have h2 : d.at k ≤ 16 := by
    match k, hk with
    | 0, _ => exact hd.1.2
    | 1, _ => exact hd.2.1.2
    | 2, _ => exact hd.2.2.2
  unfold Pl.per
  split <;> omega
theorem thin_le {d : V3} {b : Bx} {k : Nat} (hd : d.may) (hb : b.may d) (hk : k < 3) : ((b.thin k).all d).length ≤ 256 := by
  have hv := all_vol' hd (Bx.thin_may hb k hk)
  obtain ⟨hx, hy, hz⟩ := hb
  obtain ⟨dx, dy, dz⟩ := hd
  have key : ∀ a c : Int, 1 ≤ a ∧ a ≤ 16 → 1 ≤ c ∧ c ≤ 16 → a * c ≤ 256 := fun a c h1 h2 => by
    have := Int.mul_le_mul h1.2 h2.2 (by omega) (by omega)
    omega
  have : (b.thin k).vol ≤ 256 := by
    match k, hk with
    | 0, _ =>
      show 1 * b.s.y * b.s.z ≤ 256
      rw [Int.one_mul]
      exact key _ _ (by omega) (by omega)
    | 1, _ =>
      show b.s.x * 1 * b.s.z ≤ 256
      rw [Int.mul_one]
      exact key _ _ (by omega) (by omega)
    | 2, _ =>
      show b.s.x * b.s.y * 1 ≤ 256
      rw [Int.mul_one]
      exact key _ _ (by omega) (by omega)
  omega
theorem cabs_le {d : V3} {p : Pl} {k : Nat} (hd : d.may) (hb : p.b.may d) (hk : k < 3) : (cabs d p k).length ≤ 4096 := by
  rw [cabs_count hd hb hk]
  have h1 := thin_le hd hb hk
  have h2 : p.gives d k ≤ 16 := by unfold Pl.gives; split; exact per_le hd hb hk; omega
  exact Nat.mul_le_mul h1 h2
theorem cabsV_le {d : V3} {p : Pl} (hd : d.may) (hb : p.b.may d) : (cabsV d p).length ≤ 12288 := by
  have h0 := cabs_le hd hb (k := 0) (by omega); have h1 := cabs_le hd hb (k := 1) (by omega); have h2 := cabs_le hd hb (k := 2) (by omega)
  unfold cabsV
  rw [List.length_append, List.length_append]
  omega
theorem mem_cabsV {d : V3} {p : Pl} (hd : d.may) (hb : p.b.may d) (x : Int) : x ∈ cabsV d p ↔ ∃ k m, k < 3 ∧ (0 ≤ m ∧ m < d.n) ∧ x = (k : Nat) * d.n + m ∧ lk d p k (d.pos m) := by
  unfold cabsV
  rw [List.mem_append, List.mem_append]
  constructor
  · rintro ((h | h) | h)
    · obtain ⟨m, h1, h2, h3⟩ := (mem_cabs hd hb (by omega) x).1 h; exact ⟨0, m, by omega, h1, h2, h3⟩
    · obtain ⟨m, h1, h2, h3⟩ := (mem_cabs hd hb (by omega) x).1 h; exact ⟨1, m, by omega, h1, h2, h3⟩
    · obtain ⟨m, h1, h2, h3⟩ := (mem_cabs hd hb (by omega) x).1 h; exact ⟨2, m, by omega, h1, h2, h3⟩
  · rintro ⟨k, m, hk, h1, h2, h3⟩
    match k, hk with
    | 0, _ => exact .inl (.inl ((mem_cabs hd hb (by omega) x).2 ⟨m, h1, h2, h3⟩))
    | 1, _ => exact .inl (.inr ((mem_cabs hd hb (by omega) x).2 ⟨m, h1, h2, h3⟩))
    | 2, _ => exact .inr ((mem_cabs hd hb (by omega) x).2 ⟨m, h1, h2, h3⟩)
theorem link_one {n m m' : Int} {k k' : Nat} (hm : 0 ≤ m ∧ m < n) (hm' : 0 ≤ m' ∧ m' < n) (h : (k : Int) * n + m = k' * n + m') : k = k' ∧ m = m' := by
  obtain ⟨e1, e2⟩ := divI_of (a := (k : Int)) hm.1 hm.2
  obtain ⟨e3, e4⟩ := divI_of (a := (k' : Int)) hm'.1 hm'.2
  rw [h, e3] at e1
  rw [h, e4] at e2
  exact ⟨by omega, e2.symm⟩
theorem cabs_in {d : V3} {p : Pl} (hd : d.may) (hb : p.b.may d) {x : Int} (h : x ∈ cabsV d p) : 0 ≤ x ∧ x < 3 * d.n := by
  obtain ⟨k, m, hk, h1, rfl, _⟩ := (mem_cabsV hd hb x).1 h
  match k, hk with
  | 0, _ => simp; omega
  | 1, _ => simp; omega
  | 2, _ => simp; omega
theorem V3.n_pos {d : V3} (h : d.may) : 1 ≤ d.n ∧ d.n ≤ 4096 := V3.n_le h
structure PlFacts (d : V3) (p : Pl) : Prop where
  may : d.may
  box : p.b.may d
  mErr : ofErr d.n (p.b.all d) = 0
  lErr : ofErr (3 * d.n) (cabsV d p) = 0
  mChk : sChk d.n (midsV d p) = 0
  lChk : sChk (3 * d.n) (linksV d p) = 0
  mAt : ∀ i : Nat, there (midsV d p) i = decide ((i : Int) ∈ p.b.all d)
  lAt : ∀ i : Nat, there (linksV d p) i = decide ((i : Int) ∈ cabsV d p)
theorem pl_facts {d : V3} {p : Pl} (h : plChk d p = 0) : PlFacts d p := by
  obtain ⟨hd, hb, _, _⟩ := plChk_0 h
  have hn := V3.n_pos hd
  have e1 : midsV d p = ofSet d.n (p.b.all d) := if_pos h
  have e2 : linksV d p = ofSet (3 * d.n) (cabsV d p) := if_pos h
  obtain ⟨a1, a2, a3⟩ := setOf_facts (n := d.n) (l := p.b.all d) (by unfold nMay; omega) (by have := Bx.all_len' d p.b hd; omega) (fun x hx => Bx.mem_all' hx)
  obtain ⟨b1, b2, b3⟩ := setOf_facts (n := 3 * d.n) (l := cabsV d p) (by unfold nMay; omega) (by have := cabsV_le hd hb; omega) (fun x hx => cabs_in hd hb hx)
  exact ⟨hd, hb, a1, b1, by rw [e1]; exact a2, by rw [e2]; exact b2, fun i => by rw [e1]; exact a3 i, fun i => by rw [e2]; exact b3 i⟩
theorem there_lt {n : Int} {a : List Nat} {i : Nat} (h : sChk n a = 0) (ha : W64 a) (hi : there a i = true) : i < 64 * a.length := by
  rcases Nat.lt_or_ge i (64 * a.length) with h1 | h1
  · exact h1
  · rw [there_far (by omega)] at hi; cases hi
theorem meet_iff {n : Int} {a b : List Nat} (ha : sChk n a = 0) (hb : sChk n b = 0) (fa : W64 a) (fb : W64 b) : anyNZ (joinIf andW n a b) = true ↔ ∃ i, there a i = true ∧ there b i = true := by
  obtain ⟨h1, h2, h3⟩ := and_may (sChk2_of ha hb) fa fb
  rw [anyNZ_at (joinIf_fit andW_fit fa fb)]
  constructor
  · rintro ⟨i, _, h⟩
    rw [h3, Bool.and_eq_true] at h
    exact ⟨i, h⟩
  · rintro ⟨i, h4, h5⟩
    have h6 : there (joinIf andW n a b) i = true := by rw [h3, h4, h5]; rfl
    exact ⟨i, there_lt h1 (joinIf_fit andW_fit fa fb) h6, h6⟩
/-! ### places that are apart -/
def apartB (d : V3) (p q : Pl) : Bool := !anyNZ (joinIf andW d.n (midsV d p) (midsV d q)) && !anyNZ (joinIf andW (3 * d.n) (linksV d p) (linksV d q))
def apE (d : V3) (p q : Pl) : Int := if plChk d p = 0 then plChk d q else plChk d p
def apV (d : V3) (p q : Pl) : Bool := if apE d p q = 0 then apartB d p q else false
theorem apE_0 {d : V3} {p q : Pl} (h : apE d p q = 0) : plChk d p = 0 ∧ plChk d q = 0 := by
  unfold apE at h
  split at h
  · next h1 => exact ⟨h1, h⟩
  · next h1 => exact absurd h h1
theorem apE_of {d : V3} {p q : Pl} (h1 : plChk d p = 0) (h2 : plChk d q = 0) : apE d p q = 0 := by unfold apE; rw [if_pos h1, h2]
theorem mids_meet {d : V3} {p q : Pl} (hp : PlFacts d p) (hq : PlFacts d q) : anyNZ (joinIf andW d.n (midsV d p) (midsV d q)) = true ↔ ∃ m, m ∈ p.b.all d ∧ m ∈ q.b.all d := by
  rw [meet_iff hp.mChk hq.mChk (midsV_fit d p) (midsV_fit d q)]
  constructor
  · rintro ⟨i, h1, h2⟩
    rw [hp.mAt, decide_eq_true_iff] at h1
    rw [hq.mAt, decide_eq_true_iff] at h2
    exact ⟨i, h1, h2⟩
  · rintro ⟨m, h1, h2⟩
    have := Bx.mem_all' h1
    refine ⟨m.toNat, ?_, ?_⟩
    · rw [hp.mAt, decide_eq_true_iff, Int.toNat_of_nonneg this.1]; exact h1
    · rw [hq.mAt, decide_eq_true_iff, Int.toNat_of_nonneg this.1]; exact h2
theorem links_meet {d : V3} {p q : Pl} (hp : PlFacts d p) (hq : PlFacts d q) : anyNZ (joinIf andW (3 * d.n) (linksV d p) (linksV d q)) = true ↔ ∃ x, x ∈ cabsV d p ∧ x ∈ cabsV d q := by
  rw [meet_iff hp.lChk hq.lChk (linksV_fit d p) (linksV_fit d q)]
  constructor
  · rintro ⟨i, h1, h2⟩
    rw [hp.lAt, decide_eq_true_iff] at h1
    rw [hq.lAt, decide_eq_true_iff] at h2
    exact ⟨i, h1, h2⟩
  · rintro ⟨m, h1, h2⟩
    have := cabs_in hp.may hp.box h1
    refine ⟨m.toNat, ?_, ?_⟩
    · rw [hp.lAt, decide_eq_true_iff, Int.toNat_of_nonneg this.1]; exact h1
    · rw [hq.lAt, decide_eq_true_iff, Int.toNat_of_nonneg this.1]; exact h2
theorem apart_iff {d : V3} {p q : Pl} (hp : PlFacts d p) (hq : PlFacts d q) : apartB d p q = false ↔ (∃ m, m ∈ p.b.all d ∧ m ∈ q.b.all d) ∨ ∃ x, x ∈ cabsV d p ∧ x ∈ cabsV d q := by
  rw [← mids_meet hp hq, ← links_meet hp hq]
  unfold apartB
  cases anyNZ (joinIf andW d.n (midsV d p) (midsV d q)) <;> cases anyNZ (joinIf andW (3 * d.n) (linksV d p) (linksV d q)) <;> simp
theorem apart_turn {d : V3} {p q : Pl} (hp : PlFacts d p) (hq : PlFacts d q) : apartB d p q = apartB d q p := by
  have h1 := apart_iff hp hq
  have h2 := apart_iff hq hp
  have h3 : apartB d p q = false ↔ apartB d q p = false := by
    rw [h1, h2]
    constructor
    · rintro (⟨m, a, b⟩ | ⟨m, a, b⟩)
      · exact .inl ⟨m, b, a⟩
      · exact .inr ⟨m, b, a⟩
    · rintro (⟨m, a, b⟩ | ⟨m, a, b⟩)
      · exact .inl ⟨m, b, a⟩
      · exact .inr ⟨m, b, a⟩
  cases ha : apartB d p q <;> cases hb : apartB d q p <;> simp_all
theorem boxMeet_iff {d : V3} {a b : Bx} (hd : d.may) (ha : a.may d) (hb : b.may d) : boxMeet d a b = true ↔ ∃ m, m ∈ a.all d ∧ m ∈ b.all d := by
  have hc : chk2 d a b = 0 := by unfold chk2; rw [if_pos hd, okIf_yes ⟨ha, hb⟩]
  rw [boxMeet_ok hc, ← Bx.meet_eq hd ha hb, List.any_eq_true]
  constructor
  · rintro ⟨m, h1, h2⟩; exact ⟨m, h1, Bx.mem_all.2 ⟨Bx.mem_all' h1, h2⟩⟩
  · rintro ⟨m, h1, h2⟩; exact ⟨m, h1, (Bx.mem_all.1 h2).2⟩
theorem all_one {d : V3} {b : Bx} (hd : d.may) (hb : b.may d) : ∃ m, m ∈ b.all d := by
  have hbm := Bx.may_at.1 hb
  have hin : d.inside b.b := V3.inside_at.2 (fun j hj => (hbm j hj).2)
  refine ⟨d.num b.b, (Bx.mem_all_iff hd hb).2 ⟨V3.num_lt hd hin, Bx.hasP_at.2 (fun j hj => ?_)⟩⟩
  rw [V3.pos_num hd hin, stepsOn_eq (hbm j hj).2.1 (hbm j hj).2.2 (hbm j hj).2.1 (hbm j hj).2.2]
  have := (hbm j hj).1.1
  simp
  omega
def Pl.mesh (p : Pl) : Pl := ⟨p.b, false, false, false⟩
theorem mesh_chk {d : V3} {p : Pl} (h : plChk d p = 0) : plChk d p.mesh = 0 := by
  obtain ⟨hd, hb, _, hc⟩ := plChk_0 h
  show (if chk d p.b = 0 then (if p.mesh.odd then 2 else if p.b.can d = p.b then 0 else 2) else chk d p.b) = 0
  rw [if_pos (chk_of hd hb), show p.mesh.odd = false from rfl, if_pos hc]
  rfl
/-- A mesh's cables begin at its own midplanes. -/
theorem mesh_low {d : V3} {p : Pl} {k : Nat} {m : Int} (hd : d.may) (hb : p.b.may d) (hk : k < 3) (hm : 0 ≤ m ∧ m < d.n) (h : lk d p.mesh k (d.pos m)) : m ∈ p.b.all d := by
  obtain ⟨_, h2, h3⟩ := h
  have h4 : stepsOn (p.b.b.at k) ((d.pos m).at k) (d.at k) < p.b.s.at k - 1 := by
    rcases h3 with h3 | h3
    · have : p.mesh.tor k = false := by
        match k, hk with
        | 0, _ => rfl
        | 1, _ => rfl
        | 2, _ => rfl
      rw [this] at h3
      cases h3
    · exact h3
  refine (Bx.mem_all_iff hd hb).2 ⟨hm, Bx.hasP_at.2 (fun j hj => ?_)⟩
  by_cases e : j = k
  · subst e; omega
  · exact h2 j hj e
theorem apart_facts {d : V3} {p q : Pl} (h1 : plChk d p = 0) (h2 : plChk d q = 0) :
    apartB d p q = apartB d q p ∧ apartB d p p = false ∧ (boxMeet d p.b q.b = true → apartB d p q = false) ∧ apartB d p.mesh q.mesh = !boxMeet d p.b q.b := by
  have hp := pl_facts h1
  have hq := pl_facts h2
  have hpm := pl_facts (mesh_chk h1)
  have hqm := pl_facts (mesh_chk h2)
  have hbi := boxMeet_iff hp.may hp.box hq.box
  refine ⟨apart_turn hp hq, ?_, fun h => ?_, ?_⟩
  · obtain ⟨m, hm⟩ := all_one hp.may hp.box
    exact (apart_iff hp hp).2 (.inl ⟨m, hm, hm⟩)
  · exact (apart_iff hp hq).2 (.inl (hbi.1 h))
  · have h3 : apartB d p.mesh q.mesh = false ↔ boxMeet d p.b q.b = true := by
      rw [apart_iff hpm hqm, hbi]
      constructor
      · rintro (h | ⟨x, a, b⟩)
        · exact h
        · obtain ⟨k, m, hk, hm, e, hl⟩ := (mem_cabsV hpm.may hpm.box x).1 a
          obtain ⟨k', m', hk', hm', e', hl'⟩ := (mem_cabsV hqm.may hqm.box x).1 b
          obtain ⟨rfl, rfl⟩ := link_one hm hm' (e.symm.trans e')
          exact ⟨m, mesh_low hp.may hp.box hk hm hl, mesh_low hq.may hq.box hk hm hl'⟩
      · intro h; exact .inl h
    cases ha : apartB d p.mesh q.mesh <;> cases hb : boxMeet d p.b q.b <;> simp_all
end
end
end Go.Proofs.YtofoenlhbmammaaGreat
