/- PLACE, THE PLAIN LAW: how many cables along each axis; the numbers of the sets. -/
import Derived.Test.YthabpiphfaedaaaDoorQ0PlLaw
import Derived.Test.YthabpiphfaedaaaDoorQ0SetValB
namespace Go.Proofs.YthabpiphfaedaaaDoor

section
open Go.RowKit Go.Shelf

theorem step_eq {d : V3} {m m' : Int} {k i i' : Nat} (hd : d.may) (hm : 0 ≤ m ∧ m < d.n) (hm' : 0 ≤ m' ∧ m' < d.n) (hk : k < 3) (h : d.step m k i = d.step m' k i') : ∀ j, j < 3 → (if j = k then ((d.pos m).at k + i) % d.at k else (d.pos m).at j) = (if j = k then ((d.pos m').at k + i') % d.at k else (d.pos m').at j) := by
  intro j hj
  have h1 : d.pos (d.step m k i) = (d.pos m).put k (((d.pos m).at k + i) % d.at k) := V3.pos_num hd (V3.stepped_inside hd hm.1 hm.2 hk i)
  have h2 : d.pos (d.step m' k i') = (d.pos m').put k (((d.pos m').at k + i') % d.at k) := V3.pos_num hd (V3.stepped_inside hd hm'.1 hm'.2 hk i')
  rw [h, h2] at h1
  have h3 := congrArg (fun v => V3.at v j) h1
  simp only [V3.put_at _ _ hk hj] at h3
  exact h3.symm
theorem run_nodup {d : V3} {p : Pl} {k : Nat} {m : Int} (hd : d.may) (hb : p.b.may d) (hk : k < 3) (hm : m ∈ (p.b.thin k).all d) : (d.runV k m (p.b.s.at k) (p.tor k)).Nodup := by
  obtain ⟨hr, he, _⟩ := (thin_iff hd hb hk).1 hm
  obtain ⟨⟨s1, s2⟩, b1, b2⟩ := Bx.may_at.1 hb k hk
  rw [run_eq hd hb hk hr.1 hr.2]
  split
  · refine (List.mergeSort_perm _ _).nodup_iff.2 ?_
    refine List.pairwise_map.2 (List.nodup_range.imp_of_mem fun {a c} ha hc hne e => hne ?_)
    have hp : ∀ i, i < p.per d k → (i : Int) < d.at k := fun i hi => by
      unfold Pl.per at hi
      split at hi <;> omega
    have ha' := hp a (List.mem_range.1 ha)
    have hc' := hp c (List.mem_range.1 hc)
    have h := step_eq (i := a) (i' := c) hd hr hr hk (by omega) k hk
    rw [if_pos rfl, if_pos rfl, he] at h
    have h1 := steps_on b1 b2 (i := (a : Int)) (by omega) ha'
    have h2 := steps_on b1 b2 (i := (c : Int)) (by omega) hc'
    rw [h, h2] at h1
    omega
  · exact List.nodup_nil
theorem all_nodup (d : V3) (b : Bx) : (b.all d).Nodup := (Bx.all_rise d b).imp (fun h => by omega)
theorem cabs_nodup {d : V3} {p : Pl} {k : Nat} (hd : d.may) (hb : p.b.may d) (hk : k < 3) : (cabs d p k).Nodup := by
  unfold cabs cabsOf
  refine List.pairwise_flatMap.2 ⟨fun m hm => run_nodup hd hb hk hm, ?_⟩
  refine (all_nodup d (p.b.thin k)).imp_of_mem fun {m m'} hm hm' hne x hx y hy e => hne ?_
  obtain ⟨hr, he, _⟩ := (thin_iff hd hb hk).1 hm
  obtain ⟨hr', he', _⟩ := (thin_iff hd hb hk).1 hm'
  obtain ⟨_, i, _, rfl⟩ := (mem_run hd hb hk hr.1 hr.2).1 hx
  obtain ⟨_, i', _, rfl⟩ := (mem_run hd hb hk hr'.1 hr'.2).1 hy
  have h := step_eq hd hr hr' hk (show d.step m k i = d.step m' k i' by omega)
  have : d.pos m = d.pos m' := V3.ext3 (fun j hj => by
    by_cases hjk : j = k
    · subst hjk; rw [he, he']
    · have := h j hj
      rw [if_neg hjk, if_neg hjk] at this
      exact this)
  rw [← V3.num_pos_ (d := d) (m := m), this, V3.num_pos_]
theorem cabsV_nodup {d : V3} {p : Pl} (hd : d.may) (hb : p.b.may d) : (cabsV d p).Nodup := by
  have hx : ∀ k k' : Nat, k < 3 → k' < 3 → k ≠ k' → ∀ a, a ∈ cabs d p k → ∀ b, b ∈ cabs d p k' → a ≠ b := fun k k' hk hk' hne a ha b hb' e => by
    obtain ⟨m, hm, e1, _⟩ := (mem_cabs hd hb hk a).1 ha
    obtain ⟨m', hm', e2, _⟩ := (mem_cabs hd hb hk' b).1 hb'
    exact hne (link_one hm hm' (by rw [← e1, ← e2, e])).1
  unfold cabsV
  refine List.pairwise_append.2 ⟨List.pairwise_append.2 ⟨cabs_nodup hd hb (by omega), cabs_nodup hd hb (by omega), hx 0 1 (by omega) (by omega) (by omega)⟩, cabs_nodup hd hb (by omega), fun a ha b hb' => ?_⟩
  rcases List.mem_append.1 ha with h | h
  · exact hx 0 2 (by omega) (by omega) (by omega) a h b hb'
  · exact hx 1 2 (by omega) (by omega) (by omega) a h b hb'
/-- A set's numbers are those that it was made of. -/
theorem nums_perm {n : Int} {ws : List Nat} {l : List Int} (h : sChk n ws = 0) (fw : W64 ws) (hl : l.Nodup) (hr : ∀ x ∈ l, 0 ≤ x) (ht : ∀ i : Nat, there ws i = decide ((i : Int) ∈ l)) : (listV n ws).Perm l := by
  have hv : listV n ws = nums ws := if_pos h
  rw [hv]
  refine (List.perm_ext_iff_of_nodup ((numsTo_rise ws _).imp (fun h => by omega)) hl).2 (fun x => ?_)
  show x ∈ nums ws ↔ x ∈ l
  rw [mem_nums]
  constructor
  · rintro ⟨k, rfl, _, h2⟩
    rw [ht, decide_eq_true_iff] at h2
    exact h2
  · intro hx
    have h0 := hr x hx
    have h2 : there ws x.toNat = true := by rw [ht, decide_eq_true_iff, Int.toNat_of_nonneg h0]; exact hx
    exact ⟨x.toNat, by omega, there_lt h fw h2, h2⟩
theorem mids_list {d : V3} {p : Pl} (hf : PlFacts d p) : listV d.n (midsV d p) = p.b.all d := by
  have hp := nums_perm hf.mChk (midsV_fit d p) (all_nodup d p.b) (fun x hx => (Bx.mem_all' hx).1) hf.mAt
  have hv : listV d.n (midsV d p) = nums (midsV d p) := if_pos hf.mChk
  refine rise_ext ?_ (Bx.all_rise d p.b) (fun x => hp.mem_iff)
  rw [hv]
  exact numsTo_rise _ _
theorem links_many {d : V3} {p : Pl} (hf : PlFacts d p) : (listV (3 * d.n) (linksV d p)).length = (cabsV d p).length :=
  (nums_perm hf.lChk (linksV_fit d p) (cabsV_nodup hf.may hf.box) (fun x hx => (cabs_in hf.may hf.box hx).1) hf.lAt).length_eq
/-- What the statement adds up. -/
def Pl.part (d : V3) (p : Pl) (k : Nat) : Int := (((p.b.all d).length : Int) / p.b.s.at k) * (if p.tor k then d.at k else p.b.s.at k - 1)
theorem cabs_part {d : V3} {p : Pl} {k : Nat} (h : plChk d p = 0) (hk : k < 3) : ((cabs d p k).length : Int) = p.part d k := by
  obtain ⟨hd, hb, ho, _⟩ := plChk_0 h
  have hs := (Bx.may_at.1 hb k hk).1
  rw [cabs_count hd hb hk, Int.natCast_mul]
  have h1 := all_vol' hd hb
  have h2 := all_vol' hd (Bx.thin_may hb k hk)
  have hvol : p.b.vol = (p.b.thin k).vol * p.b.s.at k := by
    match k, hk with
    | 0, _ =>
      show p.b.s.x * p.b.s.y * p.b.s.z = 1 * p.b.s.y * p.b.s.z * p.b.s.x
      rw [Int.one_mul, Int.mul_comm (p.b.s.y * p.b.s.z), ← Int.mul_assoc]
    | 1, _ =>
      show p.b.s.x * p.b.s.y * p.b.s.z = p.b.s.x * 1 * p.b.s.z * p.b.s.y
      rw [Int.mul_one, Int.mul_assoc, Int.mul_comm p.b.s.y, ← Int.mul_assoc]
    | 2, _ =>
      show p.b.s.x * p.b.s.y * p.b.s.z = p.b.s.x * p.b.s.y * 1 * p.b.s.z
      rw [Int.mul_one]
  unfold Pl.part
  rw [h1, hvol, Int.mul_ediv_cancel _ (by omega), h2]
  congr 1
  have htor : p.tor k = true → p.b.s.at k ≠ 1 := fun ht he => by
    have := (p.odd_iff).2 ⟨k, hk, ht, he⟩
    rw [ho] at this
    cases this
  have hdk : 0 ≤ d.at k := by omega
  unfold Pl.gives Pl.per
  cases ht : p.tor k with
  | true =>
    have := htor ht
    rw [if_pos (by omega)]
    simp only [if_true]
    omega
  | false =>
    simp only [Bool.false_eq_true, if_false]
    split <;> omega
def Pl.parts (d : V3) (p : Pl) : Nat → Int
  | 0 => 0
  | k + 1 => p.parts d k + p.part d k
theorem cabs_parts {d : V3} {p : Pl} (h : plChk d p = 0) : ((cabsV d p).length : Int) = p.parts d 3 := by
  have h0 := cabs_part h (show 0 < 3 by omega); have h1 := cabs_part h (show 1 < 3 by omega); have h2 := cabs_part h (show 2 < 3 by omega)
  unfold cabsV
  rw [List.length_append, List.length_append]
  show _ = 0 + p.part d 0 + p.part d 1 + p.part d 2
  omega
theorem part_range {d : V3} {p : Pl} {k : Nat} (h : plChk d p = 0) (hk : k < 3) : 0 ≤ p.part d k ∧ p.part d k ≤ 4096 := by
  obtain ⟨hd, hb, _, _⟩ := plChk_0 h
  rw [← cabs_part h hk]
  have := cabs_le hd hb hk
  omega
/-- One axis, as the statement counts it. -/
theorem part_facts {d : V3} {p : Pl} {k : Nat} (h : plChk d p = 0) (hk : k < 3) : (1 ≤ p.b.s.at k ∧ p.b.s.at k ≤ 16) ∧ (0 ≤ p.part d k ∧ p.part d k ≤ 4096) ∧ (0 ≤ ((p.b.all d).length : Int) / p.b.s.at k ∧ ((p.b.all d).length : Int) / p.b.s.at k ≤ 4096) ∧
    Int.tdiv (p.b.all d).length (p.b.s.at k) = ((p.b.all d).length : Int) / p.b.s.at k ∧ p.parts d k + p.part d k = p.parts d (k + 1) ∧ 0 ≤ p.parts d k ∧ p.parts d k ≤ 12288 ∧
    (p.tor k = true → (((p.b.all d).length : Int) / p.b.s.at k) * d.at k = p.part d k) ∧ (p.tor k = false → (((p.b.all d).length : Int) / p.b.s.at k) * (p.b.s.at k - 1) = p.part d k) := by
  obtain ⟨hd, hb, _, _⟩ := plChk_0 h
  have hs := (Bx.may_at.1 hb k hk).1
  have hl := Bx.all_len' d p.b hd
  have hp := part_range h hk
  have hdk : d.at k ≤ 16 := by
    match k, hk with
    | 0, _ => exact hd.1.2
    | 1, _ => exact hd.2.1.2
    | 2, _ => exact hd.2.2.2
  have h0 := part_range h (show 0 < 3 by omega); have h1 := part_range h (show 1 < 3 by omega)
  refine ⟨by omega, hp, ⟨Int.ediv_nonneg (by omega) (by omega), ?_⟩, Int.tdiv_eq_ediv_of_nonneg (by omega), rfl, ?_, ?_, fun ht => ?_, fun ht => ?_⟩
  · have := Int.ediv_le_self (p.b.s.at k) (show (0 : Int) ≤ (p.b.all d).length by omega)
    omega
  · match k, hk with
    | 0, _ => exact Int.le_refl _
    | 1, _ => show 0 ≤ 0 + p.part d 0; omega
    | 2, _ => show 0 ≤ 0 + p.part d 0 + p.part d 1; omega
  · match k, hk with
    | 0, _ => exact (by decide : (0 : Int) ≤ 12288)
    | 1, _ => show 0 + p.part d 0 ≤ 12288; omega
    | 2, _ => show 0 + p.part d 0 + p.part d 1 ≤ 12288; omega
  · unfold Pl.part; rw [ht]; rfl
  · unfold Pl.part; rw [ht]; rfl
end
end Go.Proofs.YthabpiphfaedaaaDoor
