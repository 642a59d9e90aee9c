/- PLACE, THE PLAIN LAW: which midplanes are passed. -/
import Derived.Test.YthabpiphfaedaaaPasses
import Derived.Test.YthabpiphfaedaaaPlLaw
namespace Go.Proofs.Ythabpiphfaedaaa
open Go.RowKit Go.Shelf

theorem ends_of {d : V3} {k : Nat} {m : Int} (hd : d.may) (hk : k < 3) (hm : 0 ≤ m ∧ m < d.n) (h1 : d.at k ≠ 1) : d.endE (k * d.n + m) = 0 ∧ d.endM (k * d.n + m) = m ∧ d.endT (k * d.n + m) = d.step m k 1 := by
  have ha : d.askE k m = 0 := by rw [V3.askE, if_pos hd, if_pos ⟨⟨by omega, by omega⟩, hm⟩]
  have hL : d.linkE k m = 0 := by rw [V3.linkE, if_pos ha, Int.toNat_natCast, if_neg h1]
  have hv : d.linkV k m = k * d.n + m := if_pos hL
  have := link_end hL
  rw [hv, Int.toNat_natCast] at this
  exact ⟨this.1, this.2.2.1, this.2.2.2⟩
theorem lk_at {d : V3} {p : Pl} {k : Nat} {q : V3} (hb : p.b.may d) (hk : k < 3) (h : lk d p k q) : d.at k ≠ 1 := by
  have := (Bx.may_at.1 hb k hk).1
  have := h.1
  omega
/-- A cable's other end, by coordinates. -/
theorem other_end {d : V3} {k : Nat} {m : Int} (hd : d.may) (hk : k < 3) (hm : 0 ≤ m ∧ m < d.n) : (0 ≤ d.step m k 1 ∧ d.step m k 1 < d.n) ∧ d.pos (d.step m k 1) = (d.pos m).put k (((d.pos m).at k + 1) % d.at k) :=
  ⟨V3.num_lt hd (V3.stepped_inside hd hm.1 hm.2 hk 1), V3.pos_num hd (V3.stepped_inside hd hm.1 hm.2 hk 1)⟩
theorem steps_next {f t n : Int} (h3 : 0 ≤ f) (h4 : f < n) (h5 : 0 ≤ t) (h6 : t < n) (h : stepsOn f t n + 1 < n) : stepsOn f ((t + 1) % n) n = stepsOn f t n + 1 := by
  have h7 := steps_le h3 h4 h5 h6
  have e := steps_back h3 h4 h5 h6
  have e2 : (t + 1) % n = (f + (stepsOn f t n + 1)) % n := by
    rw [← Int.add_assoc, Int.add_emod, Int.add_emod (f + stepsOn f t n), e, Int.emod_eq_of_lt h5 h6]
  rw [e2]
  exact steps_on h3 h4 (by omega) h
/-- Both ends of a mesh's cable are its own; so are they along an axis that a torus takes whole. -/
theorem ends_own {d : V3} {p : Pl} {k : Nat} {m : Int} (hd : d.may) (hb : p.b.may d) (hk : k < 3) (hm : 0 ≤ m ∧ m < d.n) (h : lk d p k (d.pos m)) (hw : p.tor k = false ∨ p.b.s.at k = d.at k) : m ∈ p.b.all d ∧ d.step m k 1 ∈ p.b.all d := by
  obtain ⟨h1, h2, h3⟩ := h
  have hbm := Bx.may_at.1 hb
  obtain ⟨⟨s1, s2⟩, b1, b2⟩ := hbm k hk
  have hi := V3.inside_at.1 (V3.pos_inside hd hm.1 hm.2)
  have hst := steps_le b1 b2 (hi k hk).1 (hi k hk).2
  obtain ⟨hr, hp⟩ := other_end hd hk hm
  have hi2 := V3.inside_at.1 (V3.pos_inside hd hr.1 hr.2)
  constructor
  · refine (Bx.mem_all_iff hd hb).2 ⟨hm, Bx.hasP_at.2 (fun j hj => ?_)⟩
    by_cases e : j = k
    · subst e
      rcases hw with hw | hw
      · rcases h3 with h3 | h3
        · rw [hw] at h3; cases h3
        · omega
      · omega
    · exact h2 j hj e
  · refine (Bx.mem_all_iff hd hb).2 ⟨hr, Bx.hasP_at.2 (fun j hj => ?_)⟩
    by_cases e : j = k
    · subst e
      rcases hw with hw | hw
      · rcases h3 with h3 | h3
        · rw [hw] at h3; cases h3
        · rw [hp, V3.put_at _ _ hj hj, if_pos rfl, steps_next b1 b2 (hi j hj).1 (hi j hj).2 (by omega)]
          omega
      · have := steps_le b1 b2 (hi2 j hj).1 (hi2 j hj).2
        omega
    · rw [hp, V3.put_at _ _ hk hj, if_neg e]
      exact h2 j hj e
theorem sorted_le (l : List Int) : (sorted l).Pairwise (· ≤ ·) := by
  have h := List.pairwise_mergeSort (le := fun (x y : Int) => decide (x ≤ y)) (fun a b c h1 h2 => by simp at *; omega) (fun a b => by simp; omega) l
  exact h.imp (fun h => by simpa using h)
theorem mem_outs {d : V3} {p : Pl} {l : List Int} {x : Int} : x ∈ outsOf d p l ↔ x ∉ p.b.all d ∧ ∃ c, c ∈ l ∧ (x = d.endM c ∨ x = d.endT c) := by
  unfold outsOf endsOf outQ
  simp only [List.mem_flatMap, List.mem_filter, List.mem_cons, List.not_mem_nil, or_false, decide_eq_true_eq]
  constructor
  · rintro ⟨c, hc, he, hn⟩; exact ⟨hn, c, hc, he⟩
  · rintro ⟨hn, c, hc, he⟩; exact ⟨c, hc, he, hn⟩
/-- Some axis along which a torus does not take all. -/
def Pl.loose (d : V3) (p : Pl) (k : Nat) : Bool := (List.range k).any (fun j => p.tor j && decide (p.b.s.at j < d.at j))
theorem loose_succ (d : V3) (p : Pl) (k : Nat) : p.loose d (k + 1) = (p.loose d k || (p.tor k && decide (p.b.s.at k < d.at k))) := by unfold Pl.loose; rw [List.range_succ, List.any_append]; simp
structure PassFacts (d : V3) (p : Pl) : Prop where
  rise : (passV d p).Pairwise (· < ·)
  own : ∀ x ∈ passV d p, (0 ≤ x ∧ x < d.n) ∧ p.b.has d x = false
  some : p.loose d 3 = decide (0 < (passV d p).length)
theorem pass_facts {d : V3} {p : Pl} (h : plChk d p = 0) : PassFacts d p := by
  obtain ⟨hd, hb, ho, _⟩ := plChk_0 h
  have hv : passV d p = Lib.compact (sorted (outsOf d p (cabsV d p))) := if_pos h
  obtain ⟨r1, r2⟩ := compact_rise (show (sorted (outsOf d p (cabsV d p))).Pairwise (· ≤ ·) from sorted_le _)
  have hmem : ∀ x, x ∈ passV d p ↔ x ∉ p.b.all d ∧ ∃ c, c ∈ cabsV d p ∧ (x = d.endM c ∨ x = d.endT c) := fun x => by rw [hv, r2, mem_sorted, mem_outs]
  have hcab : ∀ c, c ∈ cabsV d p → ∃ k m, k < 3 ∧ (0 ≤ m ∧ m < d.n) ∧ lk d p k (d.pos m) ∧ d.endM c = m ∧ d.endT c = d.step m k 1 := fun c hc => by
    obtain ⟨k, m, hk, hm, rfl, hl⟩ := (mem_cabsV hd hb c).1 hc
    obtain ⟨_, e2, e3⟩ := ends_of hd hk hm (lk_at hb hk hl)
    exact ⟨k, m, hk, hm, hl, e2, e3⟩
  have hown : ∀ x ∈ passV d p, (0 ≤ x ∧ x < d.n) ∧ p.b.has d x = false := fun x hx => by
    obtain ⟨hn, c, hc, he⟩ := (hmem x).1 hx
    obtain ⟨k, m, hk, hm, hl, e2, e3⟩ := hcab c hc
    have hr : 0 ≤ x ∧ x < d.n := by
      rcases he with rfl | rfl
      · rw [e2]; exact hm
      · rw [e3]; exact (other_end hd hk hm).1
    refine ⟨hr, ?_⟩
    cases hh : p.b.has d x with
    | false => rfl
    | true => exact absurd (Bx.mem_all.2 ⟨hr, hh⟩) hn
  refine ⟨by rw [hv]; exact r1, hown, ?_⟩
  rw [Bool.eq_iff_iff, decide_eq_true_iff]
  unfold Pl.loose
  rw [List.any_eq_true]
  constructor
  · rintro ⟨k, hk, hkk⟩
    have hk3 := List.mem_range.1 hk
    rw [Bool.and_eq_true, decide_eq_true_iff] at hkk
    obtain ⟨ht, hs⟩ := hkk
    have hbm := Bx.may_at.1 hb
    obtain ⟨⟨s1, s2⟩, b1, b2⟩ := hbm k hk3
    have hs1 : p.b.s.at k ≠ 1 := fun e => by
      have := p.odd_iff.2 ⟨k, hk3, ht, e⟩
      rw [ho] at this; cases this
    have hst := steps_on b1 b2 (i := p.b.s.at k) (by omega) hs
    have hq : d.inside (p.b.b.put k ((p.b.b.at k + p.b.s.at k) % d.at k)) := V3.inside_at.2 (fun j hj => by
      rw [V3.put_at _ _ hk3 hj]
      split
      · next e => subst e; exact ⟨Int.emod_nonneg _ (by omega), Int.emod_lt_of_pos _ (by omega)⟩
      · exact (hbm j hj).2)
    have hpn := V3.pos_num hd hq
    have hr := V3.num_lt hd hq
    have hl : lk d p k (d.pos (d.num (p.b.b.put k ((p.b.b.at k + p.b.s.at k) % d.at k)))) := by
      rw [hpn]
      refine ⟨by omega, fun j hj hne => ?_, .inl ht⟩
      rw [V3.put_at _ _ hk3 hj, if_neg hne, stepsOn_eq (hbm j hj).2.1 (hbm j hj).2.2 (hbm j hj).2.1 (hbm j hj).2.2]
      have := (hbm j hj).1.1
      simp
      omega
    have hx : d.num (p.b.b.put k ((p.b.b.at k + p.b.s.at k) % d.at k)) ∈ passV d p := by
      refine (hmem _).2 ⟨fun hm => ?_, _, (mem_cabsV hd hb _).2 ⟨k, _, hk3, hr, rfl, hl⟩, .inl (ends_of hd hk3 hr (lk_at hb hk3 hl)).2.1.symm⟩
      have h2 := Bx.hasP_at.1 ((Bx.mem_all_iff hd hb).1 hm).2 k hk3
      rw [hpn, V3.put_at _ _ hk3 hk3, if_pos rfl, hst] at h2
      omega
    exact List.length_pos_of_mem hx
  · intro hl
    obtain ⟨x, hx⟩ := List.exists_mem_of_length_pos hl
    obtain ⟨hn, c, hc, he⟩ := (hmem x).1 hx
    obtain ⟨k, m, hk, hm, hlk, e2, e3⟩ := hcab c hc
    refine ⟨k, List.mem_range.2 hk, ?_⟩
    rw [Bool.and_eq_true, decide_eq_true_iff]
    have hs := (Bx.may_at.1 hb k hk).1.2
    by_cases hw : p.tor k = false ∨ p.b.s.at k = d.at k
    · obtain ⟨a, b⟩ := ends_own hd hb hk hm hlk hw
      rcases he with rfl | rfl
      · rw [e2] at hn; exact absurd a hn
      · rw [e3] at hn; exact absurd b hn
    · have h1 : p.tor k = true := by
        cases ht : p.tor k with
        | true => rfl
        | false => exact absurd (.inl ht) hw
      exact ⟨h1, by have : p.b.s.at k ≠ d.at k := fun e => hw (.inr e); omega⟩
end Go.Proofs.Ythabpiphfaedaaa
