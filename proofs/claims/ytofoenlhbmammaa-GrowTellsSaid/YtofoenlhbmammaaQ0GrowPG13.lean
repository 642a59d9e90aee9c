/- GROW, THE PLAIN LAW: a box grown as far as it goes lies in no other free one, and holds the box that it came of. -/
import Derived.Test.YtofoenlhbmammaaQ0GrowWG13
set_option linter.unusedVariables false
set_option linter.unusedSimpArgs false
namespace Go.Proofs.Ytofoenlhbmammaa

section
open Go.RowKit Go.Shelf

theorem nextJ_some {d : V3} {s : List Nat} {b c : Bx} (h : nextJ d s b = some c) : ∃ j, j < 6 ∧ okJ d s b j = true ∧ c = (stepJ d b j).can d := by
  unfold nextJ at h
  obtain ⟨j, hj, e⟩ := Option.map_eq_some_iff.1 h
  have h2 := List.find?_some hj
  have h3 := List.mem_of_find?_eq_some hj
  exact ⟨j, List.mem_range.1 h3, h2, e.symm⟩
theorem nextJ_none {d : V3} {s : List Nat} {b : Bx} (h : nextJ d s b = none) : ∀ j, j < 6 → okJ d s b j = false := by
  unfold nextJ at h
  rw [Option.map_eq_none_iff, List.find?_eq_none] at h
  intro j hj
  have := h j (List.mem_range.2 hj)
  simpa using this
theorem stepJ_in {d : V3} {s : List Nat} {b : Bx} {j : Nat} (hd : d.may) (hb : b.may d) (hj : j < 6) (h : okJ d s b j = true) : b.inB d ((stepJ d b j).can d) := by
  unfold okJ at h
  rw [Bool.and_eq_true, decide_eq_true_iff] at h
  have hk : j / 2 < 3 := by omega
  exact (in_can' hd hb h.1).2 (in_step hb hk (step_may_size hk h.1) (back_01 j))
/-- Where the steps end. -/
theorem growTo_end {d : V3} {s : List Nat} (hd : d.may) : ∀ (f : Nat) (b : Bx), b.isC d → clearS d s b = true → 4098 ≤ (f : Int) + b.vol →
    (growTo d s f b).isC d ∧ clearS d s (growTo d s f b) = true ∧ nextJ d s (growTo d s f b) = none ∧ b.inB d (growTo d s f b)
  | 0, b, hb, _, hf => by have := (vol_le hd hb.1).2; omega
  | f + 1, b, hb, hc, hf => by
    cases hn : nextJ d s b with
    | none =>
      rw [growTo_none hn]
      exact ⟨hb, hc, hn, in_refl hd hb.1⟩
    | some c =>
      obtain ⟨j, hj, hok, rfl⟩ := nextJ_some hn
      obtain ⟨v1, v2, v3⟩ := okJ_vol hd hb.1 hj hok
      rw [growTo_some hn]
      obtain ⟨h1, h2, h3, h4⟩ := growTo_end hd f _ v1 v2 (by omega)
      exact ⟨h1, h2, h3, in_trans hd hb.1 v1.1 h1.1 (stepJ_in hd hb.1 hj hok) h4⟩
theorem okStep_J {d : V3} {s : List Nat} {b : Bx} (h : ∀ j, j < 6 → okJ d s b j = false) : ∀ k, k < 3 → ∀ back, back = 0 ∨ back = 1 → okStep d s b k back = false := fun k hk back hb => by
  rcases hb with rfl | rfl
  · have h1 := h (2 * k) (by omega)
    unfold okJ stepJ at h1
    rw [show 2 * k / 2 = k by omega, show ((2 * k : Nat) : Int) % 2 = 0 by omega] at h1
    exact h1
  · have h1 := h (2 * k + 1) (by omega)
    unfold okJ stepJ at h1
    rw [show (2 * k + 1) / 2 = k by omega, show ((2 * k + 1 : Nat) : Int) % 2 = 1 by omega] at h1
    exact h1
theorem gnE_0 {d : V3} {s : List Nat} {b : Bx} (h : gnE d s b = 0) : growE d s = 0 ∧ chk d b = 0 ∧ clearS d s b = true := by
  unfold gnE at h
  by_cases h1 : growE d s = 0
  · rw [if_pos h1] at h
    by_cases h2 : chk d b = 0
    · rw [if_pos h2] at h
      cases h3 : clearS d s b with
      | true => exact ⟨h1, h2, rfl⟩
      | false => rw [h3, if_neg (by decide)] at h; omega
    · rw [if_neg h2] at h; exact absurd h h2
  · rw [if_neg h1] at h; exact absurd h h1
/-- A box grown is one of those that lie in no other one, and the box lies in it. -/
theorem grown_most {d : V3} {s : List Nat} {b : Bx} (h : gnE d s b = 0) : gnV d s b ∈ mostL d (freeL d s) ∧ boxWithin d b (gnV d s b) = true := by
  obtain ⟨h1, h2, h3⟩ := gnE_0 h
  have hd := (growE_0 h1).1
  have hb := (chk_may h2).2
  have hv : gnV d s b = growTo d s 5000 (b.can d) := if_pos h
  have hc : clearS d s (b.can d) = true := by rw [clear_can hd hb]; exact h3
  obtain ⟨g1, g2, g3, g4⟩ := growTo_end hd 5000 (b.can d) (can_isC hb) hc (by have := (vol_le hd (can_isC hb).1).1; omega)
  rw [hv]
  generalize growTo d s 5000 (b.can d) = g at *
  refine ⟨mem_mostL.2 ⟨(mem_freeL hd).2 ⟨g1, g2⟩, fun c hc hw => ?_⟩, (within_in hd hb g1.1).2 ((in_can hd hb g1.1).1 g4)⟩
  obtain ⟨cc, cf⟩ := (mem_freeL hd).1 hc
  exact stuck_most hd g1 cc cf (okStep_J (nextJ_none g3)) ((within_in hd g1.1 cc.1).1 hw)
theorem mostL_nodup {d : V3} (hd : d.may) (s : List Nat) : (mostL d (freeL d s)).Nodup := List.Pairwise.filter _ (freeL_nodup hd s)
theorem mostL_alone {d : V3} {A : List Bx} (hA : A.Nodup) {i k : Nat} (hi : i < (mostL d A).length) (hk : k < (mostL d A).length) (hne : k ≠ i) : boxWithin d (mostL d A)[i] (mostL d A)[k] = false := by
  have hN : (mostL d A).Nodup := List.Pairwise.filter _ hA
  cases h : boxWithin d (mostL d A)[i] (mostL d A)[k] with
  | false => rfl
  | true =>
    have h1 := (mem_mostL.1 (List.getElem_mem hi)).2 _ (mem_mostL.1 (List.getElem_mem hk)).1 h
    exact absurd ((List.getElem_inj hN).1 h1).symm hne
end
end Go.Proofs.Ytofoenlhbmammaa
