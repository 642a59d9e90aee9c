/- CAL: what cal answers is what the document answers, in plain Lean. -/
import Derived.Test.YtfikgjcmnooglaaCal4
import Derived.Test.YtfikgjcmnooglaaCal6
import Derived.Test.YtfikgjcmnooglaaCal7
namespace Go.Proofs.Ytfikgjcmnooglaa
open Go.RowKit Go.Shelf

theorem clearB_iff {c : List Sl} {f t : Int} : clearB c f t = true ↔ ∀ k (hk : k < c.length), meetsB c[k].f c[k].t f t = false := by
  unfold clearB
  rw [List.all_eq_true]
  constructor
  · intro h k hk
    have := h _ (List.getElem_mem hk)
    simpa using this
  · intro h s hs
    obtain ⟨k, hk, rfl⟩ := List.mem_iff_getElem.1 hs
    rw [h k hk]; rfl
theorem meetsB_no {f t g u : Int} (h1 : f < t) (h2 : g < u) : meetsB f t g u = false ↔ t ≤ g ∨ u ≤ f := by
  unfold meetsB inB
  simp only [Bool.or_eq_false_iff, Bool.and_eq_false_iff, decide_eq_false_iff_not]
  omega
/-- A span is clear just if the first slot that ends behind its beginning begins at its end or later. -/
theorem clear_iff {c : List Sl} (hch : chain 0 c = true) {f t : Int} (h : f < t) : clearB c f t = true ↔ ∀ hk : aft c f < c.length, t ≤ c[aft c f].f := by
  rw [clearB_iff]
  constructor
  · intro hall hk
    have hm := (chain_may hch hk).1.1
    rcases (meetsB_no hm.2 h).1 (hall _ hk) with h1 | h1
    · exact absurd ((aft_iff hch f hk).1 h1) (by omega)
    · exact h1
  · intro hall k hk
    have hm := (chain_may hch hk).1.1
    rw [meetsB_no hm.2 h]
    rcases Nat.lt_or_ge k (aft c f) with h1 | h1
    · exact .inl ((aft_iff hch f hk).2 h1)
    · have hlt : aft c f < c.length := by omega
      have h2 := hall hlt
      rcases Nat.lt_or_ge (aft c f) k with h3 | h3
      · have h4 := chain_next hch hk hlt h3
        have h5 := (chain_may hch hlt).1.1
        exact .inr (by omega)
      · have : k = aft c f := by omega
        subst this
        exact .inr h2
theorem free_clear {c : List Sl} (hch : chain 0 c = true) {f t : Int} (h : f < t) : freeB c f t = clearB c f t := by
  rw [Bool.eq_iff_iff, clear_iff hch h]
  unfold freeB
  rw [Bool.or_eq_true, decide_eq_true_iff, decide_eq_true_iff]
  have hal := aft_le c f
  constructor
  · rintro (h1 | h1) hk
    · omega
    · rw [List.getElem?_eq_getElem hk] at h1
      exact h1
  · intro h1
    by_cases hk : aft c f < c.length
    · right
      rw [List.getElem?_eq_getElem hk]
      exact h1 hk
    · left; omega
theorem clearV_eq (c : List Sl) (f t : Int) : clearV c f t = freeV c f t := by
  unfold clearV freeV
  split
  · next h =>
    unfold freeE at h
    split at h
    · next h0 =>
      unfold okIf at h
      split at h
      · next hm => exact (free_clear (calE_ok h0).1 hm.1.2).symm
      · cases h
    · next h0 => exact absurd h h0
  · rfl

theorem cand_succ {c : List Sl} {fr : Int} {n : Nat} (h : n < c.length) : cand c fr (n + 1) = c[n].t := by
  unfold cand; rw [if_neg (by omega)]; simp [h]
theorem nextF_good {c : List Sl} (hch : chain 0 c = true) {fr long : Int} (hl : 1 ≤ long) : ∀ (m n : Nat) (g : Int), n + m = c.length → fr ≤ g → (∃ j, j ≤ c.length ∧ g = cand c fr j) → (∀ k (hk : k < c.length), k < n → c[k].t ≤ g) →
    (∀ k (hk : k < c.length), n ≤ k → g < c[k].t) → (∀ x, fr ≤ x → clearB c x (x + long) = true → g ≤ x) →
    fr ≤ nextF (c.drop n) g long ∧ (∃ j, j ≤ c.length ∧ nextF (c.drop n) g long = cand c fr j) ∧ clearB c (nextF (c.drop n) g long) (nextF (c.drop n) g long + long) = true ∧ ∀ x, fr ≤ x → clearB c x (x + long) = true → nextF (c.drop n) g long ≤ x
  | 0, n, g, hn, hfr, hca, hlo, hhi, hmin => by
    have e : nextF (c.drop n) g long = g := by rw [show n = c.length by omega, List.drop_length]; rfl
    rw [e]
    refine ⟨hfr, hca, ?_, hmin⟩
    rw [clearB_iff]
    intro k hk
    rw [meetsB_no (chain_may hch hk).1.1.2 (by omega)]
    exact .inl (hlo k hk (by omega))
  | m + 1, n, g, hn, hfr, hca, hlo, hhi, hmin => by
    have hlt : n < c.length := by omega
    have hm := (chain_may hch hlt).1
    have h0 := hm.1.2
    rw [nextF_drop hlt]
    by_cases hf : long ≤ c[n].f - g
    · rw [if_pos hf]
      refine ⟨hfr, hca, ?_, hmin⟩
      rw [clearB_iff]
      intro k hk
      rw [meetsB_no (chain_may hch hk).1.1.2 (by omega)]
      rcases Nat.lt_or_ge k n with h1 | h1
      · exact .inl (hlo k hk h1)
      · rcases Nat.lt_or_ge n k with h2 | h2
        · have h3 := chain_next hch hk hlt h2
          exact .inr (by omega)
        · have : k = n := by omega
          subst this
          exact .inr (by omega)
    · rw [if_neg hf]
      have hg := hhi n hlt (Nat.le_refl _)
      refine nextF_good hch hl m (n + 1) c[n].t (by omega) (by omega) ⟨n + 1, by omega, (cand_succ hlt).symm⟩ ?_ ?_ ?_
      · intro k hk h1
        rcases Nat.lt_or_ge k n with h2 | h2
        · have h3 := chain_next hch hlt hk h2
          omega
        · have : k = n := by omega
          subst this
          exact Int.le_refl _
      · intro k hk h1
        have h3 := chain_next hch hk hlt h1
        have h4 := (chain_may hch hk).1.1.2
        omega
      · intro x hx hcl
        have h1 := hmin x hx hcl
        rw [clearB_iff] at hcl
        have h2 := (meetsB_no h0 (by omega)).1 (hcl n hlt)
        omega

def feas (c : List Sl) (fr long x : Int) : Prop := fr ≤ x ∧ long ≤ 1099511627776 - x ∧ clearB c x (x + long) = true
theorem best_good (c : List Sl) {fr long : Int} (h0 : 0 ≤ fr) : ∀ k, (bestTo c fr long k = -1 ∧ ∀ j, j < k → ¬ feas c fr long (cand c fr j)) ∨
    (∃ i, i < k ∧ feas c fr long (cand c fr i) ∧ bestTo c fr long k = cand c fr i ∧ ∀ j, j < k → feas c fr long (cand c fr j) → cand c fr i ≤ cand c fr j)
  | 0 => .inl ⟨rfl, fun j h => absurd h (by omega)⟩
  | k + 1 => by
    have ih := best_good c (fr := fr) (long := long) h0 k
    have e : bestTo c fr long (k + 1) = stepB c fr long (bestTo c fr long k) (cand c fr k) := rfl
    have hall : ∀ {p : Nat → Prop}, (∀ j, j < k → p j) → p k → ∀ j, j < k + 1 → p j := fun {p} h1 h2 j hj => by
      rcases Nat.lt_or_ge j k with h3 | h3
      · exact h1 j h3
      · have : j = k := by omega
        subst this; exact h2
    rw [e]
    unfold stepB
    have keep : ¬ feas c fr long (cand c fr k) → (bestTo c fr long k = -1 ∧ ∀ j, j < k + 1 → ¬ feas c fr long (cand c fr j)) ∨
        (∃ i, i < k + 1 ∧ feas c fr long (cand c fr i) ∧ bestTo c fr long k = cand c fr i ∧ ∀ j, j < k + 1 → feas c fr long (cand c fr j) → cand c fr i ≤ cand c fr j) := fun hn => by
      rcases ih with ⟨i1, i2⟩ | ⟨i, i1, i2, i3, i4⟩
      · exact .inl ⟨i1, hall i2 hn⟩
      · exact .inr ⟨i, by omega, i2, i3, hall i4 (fun h => absurd h hn)⟩
    obtain ⟨x, hx⟩ : ∃ x, x = cand c fr k := ⟨_, rfl⟩
    rw [← hx] at keep ⊢
    by_cases hA : x < fr
    · rw [if_pos hA]
      exact keep (fun h => by have := h.1; omega)
    rw [if_neg hA]
    by_cases hL : 1099511627776 - x < long
    · rw [if_pos hL]
      exact keep (fun h => by have := h.2.1; omega)
    rw [if_neg hL]
    cases hcl : clearB c x (x + long)
    · have hk := keep (fun h => by have := h.2.2; rw [hcl] at this; cases this)
      simpa using hk
    · have hfe : feas c fr long x := ⟨by omega, by omega, hcl⟩
      simp only [if_true]
      rcases ih with ⟨i1, i2⟩ | ⟨i, i1, i2, i3, i4⟩
      · rw [i1, if_neg (by omega)]
        exact .inr ⟨k, by omega, by rw [← hx]; exact hfe, hx, hall (fun j hj h => absurd h (i2 j hj)) (fun _ => Int.le_refl _)⟩
      · have hp := i2.1
        rw [i3, if_pos (by omega)]
        by_cases hle : cand c fr i ≤ x
        · rw [if_pos hle]
          exact .inr ⟨i, by omega, i2, rfl, hall i4 (fun _ => by rw [← hx]; exact hle)⟩
        · rw [if_neg hle]
          exact .inr ⟨k, by omega, by rw [← hx]; exact hfe, hx, hall (fun j hj h => by have := i4 j hj h; rw [← hx]; omega) (fun _ => Int.le_refl _)⟩

theorem best_next {c : List Sl} (hch : chain 0 c = true) {fr long : Int} (h0 : 0 ≤ fr) (hl : 1 ≤ long) : bestOf c fr long = if long ≤ 1099511627776 - nextN c fr long then nextN c fr long else -1 := by
  have hal := aft_le c fr
  have hI := fun (k : Nat) (hk : k < c.length) => aft_iff hch fr hk
  obtain ⟨n1, ⟨j, n2, n3⟩, n4, n5⟩ := nextF_good hch hl (fr := fr) (c.length - aft c fr) (aft c fr) fr (by omega) (Int.le_refl _) ⟨0, by omega, rfl⟩ (fun k hk h => (hI k hk).2 h)
    (fun k hk h => by
      rcases Int.lt_or_le fr c[k].t with h1 | h1
      · exact h1
      · have := (hI k hk).1 h1; omega) (fun x hx _ => hx)
  change fr ≤ nextN c fr long at n1
  change nextN c fr long = _ at n3
  change clearB c (nextN c fr long) (nextN c fr long + long) = true at n4
  change ∀ x, fr ≤ x → clearB c x (x + long) = true → nextN c fr long ≤ x at n5
  generalize nextN c fr long = N at *
  have hb := best_good c (fr := fr) (long := long) h0 (c.length + 1)
  change (bestOf c fr long = -1 ∧ _) ∨ (∃ i, _ ∧ _ ∧ bestOf c fr long = _ ∧ _) at hb
  by_cases hN : long ≤ 1099511627776 - N
  · rw [if_pos hN]
    have hfe : feas c fr long (cand c fr j) := by rw [← n3]; exact ⟨n1, hN, n4⟩
    rcases hb with ⟨i1, i2⟩ | ⟨i, i1, i2, i3, i4⟩
    · exact absurd hfe (i2 j (by omega))
    · have h1 := i4 j (by omega) hfe
      have h2 := n5 _ i2.1 i2.2.2
      rw [i3]; omega
  · rw [if_neg hN]
    rcases hb with ⟨i1, i2⟩ | ⟨i, i1, i2, i3, i4⟩
    · exact i1
    · have h2 := n5 _ i2.1 i2.2.2
      have h3 := i2.2.1
      omega

theorem nrE_eq (c : List Sl) (fr long : Int) : nrE c fr long = nextE c fr long := by
  unfold nrE nextE
  cases hy : calOk c
  · rw [if_neg (by decide), if_neg (by unfold calE; rw [hy]; decide)]; unfold calE; rw [hy]; rfl
  · have he : calE c = 0 := by unfold calE; rw [hy]; rfl
    rw [if_pos rfl, if_pos he]
    by_cases ha : (0 ≤ fr ∧ fr < 1099511627776) ∧ 1 ≤ long
    · rw [if_pos ha, if_pos ha, best_next (calE_ok he).1 ha.1.1 ha.2]
      have hch := (calE_ok he).1
      have hn : 0 ≤ nextN c fr long := (nextF_in (fun s hs => by
        obtain ⟨k, hk, rfl⟩ := List.mem_iff_getElem.1 (List.mem_of_mem_drop hs)
        exact chain_may hch hk) ha.1.1 (by omega)).1
      by_cases hN : long ≤ 1099511627776 - nextN c fr long
      · rw [if_pos hN, if_pos hN, if_neg (by omega)]
      · rw [if_neg hN, if_neg hN, if_pos (by decide)]
    · rw [if_neg ha, if_neg ha]
theorem nrV_eq (c : List Sl) (fr long : Int) : nrV c fr long = nextV c fr long := by
  unfold nrV nextV
  rw [nrE_eq]
  split
  · next h =>
    unfold nextE at h
    split at h
    · next he =>
      split at h
      · next ha =>
        rw [best_next (calE_ok he).1 ha.1.1 ha.2]
        split at h
        · next hN => rw [if_pos hN]
        · cases h
      · cases h
    · next he => exact absurd h he
  · rfl
end Go.Proofs.Ytfikgjcmnooglaa
