/- CAL: the plain laws. -/
import Derived.Test.YtofoenlhbmammaaGreatQ5F11
import Derived.Test.YtofoenlhbmammaaGreatQ0CalAF11
set_option linter.unusedVariables false
set_option linter.unusedSimpArgs false
namespace Go.Proofs.YtofoenlhbmammaaGreat

section
section
open Go.RowKit Go.Shelf

theorem clearB_iff {c : List Sl} {f t : Int} : clearB c f t = true ↔ ∀ k (hk : k < c.length), meetsB c[k].f c[k].t f t = false := by
  unfold clearB
  rw [List.all_eq_true]
  constructor
  · intro h k hk
    have := h _ (List.getElem_mem hk)
    simpa using this
  · intro h s hs
    obtain ⟨k, hk, rfl⟩ := List.mem_iff_getElem.1 hs
    rw [h k hk]; rfl
theorem meetsB_no {f t g u : Int} (h1 : f < t) (h2 : g < u) : meetsB f t g u = false ↔ t ≤ g ∨ u ≤ f := by
  unfold meetsB inB
  simp only [Bool.or_eq_false_iff, Bool.and_eq_false_iff, decide_eq_false_iff_not]
  omega
/-- A span is clear just if the first slot that ends behind its beginning begins at its end or later. -/
theorem clear_iff {c : List Sl} (hch : chain 0 c = true) {f t : Int} (h : f < t) : clearB c f t = true ↔ ∀ hk : aft c f < c.length, t ≤ c[aft c f].f := by
  rw [clearB_iff]
  constructor
  · intro hall hk
    have hm := (chain_may hch hk).1.1
    rcases (meetsB_no hm.2 h).1 (hall _ hk) with h1 | h1
    · exact absurd ((aft_iff hch f hk).1 h1) (by omega)
    · exact h1
  · intro hall k hk
    have hm := (chain_may hch hk).1.1
    rw [meetsB_no hm.2 h]
    rcases Nat.lt_or_ge k (aft c f) with h1 | h1
    · exact .inl ((aft_iff hch f hk).2 h1)
    · have hlt : aft c f < c.length := by omega
      have h2 := hall hlt
      rcases Nat.lt_or_ge (aft c f) k with h3 | h3
      · have h4 := chain_next hch hk hlt h3
        have h5 := (chain_may hch hlt).1.1
        exact .inr (by omega)
      · have : k = aft c f := by omega
        subst this
        exact .inr h2
theorem free_clear {c : List Sl} (hch : chain 0 c = true) {f t : Int} (h : f < t) : freeB c f t = clearB c f t := by
  rw [Bool.eq_iff_iff, clear_iff hch h]
  unfold freeB
  rw [Bool.or_eq_true, decide_eq_true_iff, decide_eq_true_iff]
  have hal := aft_le c f
  constructor
  · rintro (h1 | h1) hk
    · omega
    · rw [List.getElem?_eq_getElem hk] at h1
      exact h1
  · intro h1
    by_cases hk : aft c f < c.length
    · right
      rw [List.getElem?_eq_getElem hk]
      exact h1 hk
    · left; omega
theorem clearV_eq (c : List Sl) (f t : Int) : clearV c f t = freeV c f t := by
  unfold clearV freeV
  split
  · next h =>
    unfold freeE at h
    split at h
    · next h0 =>
      unfold okIf at h
      split at h
      · next hm => exact (free_clear (calE_ok h0).1 hm.1.2).symm
      · cases h
    · next h0 => exact absurd h h0
  · rfl

theorem cand_succ {c : List Sl} {fr : Int} {n : Nat} (h : n < c.length) : cand c fr (n + 1) = c[n].t := by
  unfold cand; rw [if_neg (by omega)]; simp [h]
theorem nextF_good {c : List Sl} (hch : chain 0 c = true) {fr long : Int} (hl : 1 ≤ long) : ∀ (m n : Nat) (g : Int), n + m = c.length → fr ≤ g → (∃ j, j ≤ c.length ∧ g = cand c fr j) → (∀ k (hk : k < c.length), k < n → c[k].t ≤ g) →
    (∀ k (hk : k < c.length), n ≤ k → g < c[k].t) → (∀ x, fr ≤ x → clearB c x (x + long) = true → g ≤ x) →
    fr ≤ nextF (c.drop n) g long ∧ (∃ j, j ≤ c.length ∧ nextF (c.drop n) g long = cand c fr j) ∧ clearB c (nextF (c.drop n) g long) (nextF (c.drop n) g long + long) = true ∧ ∀ x, fr ≤ x → clearB c x (x + long) = true → nextF (c.drop n) g long ≤ x
  | 0, n, g, hn, hfr, hca, hlo, hhi, hmin => by
    have e : nextF (c.drop n) g long = g := by rw [show n = c.length by omega, List.drop_length]; rfl
    rw [e]
    refine ⟨hfr, hca, ?_, hmin⟩
    rw [clearB_iff]
    intro k hk
    rw [meetsB_no (chain_may hch hk).1.1.2 (by omega)]
    exact .inl (hlo k hk (by omega))
  | m + 1, n, g, hn, hfr, hca, hlo, hhi, hmin => by
    have hlt : n < c.length := by omega
    have hm := (chain_may hch hlt).1
    have h0 := hm.1.2
    rw [nextF_drop hlt]
    by_cases hf : long ≤ c[n].f - g
    · rw [if_pos hf]
      refine ⟨hfr, hca, ?_, hmin⟩
      rw [clearB_iff]
      intro k hk
      rw [meetsB_no (chain_may hch hk).1.1.2 (by omega)]
      rcases Nat.lt_or_ge k n with h1 | h1
      · exact .inl (hlo k hk h1)
      · rcases Nat.lt_or_ge n k with h2 | h2
        · have h3 := chain_next hch hk hlt h2
          exact .inr (by omega)
        · have : k = n := by omega
          subst this
          exact .inr (by omega)
    · rw [if_neg hf]
      have hg := hhi n hlt (Nat.le_refl _)
      refine nextF_good hch hl m (n + 1) c[n].t (by omega) (by omega) ⟨n + 1, by omega, (cand_succ hlt).symm⟩ ?_ ?_ ?_
      · intro k hk h1
        rcases Nat.lt_or_ge k n with h2 | h2
        · have h3 := chain_next hch hlt hk h2
          omega
        · have : k = n := by omega
          subst this
          exact Int.le_refl _
      · intro k hk h1
        have h3 := chain_next hch hk hlt h1
        have h4 := (chain_may hch hk).1.1.2
        omega
      · intro x hx hcl
        have h1 := hmin x hx hcl
        rw [clearB_iff] at hcl
        have h2 := (meetsB_no h0 (by omega)).1 (hcl n hlt)
        omega

def feas (c : List Sl) (fr long x : Int) : Prop := fr ≤ x ∧ long ≤ 1099511627776 - x ∧ clearB c x (x + long) = true
theorem best_good (c : List Sl) {fr long : Int} (h0 : 0 ≤ fr) : ∀ k, (bestTo c fr long k = -1 ∧ ∀ j, j < k → ¬ feas c fr long (cand c fr j)) ∨
    (∃ i, i < k ∧ feas c fr long (cand c fr i) ∧ bestTo c fr long k = cand c fr i ∧ ∀ j, j < k → feas c fr long (cand c fr j) → cand c fr i ≤ cand c fr j)
  | 0 => .inl ⟨rfl, fun j h => absurd h (by omega)⟩
  | k + 1 => by
    have ih := best_good c (fr := fr) (long := long) h0 k
    have e : bestTo c fr long (k + 1) = stepB c fr long (bestTo c fr long k) (cand c fr k) := rfl
    have hall : ∀ {p : Nat → Prop}, (∀ j, j < k → p j) → p k → ∀ j, j < k + 1 → p j := fun {p} h1 h2 j hj => by
      rcases Nat.lt_or_ge j k with h3 | h3
      · exact h1 j h3
      · have : j = k := by omega
        subst this; exact h2
    rw [e]
    unfold stepB
    have keep : ¬ feas c fr long (cand c fr k) → (bestTo c fr long k = -1 ∧ ∀ j, j < k + 1 → ¬ feas c fr long (cand c fr j)) ∨
        (∃ i, i < k + 1 ∧ feas c fr long (cand c fr i) ∧ bestTo c fr long k = cand c fr i ∧ ∀ j, j < k + 1 → feas c fr long (cand c fr j) → cand c fr i ≤ cand c fr j) := fun hn => by
      rcases ih with ⟨i1, i2⟩ | ⟨i, i1, i2, i3, i4⟩
      · exact .inl ⟨i1, hall i2 hn⟩
      · exact .inr ⟨i, by omega, i2, i3, hall i4 (fun h => absurd h hn)⟩
    obtain ⟨x, hx⟩ : ∃ x, x = cand c fr k := ⟨_, rfl⟩
    rw [← hx] at keep ⊢
    by_cases hA : x < fr
    · rw [if_pos hA]
      exact keep (fun h => by have := h.1; omega)
    rw [if_neg hA]
    by_cases hL : 1099511627776 - x < long
    · rw [if_pos hL]
      exact keep (fun h => by have := h.2.1; omega)
    rw [if_neg hL]
    cases hcl : clearB c x (x + long)
    · have hk := keep (fun h => by have := h.2.2; rw [hcl] at this; cases this)
      simpa using hk
    · have hfe : feas c fr long x := ⟨by omega, by omega, hcl⟩
      simp only [if_true]
      rcases ih with ⟨i1, i2⟩ | ⟨i, i1, i2, i3, i4⟩
      · rw [i1, if_neg (by omega)]
        exact .inr ⟨k, by omega, by rw [← hx]; exact hfe, hx, hall (fun j hj h => absurd h (i2 j hj)) (fun _ => Int.le_refl _)⟩
      · have hp := i2.1
        rw [i3, if_pos (by omega)]
        by_cases hle : cand c fr i ≤ x
        · rw [if_pos hle]
          exact .inr ⟨i, by omega, i2, rfl, hall i4 (fun _ => by rw [← hx]; exact hle)⟩
        · rw [if_neg hle]
          exact .inr ⟨k, by omega, by rw [← hx]; exact hfe, hx, hall (fun j hj h => by have := i4 j hj h; rw [← hx]; omega) (fun _ => Int.le_refl _)⟩

theorem best_next {c : List Sl} (hch : chain 0 c = true) {fr long : Int} (h0 : 0 ≤ fr) (hl : 1 ≤ long) : bestOf c fr long = if long ≤ 1099511627776 - nextN c fr long then nextN c fr long else -1 := by
  have hal := aft_le c fr
  have hI := fun (k : Nat) (hk : k < c.length) => aft_iff hch fr hk
  obtain ⟨n1, ⟨j, n2, n3⟩, n4, n5⟩ := nextF_good hch hl (fr := fr) (c.length - aft c fr) (aft c fr) fr (by omega) (Int.le_refl _) ⟨0, by omega, rfl⟩ (fun k hk h => (hI k hk).2 h)
    (fun k hk h => by
      rcases Int.lt_or_le fr c[k].t with h1 | h1
      · exact h1
      · have := (hI k hk).1 h1; omega) (fun x hx _ => hx)
  change fr ≤ nextN c fr long at n1
  change nextN c fr long = _ at n3
  change clearB c (nextN c fr long) (nextN c fr long + long) = true at n4
  change ∀ x, fr ≤ x → clearB c x (x + long) = true → nextN c fr long ≤ x at n5
  generalize nextN c fr long = N at *
  have hb := best_good c (fr := fr) (long := long) h0 (c.length + 1)
  change (bestOf c fr long = -1 ∧ _) ∨ (∃ i, _ ∧ _ ∧ bestOf c fr long = _ ∧ _) at hb
  by_cases hN : long ≤ 1099511627776 - N
  · rw [if_pos hN]
    have hfe : feas c fr long (cand c fr j) := by rw [← n3]; exact ⟨n1, hN, n4⟩
    rcases hb with ⟨i1, i2⟩ | ⟨i, i1, i2, i3, i4⟩
    · exact absurd hfe (i2 j (by omega))
    · have h1 := i4 j (by omega) hfe
      have h2 := n5 _ i2.1 i2.2.2
      rw [i3]; omega
  · rw [if_neg hN]
    rcases hb with ⟨i1, i2⟩ | ⟨i, i1, i2, i3, i4⟩
    · exact i1
    · have h2 := n5 _ i2.1 i2.2.2
      have h3 := i2.2.1
      omega

theorem nrE_eq (c : List Sl) (fr long : Int) : nrE c fr long = nextE c fr long := by
  unfold nrE nextE
  cases hy : calOk c
  · rw [if_neg (by decide), if_neg (by unfold calE; rw [hy]; decide)]; unfold calE; rw [hy]; rfl
  · have he : calE c = 0 := by unfold calE; rw [hy]; rfl
    rw [if_pos rfl, if_pos he]
    by_cases ha : (0 ≤ fr ∧ fr < 1099511627776) ∧ 1 ≤ long
    · rw [if_pos ha, if_pos ha, best_next (calE_ok he).1 ha.1.1 ha.2]
      have hch := (calE_ok he).1
      have hn : 0 ≤ nextN c fr long := (nextF_in (fun s hs => by
        obtain ⟨k, hk, rfl⟩ := List.mem_iff_getElem.1 (List.mem_of_mem_drop hs)
        exact chain_may hch hk) ha.1.1 (by omega)).1
      by_cases hN : long ≤ 1099511627776 - nextN c fr long
      · rw [if_pos hN, if_pos hN, if_neg (by omega)]
      · rw [if_neg hN, if_neg hN, if_pos (by decide)]
    · rw [if_neg ha, if_neg ha]
theorem nrV_eq (c : List Sl) (fr long : Int) : nrV c fr long = nextV c fr long := by
  unfold nrV nextV
  rw [nrE_eq]
  split
  · next h =>
    unfold nextE at h
    split at h
    · next he =>
      split at h
      · next ha =>
        rw [best_next (calE_ok he).1 ha.1.1 ha.2]
        split at h
        · next hN => rw [if_pos hN]
        · cases h
      · cases h
    · next he => exact absurd h he
  · rfl
end

section
open Go.RowKit Go.Shelf

theorem chain_iff : ∀ {c : List Sl} {last : Int}, chain last c = true ↔ (∀ s ∈ c, s.may ∧ last ≤ s.f) ∧ c.Pairwise (fun x y => x.t ≤ y.f)
  | [], _ => by simp [chain]
  | s :: c, last => by
    simp only [chain, Bool.and_eq_true, decide_eq_true_iff, chain_iff (c := c), List.mem_cons, forall_eq_or_imp, List.pairwise_cons]
    constructor
    · rintro ⟨h1, h2, h3, h4⟩
      refine ⟨⟨⟨h1, h2⟩, fun x hx => ⟨(h3 x hx).1, ?_⟩⟩, fun x hx => (h3 x hx).2, h4⟩
      have := (h3 x hx).2; have := h1.1.1; omega
    · rintro ⟨⟨⟨h1, h2⟩, h3⟩, h4, h5⟩
      exact ⟨h1, h2, fun x hx => ⟨(h3 x hx).1, h4 x hx⟩, h5⟩
theorem chain0_iff {c : List Sl} : chain 0 c = true ↔ (∀ s ∈ c, s.may) ∧ c.Pairwise (fun x y => x.t ≤ y.f) := by
  rw [chain_iff]
  exact ⟨fun h => ⟨fun s hs => (h.1 s hs).1, h.2⟩, fun h => ⟨fun s hs => ⟨h.1 s hs, (h.1 s hs).1.1.1⟩, h.2⟩⟩
theorem calE_iff {c : List Sl} : calE c = 0 ↔ c.length ≤ 4096 ∧ chain 0 c = true := by
  unfold calE calOk
  constructor
  · intro h
    split at h
    · next e => simpa using e
    · cases h
  · intro h
    rw [if_pos (by simpa using h)]

/-- Who has a moment: just one may. -/
theorem hit_iff {c : List Sl} (hch : chain 0 c = true) (a : Int) (s : Sl) : hitAt c a = some s ↔ s ∈ c ∧ (s.f ≤ a ∧ a < s.t) := by
  rw [← hitR_eq hch]
  unfold hitR
  obtain ⟨hm, hp⟩ := chain0_iff.1 hch
  constructor
  · intro h
    have h1 := List.find?_some h
    have h2 := List.mem_of_find?_eq_some h
    unfold inB at h1
    simp only [Bool.and_eq_true, decide_eq_true_iff] at h1
    exact ⟨h2, h1⟩
  · rintro ⟨h1, h2, h3⟩
    clear hch
    induction c with
    | nil => cases h1
    | cons x c ih =>
      rw [List.find?_cons]
      rw [List.pairwise_cons] at hp
      rcases List.mem_cons.1 h1 with rfl | h4
      · rw [show inB s.f s.t a = true by unfold inB; rw [decide_eq_true h2, decide_eq_true h3]; rfl]
      · have h5 := hp.1 s h4
        have h6 := hm x (List.mem_cons_self ..)
        rw [show inB x.f x.t a = false by unfold inB; rw [decide_eq_false (show ¬ a < x.t by omega), Bool.and_false]]
        exact ih (fun y hy => hm y (List.mem_cons_of_mem _ hy)) hp.2 h4
theorem hit_ext {c d : List Sl} (hc : chain 0 c = true) (hd : chain 0 d = true) (a b : Int) (h : ∀ s, (s ∈ c ∧ (s.f ≤ a ∧ a < s.t)) ↔ (s ∈ d ∧ (s.f ≤ b ∧ b < s.t))) : hitAt c a = hitAt d b :=
  Option.ext fun s => by rw [hit_iff hc, hit_iff hd]; exact h s

/-! ### a slot more -/
def putL (c : List Sl) (s : Sl) : List Sl := c.take (aft c s.f) ++ s :: c.drop (aft c s.f)
def putE (c : List Sl) (s : Sl) : Int := if calE c = 0 then if s.may then if freeB c s.f s.t then if c.length = 4096 then 4 else 0 else 80 else 2 else calE c
def putV (c : List Sl) (s : Sl) : List Sl := if putE c s = 0 then putL c s else []
theorem putL_len (c : List Sl) (s : Sl) : (putL c s).length = c.length + 1 := by
  have := aft_le c s.f
  simp [putL]; omega
theorem mem_putL {c : List Sl} {s x : Sl} : x ∈ putL c s ↔ x = s ∨ x ∈ c := by
  unfold putL
  rw [List.mem_append, List.mem_cons]
  constructor
  · rintro (h | h | h)
    · exact .inr (List.mem_of_mem_take h)
    · exact .inl h
    · exact .inr (List.mem_of_mem_drop h)
  · rintro (h | h)
    · exact .inr (.inl h)
    · rw [← List.take_append_drop (aft c s.f) c, List.mem_append] at h
      rcases h with h | h
      · exact .inl h
      · exact .inr (.inr h)
theorem take_aft {c : List Sl} (hch : chain 0 c = true) (a : Int) : ∀ x ∈ c.take (aft c a), x.t ≤ a := by
  intro x hx
  obtain ⟨k, hk, rfl⟩ := List.mem_iff_getElem.1 hx
  rw [List.length_take] at hk
  rw [List.getElem_take]
  exact (aft_iff hch a (by omega)).2 (by omega)
theorem drop_aft {c : List Sl} (hch : chain 0 c = true) {f t : Int} (hfr : freeB c f t = true) : ∀ x ∈ c.drop (aft c f), t ≤ x.f := by
  intro x hx
  obtain ⟨k, hk, rfl⟩ := List.mem_iff_getElem.1 hx
  rw [List.length_drop] at hk
  rw [List.getElem_drop]
  unfold freeB at hfr
  rw [Bool.or_eq_true, decide_eq_true_iff, decide_eq_true_iff] at hfr
  have hlt : aft c f < c.length := by omega
  have h0 : t ≤ c[aft c f].f := by
    rcases hfr with h | h
    · omega
    · rw [List.getElem?_eq_getElem hlt] at h; exact h
  by_cases e : k = 0
  · subst e; exact h0
  · have h4 := chain_next hch (j := aft c f + k) (by omega) hlt (by omega)
    have h5 := (chain_may hch hlt).1.1
    omega
theorem putL_chain {c : List Sl} {s : Sl} (hch : chain 0 c = true) (hs : s.may) (hfr : freeB c s.f s.t = true) : chain 0 (putL c s) = true := by
  have h1 := take_aft hch s.f
  have h2 := drop_aft hch hfr
  obtain ⟨hm, hp⟩ := chain0_iff.1 hch
  rw [chain0_iff]
  refine ⟨fun x hx => ?_, ?_⟩
  · rcases mem_putL.1 hx with rfl | h
    · exact hs
    · exact hm x h
  · unfold putL
    rw [← List.take_append_drop (aft c s.f) c, List.pairwise_append] at hp
    rw [List.pairwise_append, List.pairwise_cons]
    refine ⟨hp.1, ⟨h2, hp.2.1⟩, fun x hx y hy => ?_⟩
    rcases List.mem_cons.1 hy with rfl | hy
    · exact h1 x hx
    · exact hp.2.2 x hx y hy
theorem putE_0 {c : List Sl} {s : Sl} (h : putE c s = 0) : calE c = 0 ∧ s.may ∧ freeB c s.f s.t = true ∧ c.length < 4096 := by
  unfold putE at h
  split at h
  · next h0 =>
    split at h
    · next h1 =>
      split at h
      · next h2 =>
        split at h
        · cases h
        · next h3 => have := (calE_ok h0).2; exact ⟨h0, h1, h2, by omega⟩
      · cases h
    · cases h
  · next h0 => exact absurd h h0
theorem putL_ok {c : List Sl} {s : Sl} (h : putE c s = 0) : calE (putL c s) = 0 := by
  obtain ⟨h0, h1, h2, h3⟩ := putE_0 h
  rw [calE_iff, putL_len]
  exact ⟨by omega, putL_chain (calE_ok h0).1 h1 h2⟩
theorem free_no {c : List Sl} (hch : chain 0 c = true) {f t : Int} (hft : f < t) (hfr : freeB c f t = true) : ∀ x ∈ c, x.t ≤ f ∨ t ≤ x.f := by
  intro x hx
  rw [← List.take_append_drop (aft c f) c, List.mem_append] at hx
  rcases hx with h | h
  · exact .inl (take_aft hch f x h)
  · exact .inr (drop_aft hch hfr x h)

/-! ### the document's -/
/-- With a slot more, as the document lays it: ahead of the first that begins later. -/
def withL (s : Sl) : List Sl → List Sl
  | [] => [s]
  | x :: r => if s.f < x.f then s :: x :: r else x :: withL s r
theorem withL_split (s : Sl) : ∀ (a b : List Sl), (∀ x ∈ a, x.f ≤ s.f) → (∀ x ∈ b, s.f < x.f) → withL s (a ++ b) = a ++ s :: b
  | [], [], _, _ => rfl
  | [], y :: b, _, h => by
    rw [List.nil_append, withL, if_pos (h y (List.mem_cons_self ..))]; rfl
  | x :: a, b, h1, h2 => by
    have := h1 x (List.mem_cons_self ..)
    rw [List.cons_append, withL, if_neg (by omega), withL_split s a b (fun y hy => h1 y (List.mem_cons_of_mem _ hy)) h2]; rfl
theorem withL_eq {c : List Sl} {s : Sl} (h : putE c s = 0) : withL s c = putL c s := by
  obtain ⟨h0, h1, h2, h3⟩ := putE_0 h
  have hch := (calE_ok h0).1
  have hm := (chain0_iff.1 hch).1
  have e := withL_split s (c.take (aft c s.f)) (c.drop (aft c s.f)) (fun x hx => by
      have := take_aft hch s.f x hx
      have := (hm x (List.mem_of_mem_take hx)).1.1
      omega) (fun x hx => by
      have := drop_aft hch h2 x hx
      have := h1.1.1
      omega)
  rwa [List.take_append_drop] at e
/-- The document's errors are the program's. -/
def putRE (c : List Sl) (s : Sl) : Int := if calOk c then if s.may then if clearB c s.f s.t then if 4096 ≤ c.length then 4 else 0 else 80 else 2 else 8
theorem putRE_eq (c : List Sl) (s : Sl) : putRE c s = putE c s := by
  unfold putRE putE calE
  cases hy : calOk c
  · simp
  · have h0 : calE c = 0 := by unfold calE; rw [hy]; rfl
    have hl := (calE_ok h0).2
    simp only [if_true]
    by_cases hm : s.may
    · rw [if_pos hm, if_pos hm, free_clear (calE_ok h0).1 hm.1.1.2]
      split
      · by_cases e : c.length = 4096
        · rw [if_pos (by omega), if_pos e]
        · rw [if_neg (by omega), if_neg e]
      · rfl
    · rw [if_neg hm, if_neg hm]
def putRV (c : List Sl) (s : Sl) : List Sl := if putRE c s = 0 then withL s c else []
theorem putRV_eq (c : List Sl) (s : Sl) : putRV c s = putV c s := by
  unfold putRV putV
  rw [putRE_eq]
  split
  · next h => exact withL_eq h
  · rfl

/-! ### slots ended -/
theorem mem_cutL {c : List Sl} {ow tm : Int} {x : Sl} : x ∈ cutL ow tm c ↔ ∃ y ∈ c, x = cutS ow tm y ∧ x.f < x.t := by
  unfold cutL
  simp only [List.mem_filter, List.mem_map, decide_eq_true_iff]
  constructor
  · rintro ⟨⟨y, h1, rfl⟩, h2⟩; exact ⟨y, h1, rfl, h2⟩
  · rintro ⟨y, h1, rfl, h2⟩; exact ⟨⟨y, h1, rfl⟩, h2⟩
theorem cutS_f (ow tm : Int) (s : Sl) : (cutS ow tm s).f = s.f := by unfold cutS; split <;> rfl
theorem cutS_o (ow tm : Int) (s : Sl) : (cutS ow tm s).o = s.o := by unfold cutS; split <;> rfl
theorem cutS_t (ow tm : Int) (s : Sl) : (cutS ow tm s).t ≤ s.t := by
  unfold cutS
  split
  · show min s.t tm ≤ s.t; omega
  · exact Int.le_refl _
theorem cutL_chain {c : List Sl} (ow tm : Int) (hch : chain 0 c = true) : chain 0 (cutL ow tm c) = true := by
  obtain ⟨hm, hp⟩ := chain0_iff.1 hch
  rw [chain0_iff]
  refine ⟨fun x hx => ?_, ?_⟩
  · obtain ⟨y, hy, rfl, hlt⟩ := mem_cutL.1 hx
    obtain ⟨⟨⟨m1, m2⟩, m3⟩, m4, m5⟩ := hm y hy
    have e1 := cutS_f ow tm y
    have e2 := cutS_t ow tm y
    have e3 := cutS_o ow tm y
    exact ⟨⟨⟨by omega, hlt⟩, by omega⟩, by omega, by omega⟩
  · unfold cutL
    refine List.Pairwise.filter _ ?_
    rw [List.pairwise_map]
    refine hp.imp ?_
    intro a b hab
    have e1 := cutS_f ow tm b
    have e2 := cutS_t ow tm a
    omega
theorem cutL_ok {c : List Sl} (ow tm : Int) (h : calE c = 0) : calE (cutL ow tm c) = 0 := by
  obtain ⟨hch, hl⟩ := calE_ok h
  rw [calE_iff]
  exact ⟨Nat.le_trans (cutL_len ow tm c) hl, cutL_chain ow tm hch⟩
/-- As the document ends them. -/
def endO (ow tm : Int) (s : Sl) : Option Sl := if s.o = ow then (if tm ≤ s.f then none else if tm < s.t then some ⟨s.f, tm, s.o⟩ else some s) else some s
def endL (ow tm : Int) (c : List Sl) : List Sl := c.filterMap (endO ow tm)
theorem endL_eq {c : List Sl} (ow tm : Int) (hm : ∀ s ∈ c, s.may) : endL ow tm c = cutL ow tm c := by
  induction c with
  | nil => rfl
  | cons s c ih =>
    have ih' := ih (fun x hx => hm x (List.mem_cons_of_mem _ hx))
    have hs := (hm s (List.mem_cons_self ..)).1.1
    unfold endL cutL at ih' ⊢
    rw [List.filterMap_cons, List.map_cons, List.filter_cons, ih']
    unfold endO cutS
    by_cases h1 : s.o = ow
    · rw [if_pos h1, if_pos h1]
      by_cases h2 : tm ≤ s.f
      · rw [if_pos h2, if_neg (by simp; omega)]
      · rw [if_neg h2]
        by_cases h3 : tm < s.t
        · rw [if_pos h3, if_pos (by simp; omega)]
          simp only [show min s.t tm = tm by omega]
        · rw [if_neg h3, if_pos (by simp; omega)]
          simp only [show min s.t tm = s.t by omega]
    · rw [if_neg h1, if_neg h1, if_pos (by simpa using hs.2)]
/-- Without an owner's. -/
def lessL (ow : Int) (c : List Sl) : List Sl := c.filter (fun s => decide (s.o ≠ ow))
theorem lessL_eq {c : List Sl} (ow : Int) (hm : ∀ s ∈ c, s.may) : lessL ow c = cutL ow 0 c := by
  induction c with
  | nil => rfl
  | cons s c ih =>
    have ih' := ih (fun x hx => hm x (List.mem_cons_of_mem _ hx))
    have hs := (hm s (List.mem_cons_self ..)).1.1
    unfold lessL cutL at ih' ⊢
    rw [List.filter_cons, List.map_cons, List.filter_cons, ih']
    unfold cutS
    by_cases h1 : s.o = ow
    · rw [if_neg (by simpa using h1), if_pos h1, if_neg (by simp; omega)]
    · rw [if_pos (by simpa using h1), if_neg h1, if_pos (by simpa using hs.2)]
theorem cutL_twice (ow a b : Int) (c : List Sl) : cutL ow b (cutL ow a c) = cutL ow (min a b) c := by
  unfold cutL
  induction c with
  | nil => rfl
  | cons s c ih =>
    simp only [List.map_cons, List.filter_cons]
    by_cases h1 : s.o = ow
    · have e1 : cutS ow a s = ⟨s.f, min s.t a, s.o⟩ := if_pos h1
      have e2 : cutS ow (min a b) s = ⟨s.f, min s.t (min a b), s.o⟩ := if_pos h1
      have e3 : cutS ow b ⟨s.f, min s.t a, s.o⟩ = ⟨s.f, min (min s.t a) b, s.o⟩ := if_pos h1
      rw [e1, e2]
      by_cases h2 : s.f < min s.t a
      · rw [if_pos (by simpa using h2), List.map_cons, List.filter_cons, e3, ih]
        simp only [show min (min s.t a) b = min s.t (min a b) by omega]
      · rw [if_neg (by simpa using h2), if_neg (by simp; omega), ih]
    · have e1 : cutS ow a s = s := if_neg h1
      have e2 : cutS ow (min a b) s = s := if_neg h1
      have e3 : cutS ow b s = s := if_neg h1
      rw [e1, e2]
      by_cases h2 : s.f < s.t
      · rw [if_pos (by simpa using h2), if_pos (by simpa using h2), List.map_cons, List.filter_cons, e3, if_pos (by simpa using h2), ih]
      · rw [if_neg (by simpa using h2), if_neg (by simpa using h2), ih]
theorem cutL_all {c : List Sl} (ow : Int) (hm : ∀ s ∈ c, s.may) : cutL ow 1099511627776 c = c := by
  unfold cutL
  induction c with
  | nil => rfl
  | cons s c ih =>
    have hs := (hm s (List.mem_cons_self ..)).1
    have e : cutS ow 1099511627776 s = s := by
      unfold cutS
      split
      · rw [show min s.t 1099511627776 = s.t by have := hs.2; omega]
      · rfl
    rw [List.map_cons, List.filter_cons, e, if_pos (by simpa using hs.1.2), ih (fun x hx => hm x (List.mem_cons_of_mem _ hx))]
/-- Ended, each moment has the same owner as ahead; theirs behind it has none. -/
theorem cut_At {c : List Sl} (hch : chain 0 c = true) (ow tm a : Int) : hitAt (cutL ow tm c) a = match hitAt c a with
    | some s => if s.o = ow ∧ tm ≤ a then none else some (cutS ow tm s)
    | none => none := by
  have hcu := cutL_chain ow tm hch
  cases h : hitAt c a with
  | none =>
    cases h2 : hitAt (cutL ow tm c) a with
    | none => rfl
    | some x =>
      obtain ⟨hx, h3, h4⟩ := (hit_iff hcu a x).1 h2
      obtain ⟨y, hy, rfl, _⟩ := mem_cutL.1 hx
      have := (hit_iff hch a y).2 ⟨hy, by rw [cutS_f] at h3; exact h3, by have := cutS_t ow tm y; omega⟩
      rw [h] at this; cases this
  | some s =>
    obtain ⟨hs, h3, h4⟩ := (hit_iff hch a s).1 h
    show _ = if s.o = ow ∧ tm ≤ a then none else some (cutS ow tm s)
    by_cases e : s.o = ow ∧ tm ≤ a
    · rw [if_pos e]
      cases h2 : hitAt (cutL ow tm c) a with
      | none => rfl
      | some x =>
        obtain ⟨hx, h5, h6⟩ := (hit_iff hcu a x).1 h2
        obtain ⟨y, hy, rfl, _⟩ := mem_cutL.1 hx
        have := (hit_iff hch a y).2 ⟨hy, by rw [cutS_f] at h5; exact h5, by have := cutS_t ow tm y; omega⟩
        rw [h] at this; cases this
        unfold cutS at h6
        rw [if_pos e.1] at h6
        simp only at h6
        omega
    · rw [if_neg e, hit_iff hcu]
      have e1 : a < (cutS ow tm s).t := by
        unfold cutS
        split
        · next h5 => show a < min s.t tm; have := fun h6 => e ⟨h5, h6⟩; omega
        · exact h4
      exact ⟨mem_cutL.2 ⟨s, hs, rfl, by rw [cutS_f]; omega⟩, by rw [cutS_f]; exact h3, e1⟩
theorem put_At_in {c : List Sl} {s : Sl} (h : putE c s = 0) {a : Int} (ha : s.f ≤ a ∧ a < s.t) : hitAt c a = none ∧ hitAt (putL c s) a = some s := by
  obtain ⟨h0, h1, h2, h3⟩ := putE_0 h
  have hch := (calE_ok h0).1
  have hno := free_no hch h1.1.1.2 h2
  constructor
  · cases h4 : hitAt c a with
    | none => rfl
    | some x =>
      obtain ⟨hx, h5, h6⟩ := (hit_iff hch a x).1 h4
      have := hno x hx
      omega
  · rw [hit_iff (putL_chain hch h1 h2)]
    exact ⟨mem_putL.2 (.inl rfl), ha⟩
theorem put_At_out {c : List Sl} {s : Sl} (h : putE c s = 0) {a : Int} (ha : ¬ (s.f ≤ a ∧ a < s.t)) : hitAt (putL c s) a = hitAt c a := by
  obtain ⟨h0, h1, h2, h3⟩ := putE_0 h
  have hch := (calE_ok h0).1
  refine hit_ext (putL_chain hch h1 h2) hch a a (fun x => ?_)
  rw [mem_putL]
  constructor
  · rintro ⟨rfl | h4, h5⟩
    · exact absurd h5 ha
    · exact ⟨h4, h5⟩
  · rintro ⟨h4, h5⟩; exact ⟨.inr h4, h5⟩
theorem cut_put {c : List Sl} {s : Sl} (h : putE c s = 0) : cutL s.o 0 (putL c s) = cutL s.o 0 c := by
  obtain ⟨h0, h1, h2, h3⟩ := putE_0 h
  have hm := (chain0_iff.1 (calE_ok h0).1).1
  have hm2 : ∀ x ∈ putL c s, x.may := fun x hx => by
    rcases mem_putL.1 hx with rfl | hx
    · exact h1
    · exact hm x hx
  rw [← lessL_eq s.o hm2, ← lessL_eq s.o hm]
  unfold lessL putL
  rw [List.filter_append, List.filter_cons, if_neg (by simp), ← List.filter_append, List.take_append_drop]
end
end
end Go.Proofs.YtofoenlhbmammaaGreat
