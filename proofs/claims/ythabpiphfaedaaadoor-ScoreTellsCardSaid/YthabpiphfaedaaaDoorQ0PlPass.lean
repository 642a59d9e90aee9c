/- PLACE: which midplanes it passes: sorted and compacted; the plain law; the walk. -/
import Derived.Shelf.Slices.In.SortNone
import Derived.Shelf.Slices.Cells
import Derived.Lib.RowBridge
import Derived.Test.YthabpiphfaedaaaDoorQ0PlSets
import Derived.Test.YthabpiphfaedaaaDoorQ0PlLaw
import Derived.Test.YthabpiphfaedaaaDoorQ0BSearchM
import Derived.Test.YthabpiphfaedaaaDoorShelfCompact
import Derived.Test.YthabpiphfaedaaaDoorQ0Wire4
namespace Go.Proofs.YthabpiphfaedaaaDoor

section
section
open Go.RowKit Go.Shelf Go.Sort

/-! ### what is compacted -/
theorem compact_rise {l : List Int} (h : l.Pairwise (· ≤ ·)) : (Lib.compact l).Pairwise (· < ·) ∧ ∀ x, x ∈ Lib.compact l ↔ x ∈ l := by
  have hd : ∀ i j, i ≤ j → j < l.length → l.toArray[i]! ≤ l.toArray[j]! := fun i j hij hj => by
    have h1 : l.toArray[i]! = l[i]'(by omega) := by simp [show i < l.length by omega]
    have h2 : l.toArray[j]! = l[j] := by simp [hj]
    rw [h1, h2]
    rcases Nat.lt_or_ge i j with hlt | hge
    · exact List.pairwise_iff_getElem.1 h i j (by omega) hj hlt
    · have : i = j := by omega
      subst this; exact Int.le_refl _
  have key : ∀ m, m ≤ l.length → (Lib.compactUpTo l.toArray m).Pairwise (· < ·) ∧ (∀ x ∈ Lib.compactUpTo l.toArray m, ∃ j, j < m ∧ x = l.toArray[j]!) ∧ (∀ j, j < m → l.toArray[j]! ∈ Lib.compactUpTo l.toArray m) := fun m => by
    induction m with
    | zero => intro _; exact ⟨List.Pairwise.nil, fun x hx => (by cases hx), fun j hj => by omega⟩
    | succ m ih =>
      intro hm
      obtain ⟨a, b, c⟩ := ih (by omega)
      rw [Lib.compactUpTo_succ]
      cases hk : Lib.keeps l.toArray m with
      | true =>
        refine ⟨List.pairwise_append.2 ⟨a, List.pairwise_singleton _ _, fun x hx y hy => ?_⟩, fun x hx => ?_, fun j hj => ?_⟩
        · have hy' : y = l.toArray[m]! := by simpa using hy
          rw [hy']
          obtain ⟨j, hj, rfl⟩ := b x hx
          have h1 := hd j (m - 1) (by omega) (by omega)
          have h2 := hd (m - 1) m (by omega) (by omega)
          unfold Lib.keeps at hk
          have hk := of_decide_eq_true hk
          rcases hk with hk | hk
          · omega
          · omega
        · rcases List.mem_append.1 hx with hx | hx
          · obtain ⟨j, hj, e⟩ := b x hx; exact ⟨j, by omega, e⟩
          · simp at hx; exact ⟨m, by omega, by simpa using hx⟩
        · rcases Nat.lt_or_ge j m with h1 | h1
          · exact List.mem_append_left _ (c j h1)
          · have : j = m := by omega
            subst this
            exact List.mem_append_right _ (by simp)
      | false =>
        simp only [Bool.false_eq_true, if_false, List.append_nil]
        refine ⟨a, fun x hx => by obtain ⟨j, hj, e⟩ := b x hx; exact ⟨j, by omega, e⟩, fun j hj => ?_⟩
        rcases Nat.lt_or_ge j m with h1 | h1
        · exact c j h1
        · have hjm : j = m := by omega
          subst hjm
          unfold Lib.keeps at hk
          have hk := of_decide_eq_false hk
          have h0 : j ≠ 0 := fun e => hk (.inl e)
          have he : l.toArray[j]! = l.toArray[j - 1]! := by
            by_cases e : l.toArray[j]! = l.toArray[j - 1]!
            · exact e
            · exact absurd (.inr e) hk
          rw [he]
          exact c (j - 1) (by omega)
  obtain ⟨a, b, c⟩ := key l.length (Nat.le_refl _)
  refine ⟨a, fun x => ⟨fun hx => ?_, fun hx => ?_⟩⟩
  · obtain ⟨j, hj, rfl⟩ := b x hx
    have h2 : l.toArray[j]! = l[j] := by simp [hj]
    rw [h2]
    exact List.getElem_mem _
  · obtain ⟨j, hj, rfl⟩ := List.mem_iff_getElem.1 hx
    have h2 : l.toArray[j]! = l[j] := by simp [hj]
    rw [← h2]
    exact c j hj
theorem own_cut {W : World} {B g cap n m : Nat} {e : TypeId} {xs : List Value} (h : W.ownsRow B e 1 (.slice (some ⟨g, 0, none⟩) n cap) n xs) (hm : m ≤ n) : W.ownsRow B e 1 (.slice (some ⟨g, 0, none⟩) m cap) m (xs.take m) := by
  have h1 := h.1
  refine ⟨by rw [List.length_take]; omega, .inr ?_⟩
  rcases h.2 with ⟨e1, _⟩ | ⟨g1, c1, cur, e1, hb, hg, hn, hc, hs, ht⟩
  · cases e1
  · cases e1
    refine ⟨g, cap, cur, rfl, hb, hg, by omega, hc, hs, ?_⟩
    rw [← ht, List.take_take]
    congr 1
    omega
theorem compact_own {B g cap : Nat} {l : List Int} {W : World} (h : W.ownsRow B 3 1 (.slice (some ⟨g, 0, none⟩) l.length cap) l.length (ic l)) (hl : l.length ≤ 1000000) :
    Calls Tryd.prog 52 #[.slice (some ⟨g, 0, none⟩) l.length cap] W fun e w' => ∃ v, e = .returned v ∧ w'.ownsRow B 3 1 v (Lib.compact l).length (ic (Lib.compact l)) ∧ Below B W w' := by
  have h0 := h
  rcases h.2 with ⟨e, _⟩ | ⟨g', cap', cur, e, hbg, hg, hnc, _⟩
  · cases e
  cases e
  have hcl := Lib.compact_length_le l
  have hH : Holds (Value.int .i64) W g 0 l.toArray := by
    intro j hj
    have hj' : j < l.length := by simpa using hj
    refine ⟨?_, ?_⟩
    · rw [Nat.zero_add, h.cellAt j (by omega)]
      simp [ic, hj']
    · rw [Nat.zero_add]; exact h.frozenAt j
  refine (Any.slices_Compact_int Tryd.laysCompact g 0 cap l W hH (by omega) hnc).mono ?_
  rintro e w' ⟨rfl, q, rfl⟩
  rw [Lib.putRow_eq_setCells _ W g 0 _ _ q hH (by simp; omega)]
  have h1 := own_setCells ((Lib.compact l ++ List.replicate (l.length - (Lib.compact l).length) 0).map (Value.int .i64)) 0 (W.drewN q) _ h0 (by simp; omega)
  have h2 := own_cut h1 hcl
  refine ⟨_, rfl, ?_, below_setCells hbg _ _ _ _ (below_drewN (Below.refl _ _) q)⟩
  rw [show ic (Lib.compact l) = ((ic l).take 0 ++ (Lib.compact l ++ List.replicate (l.length - (Lib.compact l).length) 0).map (Value.int .i64) ++ (ic l).drop (0 + ((Lib.compact l ++ List.replicate (l.length - (Lib.compact l).length) 0).map (Value.int .i64)).length)).take (Lib.compact l).length from ?_]
  · exact h2
  · rw [List.take_zero, List.nil_append, List.take_append_of_le_length (by simp), List.map_append, List.take_append_of_le_length (by simp), List.take_of_length_le (by simp)]
    rfl
/-! ### the ends that are not its own -/
def endsOf (d : V3) (x : Int) : List Int := [d.endM x, d.endT x]
def outQ (d : V3) (p : Pl) (m : Int) : Bool := decide (m ∉ p.b.all d)
def outsOf (d : V3) (p : Pl) (l : List Int) : List Int := l.flatMap (fun x => (endsOf d x).filter (outQ d p))
def passV (d : V3) (p : Pl) : List Int := if plChk d p = 0 then Lib.compact (sorted (outsOf d p (cabsV d p))) else []
theorem outsOf_snoc (d : V3) (p : Pl) (l : List Int) (x : Int) : outsOf d p (l ++ [x]) = outsOf d p l ++ (endsOf d x).filter (outQ d p) := by unfold outsOf; rw [List.flatMap_append]; simp
theorem outsOf_len (d : V3) (p : Pl) (l : List Int) : (outsOf d p l).length ≤ 2 * l.length := by
  unfold outsOf
  induction l with
  | nil => simp
  | cons x l ih =>
    have : ((endsOf d x).filter (outQ d p)).length ≤ 2 := Nat.le_trans (List.length_filter_le _ _) (Nat.le_refl 2)
    rw [List.flatMap_cons, List.length_append, List.length_cons]
    omega
/-- The j-th end. -/
def endJ (d : V3) (x : Int) (j : Nat) : Int := if j = 0 then d.endM x else d.endT x
def partJ (d : V3) (p : Pl) (x : Int) (j : Nat) : List Int := ((endsOf d x).take j).filter (outQ d p)
theorem partJ_succ (d : V3) (p : Pl) (x : Int) {j : Nat} (hj : j < 2) : partJ d p x (j + 1) = partJ d p x j ++ (if outQ d p (endJ d x j) then [endJ d x j] else []) := by
  unfold partJ endsOf
  match j, hj with
  | 0, _ => simp only [List.take, List.filter_nil, List.nil_append, List.filter_cons]; rfl
  | 1, _ => simp only [List.take, List.filter_cons, List.filter_nil]; cases outQ d p (d.endM x) <;> cases h : outQ d p (d.endT x) <;> simp [endJ, h]
theorem partJ_len (d : V3) (p : Pl) (x : Int) (j : Nat) : (partJ d p x j).length ≤ 2 := by
  unfold partJ
  refine Nat.le_trans (List.length_filter_le _ _) ?_
  rw [List.length_take]
  show min j 2 ≤ 2
  omega
end

section
open Go.RowKit Go.Shelf

theorem ends_of {d : V3} {k : Nat} {m : Int} (hd : d.may) (hk : k < 3) (hm : 0 ≤ m ∧ m < d.n) (h1 : d.at k ≠ 1) : d.endE (k * d.n + m) = 0 ∧ d.endM (k * d.n + m) = m ∧ d.endT (k * d.n + m) = d.step m k 1 := by
  have ha : d.askE k m = 0 := by rw [V3.askE, if_pos hd, if_pos ⟨⟨by omega, by omega⟩, hm⟩]
  have hL : d.linkE k m = 0 := by rw [V3.linkE, if_pos ha, Int.toNat_natCast, if_neg h1]
  have hv : d.linkV k m = k * d.n + m := if_pos hL
  have := link_end hL
  rw [hv, Int.toNat_natCast] at this
  exact ⟨this.1, this.2.2.1, this.2.2.2⟩
theorem lk_at {d : V3} {p : Pl} {k : Nat} {q : V3} (hb : p.b.may d) (hk : k < 3) (h : lk d p k q) : d.at k ≠ 1 := by
  have := (Bx.may_at.1 hb k hk).1
  have := h.1
  omega
/-- A cable's other end, by coordinates. -/
theorem other_end {d : V3} {k : Nat} {m : Int} (hd : d.may) (hk : k < 3) (hm : 0 ≤ m ∧ m < d.n) : (0 ≤ d.step m k 1 ∧ d.step m k 1 < d.n) ∧ d.pos (d.step m k 1) = (d.pos m).put k (((d.pos m).at k + 1) % d.at k) :=
  ⟨V3.num_lt hd (V3.stepped_inside hd hm.1 hm.2 hk 1), V3.pos_num hd (V3.stepped_inside hd hm.1 hm.2 hk 1)⟩
theorem steps_next {f t n : Int} (h3 : 0 ≤ f) (h4 : f < n) (h5 : 0 ≤ t) (h6 : t < n) (h : stepsOn f t n + 1 < n) : stepsOn f ((t + 1) % n) n = stepsOn f t n + 1 := by
  have h7 := steps_le h3 h4 h5 h6
  have e := steps_back h3 h4 h5 h6
  have e2 : (t + 1) % n = (f + (stepsOn f t n + 1)) % n := by
    rw [← Int.add_assoc, Int.add_emod, Int.add_emod (f + stepsOn f t n), e, Int.emod_eq_of_lt h5 h6]
  rw [e2]
  exact steps_on h3 h4 (by omega) h
/-- Both ends of a mesh's cable are its own; so are they along an axis that a torus takes whole. -/
theorem ends_own {d : V3} {p : Pl} {k : Nat} {m : Int} (hd : d.may) (hb : p.b.may d) (hk : k < 3) (hm : 0 ≤ m ∧ m < d.n) (h : lk d p k (d.pos m)) (hw : p.tor k = false ∨ p.b.s.at k = d.at k) : m ∈ p.b.all d ∧ d.step m k 1 ∈ p.b.all d := by
  obtain ⟨h1, h2, h3⟩ := h
  have hbm := Bx.may_at.1 hb
  obtain ⟨⟨s1, s2⟩, b1, b2⟩ := hbm k hk
  have hi := V3.inside_at.1 (V3.pos_inside hd hm.1 hm.2)
  have hst := steps_le b1 b2 (hi k hk).1 (hi k hk).2
  obtain ⟨hr, hp⟩ := other_end hd hk hm
  have hi2 := V3.inside_at.1 (V3.pos_inside hd hr.1 hr.2)
  constructor
  · refine (Bx.mem_all_iff hd hb).2 ⟨hm, Bx.hasP_at.2 (fun j hj => ?_)⟩
    by_cases e : j = k
    · subst e
      rcases hw with hw | hw
      · rcases h3 with h3 | h3
        · rw [hw] at h3; cases h3
        · omega
      · omega
    · exact h2 j hj e
  · refine (Bx.mem_all_iff hd hb).2 ⟨hr, Bx.hasP_at.2 (fun j hj => ?_)⟩
    by_cases e : j = k
    · subst e
      rcases hw with hw | hw
      · rcases h3 with h3 | h3
        · rw [hw] at h3; cases h3
        · rw [hp, V3.put_at _ _ hj hj, if_pos rfl, steps_next b1 b2 (hi j hj).1 (hi j hj).2 (by omega)]
          omega
      · have := steps_le b1 b2 (hi2 j hj).1 (hi2 j hj).2
        omega
    · rw [hp, V3.put_at _ _ hk hj, if_neg e]
      exact h2 j hj e
theorem sorted_le (l : List Int) : (sorted l).Pairwise (· ≤ ·) := by
  have h := List.pairwise_mergeSort (le := fun (x y : Int) => decide (x ≤ y)) (fun a b c h1 h2 => by simp at *; omega) (fun a b => by simp; omega) l
  exact h.imp (fun h => by simpa using h)
theorem mem_outs {d : V3} {p : Pl} {l : List Int} {x : Int} : x ∈ outsOf d p l ↔ x ∉ p.b.all d ∧ ∃ c, c ∈ l ∧ (x = d.endM c ∨ x = d.endT c) := by
  unfold outsOf endsOf outQ
  simp only [List.mem_flatMap, List.mem_filter, List.mem_cons, List.not_mem_nil, or_false, decide_eq_true_eq]
  constructor
  · rintro ⟨c, hc, he, hn⟩; exact ⟨hn, c, hc, he⟩
  · rintro ⟨hn, c, hc, he⟩; exact ⟨c, hc, he, hn⟩
/-- Some axis along which a torus does not take all. -/
def Pl.loose (d : V3) (p : Pl) (k : Nat) : Bool := (List.range k).any (fun j => p.tor j && decide (p.b.s.at j < d.at j))
theorem loose_succ (d : V3) (p : Pl) (k : Nat) : p.loose d (k + 1) = (p.loose d k || (p.tor k && decide (p.b.s.at k < d.at k))) := by unfold Pl.loose; rw [List.range_succ, List.any_append]; simp
structure PassFacts (d : V3) (p : Pl) : Prop where
  rise : (passV d p).Pairwise (· < ·)
  own : ∀ x ∈ passV d p, (0 ≤ x ∧ x < d.n) ∧ p.b.has d x = false
  some : p.loose d 3 = decide (0 < (passV d p).length)
theorem pass_facts {d : V3} {p : Pl} (h : plChk d p = 0) : PassFacts d p := by
  obtain ⟨hd, hb, ho, _⟩ := plChk_0 h
  have hv : passV d p = Lib.compact (sorted (outsOf d p (cabsV d p))) := if_pos h
  obtain ⟨r1, r2⟩ := compact_rise (show (sorted (outsOf d p (cabsV d p))).Pairwise (· ≤ ·) from sorted_le _)
  have hmem : ∀ x, x ∈ passV d p ↔ x ∉ p.b.all d ∧ ∃ c, c ∈ cabsV d p ∧ (x = d.endM c ∨ x = d.endT c) := fun x => by rw [hv, r2, mem_sorted, mem_outs]
  have hcab : ∀ c, c ∈ cabsV d p → ∃ k m, k < 3 ∧ (0 ≤ m ∧ m < d.n) ∧ lk d p k (d.pos m) ∧ d.endM c = m ∧ d.endT c = d.step m k 1 := fun c hc => by
    obtain ⟨k, m, hk, hm, rfl, hl⟩ := (mem_cabsV hd hb c).1 hc
    obtain ⟨_, e2, e3⟩ := ends_of hd hk hm (lk_at hb hk hl)
    exact ⟨k, m, hk, hm, hl, e2, e3⟩
  have hown : ∀ x ∈ passV d p, (0 ≤ x ∧ x < d.n) ∧ p.b.has d x = false := fun x hx => by
    obtain ⟨hn, c, hc, he⟩ := (hmem x).1 hx
    obtain ⟨k, m, hk, hm, hl, e2, e3⟩ := hcab c hc
    have hr : 0 ≤ x ∧ x < d.n := by
      rcases he with rfl | rfl
      · rw [e2]; exact hm
      · rw [e3]; exact (other_end hd hk hm).1
    refine ⟨hr, ?_⟩
    cases hh : p.b.has d x with
    | false => rfl
    | true => exact absurd (Bx.mem_all.2 ⟨hr, hh⟩) hn
  refine ⟨by rw [hv]; exact r1, hown, ?_⟩
  rw [Bool.eq_iff_iff, decide_eq_true_iff]
  unfold Pl.loose
  rw [List.any_eq_true]
  constructor
  · rintro ⟨k, hk, hkk⟩
    have hk3 := List.mem_range.1 hk
    rw [Bool.and_eq_true, decide_eq_true_iff] at hkk
    obtain ⟨ht, hs⟩ := hkk
    have hbm := Bx.may_at.1 hb
    obtain ⟨⟨s1, s2⟩, b1, b2⟩ := hbm k hk3
    have hs1 : p.b.s.at k ≠ 1 := fun e => by
      have := p.odd_iff.2 ⟨k, hk3, ht, e⟩
      rw [ho] at this; cases this
    have hst := steps_on b1 b2 (i := p.b.s.at k) (by omega) hs
    have hq : d.inside (p.b.b.put k ((p.b.b.at k + p.b.s.at k) % d.at k)) := V3.inside_at.2 (fun j hj => by
      rw [V3.put_at _ _ hk3 hj]
      split
      · next e => subst e; exact ⟨Int.emod_nonneg _ (by omega), Int.emod_lt_of_pos _ (by omega)⟩
      · exact (hbm j hj).2)
    have hpn := V3.pos_num hd hq
    have hr := V3.num_lt hd hq
    have hl : lk d p k (d.pos (d.num (p.b.b.put k ((p.b.b.at k + p.b.s.at k) % d.at k)))) := by
      rw [hpn]
      refine ⟨by omega, fun j hj hne => ?_, .inl ht⟩
      rw [V3.put_at _ _ hk3 hj, if_neg hne, stepsOn_eq (hbm j hj).2.1 (hbm j hj).2.2 (hbm j hj).2.1 (hbm j hj).2.2]
      have := (hbm j hj).1.1
      simp
      omega
    have hx : d.num (p.b.b.put k ((p.b.b.at k + p.b.s.at k) % d.at k)) ∈ passV d p := by
      refine (hmem _).2 ⟨fun hm => ?_, _, (mem_cabsV hd hb _).2 ⟨k, _, hk3, hr, rfl, hl⟩, .inl (ends_of hd hk3 hr (lk_at hb hk3 hl)).2.1.symm⟩
      have h2 := Bx.hasP_at.1 ((Bx.mem_all_iff hd hb).1 hm).2 k hk3
      rw [hpn, V3.put_at _ _ hk3 hk3, if_pos rfl, hst] at h2
      omega
    exact List.length_pos_of_mem hx
  · intro hl
    obtain ⟨x, hx⟩ := List.exists_mem_of_length_pos hl
    obtain ⟨hn, c, hc, he⟩ := (hmem x).1 hx
    obtain ⟨k, m, hk, hm, hlk, e2, e3⟩ := hcab c hc
    refine ⟨k, List.mem_range.2 hk, ?_⟩
    rw [Bool.and_eq_true, decide_eq_true_iff]
    have hs := (Bx.may_at.1 hb k hk).1.2
    by_cases hw : p.tor k = false ∨ p.b.s.at k = d.at k
    · obtain ⟨a, b⟩ := ends_own hd hb hk hm hlk hw
      rcases he with rfl | rfl
      · rw [e2] at hn; exact absurd a hn
      · rw [e3] at hn; exact absurd b hn
    · have h1 : p.tor k = true := by
        cases ht : p.tor k with
        | true => rfl
        | false => exact absurd (.inl ht) hw
      exact ⟨h1, by have : p.b.s.at k ≠ d.at k := fun e => hw (.inr e); omega⟩
end

section
open Go.RowKit Go.Shelf

theorem Blk.two {W : World} {B : Nat} {t : TypeId} {a b : Int} (h : Blk W B t #[.int .i64 a, .int .i64 b]) {j : Nat} (hj : j < 2) : W.cell? ⟨B, j, none⟩ = some (.int .i64 (if j = 0 then a else b)) := by
  match j, hj with
  | 0, _ => exact h.cell 0 _ rfl
  | 1, _ => exact h.cell 1 _ rfl
set_option maxRecDepth 100000 in set_option maxHeartbeats 4000000 in
theorem place_Passes (d : V3) (p : Pl) (w : World) : Calls Tryd.prog 18 #[.agg #[.int .i64 d.x, .int .i64 d.y, .int .i64 d.z], .agg #[.int .i64 p.b.b.x, .int .i64 p.b.b.y, .int .i64 p.b.b.z, .int .i64 p.b.s.x, .int .i64 p.b.s.y, .int .i64 p.b.s.z, .bool p.t0, .bool p.t1, .bool p.t2]] w (RLE w (passV d p) (plChk d p)) := by
  obtain ⟨i0, hi, iz0, iz1, iz2⟩ := info_parts infoInt
  have HC := Lib.hid (fun W => place_Check d p W)
  by_cases hz : plChk d p = 0
  · obtain ⟨hd, hb, _, _⟩ := plChk_0 hz
    have HV := Lib.hid (show passV d p = Lib.compact (sorted (outsOf d p (cabsV d p))) from if_pos hz)
    have HT := Lib.hid (fun W => place_taken d p W hd hb)
    have HR := Lib.hid (Bx.all_rise d p.b)
    have q1 := Bx.all_len' d p.b hd
    have q2 : (cabsV d p).length ≤ 200000 := by
      have := cabs_len d p 0 hd; have := cabs_len d p 1 hd; have := cabs_len d p 2 hd
      unfold cabsV; rw [List.length_append, List.length_append]; omega
    have HE := Lib.hid (fun x W => wire_Ends d x W)
    have HQ := Lib.hid (fun m => (show outQ d p m = decide (m ∉ p.b.all d) from rfl))
    rw [hz] at HC ⊢
    clear hz hd hb
    generalize p.b.all d = M at *
    generalize cabsV d p = C at *
    go_enter Tryd.func18, Tryd.ntmps18
    go_wp2_with fail
    refine (HC.out _).mono ?_
    rintro e w1 ⟨rfl, hb1⟩
    have BD := Lib.hid (((Blk.new w 23 #[.int .i64 d.x, .int .i64 d.y, .int .i64 d.z]).alloc (.cells #[.int .i64 p.b.b.x, .int .i64 p.b.b.y, .int .i64 p.b.b.z, .int .i64 p.b.s.x, .int .i64 p.b.s.y, .int .i64 p.b.s.z, .bool p.t0, .bool p.t1, .bool p.t2] 28)).below hb1)
    have BP := Lib.hid ((by have := (Blk.new (w.alloc (.cells #[.int .i64 d.x, .int .i64 d.y, .int .i64 d.z] 23)) 28 #[.int .i64 p.b.b.x, .int .i64 p.b.b.y, .int .i64 p.b.b.z, .int .i64 p.b.s.x, .int .i64 p.b.s.y, .int .i64 p.b.s.z, .bool p.t0, .bool p.t1, .bool p.t2]).below hb1; rwa [World.size_alloc] at this : Blk w1 (w.heap.size + 1) 28 #[.int .i64 p.b.b.x, .int .i64 p.b.b.y, .int .i64 p.b.b.z, .int .i64 p.b.s.x, .int .i64 p.b.s.y, .int .i64 p.b.s.z, .bool p.t0, .bool p.t1, .bool p.t2]))
    have HB := Lib.hid (below_then (show Below w.heap.size w ((w.alloc (.cells #[.int .i64 d.x, .int .i64 d.y, .int .i64 d.z] 23)).alloc (.cells #[.int .i64 p.b.b.x, .int .i64 p.b.b.y, .int .i64 p.b.b.z, .int .i64 p.b.s.x, .int .i64 p.b.s.y, .int .i64 p.b.s.z, .bool p.t0, .bool p.t1, .bool p.t2] 28)) by (repeat (first | (with_reducible exact Below.refl _ _) | (with_reducible assumption) | (with_reducible refine below_alloc ?_ _) | (with_reducible refine below_drewN ?_ _) | (with_reducible refine Below.drew ?_) | (with_reducible refine below_then ?_ (by with_reducible assumption)) | (with_reducible refine Below.setCell ?_ (by go_size) _)))) hb1)
    clear hb1
    (have d0 := (BD.out).cell 0 _ rfl; have d1 := (BD.out).cell 1 _ rfl; have d2 := (BD.out).cell 2 _ rfl)
    (have p0 := (BP.out).cell 0 _ rfl; have p1 := (BP.out).cell 1 _ rfl; have p2 := (BP.out).cell 2 _ rfl; have p3 := (BP.out).cell 3 _ rfl; have p4 := (BP.out).cell 4 _ rfl; have p5 := (BP.out).cell 5 _ rfl; have p6 := (BP.out).cell 6 _ rfl; have p7 := (BP.out).cell 7 _ rfl; have p8 := (BP.out).cell 8 _ rfl)
    go_wp2_with fail
    refine (HT.out _).mono ?_
    rintro e w3 ⟨v3, u3, rfl, o3, r3, hb3⟩
    obtain ⟨ba, ca, rfl, la, _⟩ := own_rd o3
    obtain ⟨bl, cl, rfl, ll, _⟩ := own_rd r3
    have HB3 := Lib.hid (below_then HB.out hb3)
    have BD3 := Lib.hid (BD.out.below hb3)
    have LM := Lib.hid (show IIn w3 ba M from ⟨la, by omega⟩)
    have LL := Lib.hid ll
    clear hb3 d0 d1 d2 p0 p1 p2 p3 p4 p5 p6 p7 p8 o3 r3 la ll BD BP HB
    go_wp2_with fail
    have z3 := HB3.out.size
    go_loopw [9, 34] (fun v x wr => ∃ i : Nat, i ≤ C.length ∧ x = .int .i64 i ∧ wr.ownsRow w3.heap.size 3 1 v (outsOf d p (C.take i)).length (ic (outsOf d p (C.take i))) ∧ Below w3.heap.size w3 wr) (fun _ x _ => C.length - (intOf x).toNat)
    case atStart => exact ⟨0, Nat.zero_le _, rfl, World.ownsRow_nil _ _ _ _, Below.refl _ _⟩
    case round =>
      obtain ⟨i, hi', rfl, hown, hbe⟩ := hrel
      have HO := Lib.hid hown
      have HBE := Lib.hid hbe
      by_cases hlt : i < C.length
      · obtain ⟨b0, off, e, hc0⟩ := LL.out i _ (getElem?_map_int hlt)
        subst e
        obtain ⟨x, hx⟩ : ∃ x, x = C[i] := ⟨_, rfl⟩
        have hc := (hbe.cell (p := ⟨b0, off + i, none⟩) (World.block_lt_of_cell? w3 _ hc0)).trans hc0
        rw [← hx] at hc
        have htk := Lib.hid (show outsOf d p (C.take (i + 1)) = outsOf d p (C.take i) ++ partJ d p x 2 by rw [List.take_succ_eq_append_getElem hlt, outsOf_snoc, ← hx]; rfl)
        have hol := outsOf_len d p (C.take i)
        rw [List.length_take] at hol
        have bd := BD3.out.below hbe
        (have d0 := (bd).cell 0 _ rfl; have d1 := (bd).cell 1 _ rfl; have d2 := (bd).cell 2 _ rfl)
        have zr := hbe.size
        clear bd hown hbe hc0 hx
        go_wp2_with fail
        refine (HE.out x _).mono ?_
        rintro e w4 ⟨rfl, hb4⟩
        have HO4 := Lib.hid (own_keep HO.out hb4)
        have HB4 := Lib.hid (HBE.out.trans (hb4.mono zr))
        have z4 := HB4.out.size
        clear hb4 d0 d1 d2 hc
        have HJ := Lib.hid (fun j (hj : j < 2) => partJ_succ d p x hj)
        have HJL := Lib.hid (fun j => partJ_len d p x j)
        have HJE := Lib.hid (fun j => (show endJ d x j = if j = 0 then d.endM x else d.endT x from rfl))
        generalize d.endM x = ea at *
        generalize d.endT x = eb at *
        generalize d.endA x = ex at *
        generalize d.endE x = ee at *
        obtain ⟨O, hO⟩ : ∃ O, O = outsOf d p (C.take i) := ⟨_, rfl⟩
        rw [← hO] at HO4 htk hol
        clear HO hO
        go_wp2_with fail
        go_loopw [9, 50] (fun v y wr' => ∃ j : Nat, j ≤ 2 ∧ y = .int .i64 j ∧ wr'.ownsRow w3.heap.size 3 1 v (O ++ partJ d p x j).length (ic (O ++ partJ d p x j)) ∧ Below w3.heap.size w3 wr' ∧ Blk wr' w4.heap.size 3 #[.int .i64 ea, .int .i64 eb] ∧ v.ownBlock ≠ some w4.heap.size) (fun _ y _ => 2 - (intOf y).toNat)
        case atStart => exact ⟨0, Nat.zero_le _, rfl, by rw [show partJ d p x 0 = [] from rfl, List.append_nil]; exact HO4.out.alloc _, HB4.out.alloc z4 _, Blk.new .., fun e => by have := own_lt HO4.out e; omega⟩
        case round =>
          obtain ⟨j, hj, rfl, hown, hbe, hblk, hsep⟩ := hrel
          have HOJ := Lib.hid hown
          have HBJ := Lib.hid hbe
          have HBK := Lib.hid hblk
          have HSJ := Lib.hid hsep
          have hpl := HJL.out j
          have hll : (O ++ partJ d p x j).length = O.length + (partJ d p x j).length := List.length_append
          by_cases hlj : j < 2
          · have hce := hblk.two hlj
            rw [← HJE.out j] at hce
            have hst := HJ.out j hlj
            generalize endJ d x j = m at *
            rw [HQ.out m] at hst
            have HS := Lib.hid hst
            have HBS := Lib.hid (fun W (hw : Below w3.heap.size w3 W) => bsearch ba ca M m W (LM.out.keep hw) HR.out)
            have zj := hbe.size
            clear hown hbe hblk hsep hst
            by_cases hmm : m ∈ M
            · rw [decide_eq_true hmm] at HBS
              have hst2 := Lib.hid (show partJ d p x (j + 1) = partJ d p x j by rw [HS.out, decide_eq_false (fun h => h hmm)]; simp)
              clear hmm
              go_wp2_with fail
              refine (HBS.out _ HBJ.out).mono ?_
              rintro e w5 ⟨rfl, hb5⟩
              have HO5 := Lib.hid (own_keep HOJ.out hb5)
              have HB5 := Lib.hid (HBJ.out.trans (hb5.mono zj))
              have HK5 := Lib.hid (HBK.out.below hb5)
              clear hb5 hce
              go_wp2_with fail
              go_roundw
              case rel => exact ⟨j + 1, by omega, by go_num, by rw [hst2.out]; exact HO5.out, HB5.out, HK5.out, HSJ.out⟩
              case measure => (simp [intOf] <;> omega)
            · rw [decide_eq_false hmm] at HBS
              have hst2 := Lib.hid (show partJ d p x (j + 1) = partJ d p x j ++ [m] by rw [HS.out, decide_eq_true hmm]; simp)
              clear hmm
              go_wp2_with fail
              refine (HBS.out _ HBJ.out).mono ?_
              rintro e w5 ⟨rfl, hb5⟩
              have HO5 := Lib.hid (own_keep HOJ.out hb5)
              have HB5 := Lib.hid (HBJ.out.trans (hb5.mono zj))
              have HK5 := Lib.hid (HBK.out.below hb5)
              have z5 := HB5.out.size
              clear hb5 hce
              go_wp2_with (at_builtin; refine wpList_append_own_at _ rfl _ _ 38 rfl w3.heap.size 3 i0 (.int .i64 0) 1 8 Tryd.underlying38 hi iz0 iz1 iz2 rfl (by decide) _ _ _ rfl (HO5.out.alloc _) ⟨_, 0, none⟩ 1 1 [.int .i64 m] rfl rfl (cell_new1 _ _ _) (by simp [Value.oneCell']) ?ap3 ?ap4 ?ap5 ?_)
              case ap3 => unfold maxLen; omega
              case ap4 => omega
              case ap5 => simp; omega
              intro v6 w6 o6 g6 _ at6
              have n6 := own_below (HO5.out.alloc (.cells #[.int .i64 m] 3)) g6 (by simp; omega)
              have B6 := own_grown (HK5.out.alloc (.cells #[.int .i64 m] 3)) g6 HSJ.out
              have S6 : v6.ownBlock ≠ some w4.heap.size := fun e => by
                rcases at6 with h | h
                · exact HSJ.out (h ▸ e)
                · rw [e] at h
                  have h2 := HK5.out.lt
                  simp at h
                  omega
              have HO6 := Lib.hid (show w6.ownsRow w3.heap.size 3 1 v6 (O ++ partJ d p x (j + 1)).length (ic (O ++ partJ d p x (j + 1))) by rw [hst2.out, ← List.append_assoc, List.length_append (bs := [m]), ic_app (O ++ partJ d p x j) [m]]; rw [hll]; exact o6)
              have HB6 := Lib.hid ((HB5.out.alloc z5 (.cells #[.int .i64 m] 3)).trans n6)
              have HK6 := Lib.hid B6
              have HS6 := Lib.hid S6
              clear n6 B6 S6 o6 g6 at6 hll
              go_wp2_with fail
              go_roundw
              case rel => exact ⟨j + 1, by omega, by go_num, HO6.out, HB6.out, HK6.out, HS6.out⟩
              case measure => (simp [intOf] <;> omega)
          · obtain rfl : j = 2 := by omega
            rw [← htk.out] at hown
            have HO2 := Lib.hid hown
            clear hown hbe hblk hsep hll
            go_wp2_with fail
            go_roundw
            case rel => exact ⟨i + 1, by omega, by go_num, HO2.out, HBJ.out⟩
            case measure => (simp [intOf] <;> omega)
      · obtain rfl : i = C.length := by omega
        rw [List.take_length] at hown
        have hol := outsOf_len d p C
        generalize outsOf d p C = O at *
        have zr := hbe.size
        rcases hown.2 with ⟨e, hn⟩ | ⟨g, cap, cur, e, _⟩
        · subst e
          obtain rfl : O = [] := List.eq_nil_of_length_eq_zero hn
          have HZ := Lib.hid (show passV d p = [] by rw [HV.out, show sorted [] = [] by unfold sorted; simp]; rfl)
          have hfin := Lib.hid (HB3.out.trans (hbe.mono z3))
          clear hown hbe HO
          go_wp2_with fail
          refine (Any.slices_Sort_int_none Tryd.laysSort none 0 _).mono ?_
          rintro e w5 ⟨rfl, hw5⟩
          have hw5 := hw5.symm
          subst hw5
          go_wp2_with fail
          refine (Any.slices_Compact_int_empty Tryd.laysCompact none 0 _).mono ?_
          rintro e w6 ⟨rfl, hw6⟩
          have hw6 := hw6.symm
          subst hw6
          go_wp2_with fail
          go_returns
          exact ⟨_, rfl, by rw [HZ.out]; exact World.ownsRow_nil _ _ _ _, hfin.out⟩
        · subst e
          have hfin := Lib.hid (HB3.out.trans (hbe.mono z3))
          have HOW := Lib.hid hown
          have zz := hfin.out.size
          clear hown hbe HO
          go_wp2_with fail
          refine (sort_own HOW.out (by omega) (by omega)).mono ?_
          rintro e w5 ⟨rfl, o5, hb5⟩
          have hsl := sorted_len O
          have o5' : w5.ownsRow w3.heap.size 3 1 (.slice (some ⟨g, 0, none⟩) (sorted O).length cap) (sorted O).length (ic (sorted O)) := by rw [hsl]; exact o5
          have HO5 := Lib.hid o5'
          have HB5 := Lib.hid (hfin.out.trans (hb5.mono z3))
          have HCC := Lib.hid (show Calls Tryd.prog 52 #[.slice (some ⟨g, 0, none⟩) O.length cap] w5 fun e w' => ∃ v, e = .returned v ∧ w'.ownsRow w3.heap.size 3 1 v (Lib.compact (sorted O)).length (ic (Lib.compact (sorted O))) ∧ Below w3.heap.size w5 w' from by have := compact_own o5' (by omega); rw [hsl] at this; exact this)
          clear o5 o5' hb5
          go_wp2_with fail
          refine HCC.out.mono ?_
          rintro e w6 ⟨v6, rfl, o6, hb6⟩
          have HO6 := Lib.hid (row_mono o6 z3)
          have HB6 := Lib.hid (HB5.out.trans (hb6.mono z3))
          clear o6 hb6
          go_wp2_with fail
          go_returns
          exact ⟨_, rfl, by rw [HV.out]; exact HO6.out, HB6.out⟩
  · have HV := Lib.hid (show passV d p = [] from if_neg hz)
    have hy : (plChk d p != 0) = true := by simpa using hz
    clear hz
    go_enter Tryd.func18, Tryd.ntmps18
    go_wp2_with ((with_reducible refine (HC.out _).mono ?_); rintro e w1 ⟨rfl, hb1⟩; (obtain ⟨hc1, hf1⟩ := bcell hb1; have hz1 := hb1.size; (try simp at hz1); have hB : Below w.heap.size w w1 := (by (repeat (first | (with_reducible exact Below.refl _ _) | (with_reducible assumption) | (with_reducible refine below_alloc ?_ _) | (with_reducible refine below_drewN ?_ _) | (with_reducible refine Below.drew ?_) | (with_reducible refine below_then ?_ (by with_reducible assumption)) | (with_reducible refine Below.setCell ?_ (by go_size) _)))); obtain ⟨hcB, hfB⟩ := bcell hB; (try have z0 : w.heap.size < w1.heap.size := by omega); (try have z1 : w.heap.size + 1 < w1.heap.size := by omega); (try have z2 : w.heap.size + 2 < w1.heap.size := by omega); (try have z3 : w.heap.size + 3 < w1.heap.size := by omega)))
    all_goals
      go_returns
      exact ⟨_, rfl, by rw [HV.out]; exact World.ownsRow_nil _ _ _ _, by (repeat (first | (with_reducible exact Below.refl _ _) | (with_reducible assumption) | (with_reducible refine below_alloc ?_ _) | (with_reducible refine below_drewN ?_ _) | (with_reducible refine Below.drew ?_) | (with_reducible refine below_then ?_ (by with_reducible assumption)) | (with_reducible refine Below.setCell ?_ (by go_size) _)))⟩
end
end
end Go.Proofs.YthabpiphfaedaaaDoor
