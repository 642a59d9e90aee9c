/- PLACE: which midplanes it passes: sorted, compacted in place. -/
import Derived.Test.YthabpiphfaedaaaPlSets
import Derived.Test.YthabpiphfaedaaaBSearch
import Derived.Test.YthabpiphfaedaaaWire4
import Derived.Test.YthabpiphfaedaaaShelfCompact
import Derived.Shelf.Slices.In.SortNone
import Derived.Shelf.Slices.Cells
import Derived.Lib.RowBridge
namespace Go.Proofs.Ythabpiphfaedaaa
open Go.RowKit Go.Shelf Go.Sort

/-! ### what is compacted -/
theorem compact_rise {l : List Int} (h : l.Pairwise (· ≤ ·)) : (Lib.compact l).Pairwise (· < ·) ∧ ∀ x, x ∈ Lib.compact l ↔ x ∈ l := by
  have hd : ∀ i j, i ≤ j → j < l.length → l.toArray[i]! ≤ l.toArray[j]! := fun i j hij hj => by
    have h1 : l.toArray[i]! = l[i]'(by omega) := by simp [show i < l.length by omega]
    have h2 : l.toArray[j]! = l[j] := by simp [hj]
    rw [h1, h2]
    rcases Nat.lt_or_ge i j with hlt | hge
    · exact List.pairwise_iff_getElem.1 h i j (by omega) hj hlt
    · have : i = j := by omega
      subst this; exact Int.le_refl _
  have key : ∀ m, m ≤ l.length → (Lib.compactUpTo l.toArray m).Pairwise (· < ·) ∧ (∀ x ∈ Lib.compactUpTo l.toArray m, ∃ j, j < m ∧ x = l.toArray[j]!) ∧ (∀ j, j < m → l.toArray[j]! ∈ Lib.compactUpTo l.toArray m) := fun m => by
    induction m with
    | zero => intro _; exact ⟨List.Pairwise.nil, fun x hx => (by cases hx), fun j hj => by omega⟩
    | succ m ih =>
      intro hm
      obtain ⟨a, b, c⟩ := ih (by omega)
      rw [Lib.compactUpTo_succ]
      cases hk : Lib.keeps l.toArray m with
      | true =>
        refine ⟨List.pairwise_append.2 ⟨a, List.pairwise_singleton _ _, fun x hx y hy => ?_⟩, fun x hx => ?_, fun j hj => ?_⟩
        · have hy' : y = l.toArray[m]! := by simpa using hy
          rw [hy']
          obtain ⟨j, hj, rfl⟩ := b x hx
          have h1 := hd j (m - 1) (by omega) (by omega)
          have h2 := hd (m - 1) m (by omega) (by omega)
          unfold Lib.keeps at hk
          have hk := of_decide_eq_true hk
          rcases hk with hk | hk
          · omega
          · omega
        · rcases List.mem_append.1 hx with hx | hx
          · obtain ⟨j, hj, e⟩ := b x hx; exact ⟨j, by omega, e⟩
          · simp at hx; exact ⟨m, by omega, by simpa using hx⟩
        · rcases Nat.lt_or_ge j m with h1 | h1
          · exact List.mem_append_left _ (c j h1)
          · have : j = m := by omega
            subst this
            exact List.mem_append_right _ (by simp)
      | false =>
        simp only [Bool.false_eq_true, if_false, List.append_nil]
        refine ⟨a, fun x hx => by obtain ⟨j, hj, e⟩ := b x hx; exact ⟨j, by omega, e⟩, fun j hj => ?_⟩
        rcases Nat.lt_or_ge j m with h1 | h1
        · exact c j h1
        · have hjm : j = m := by omega
          subst hjm
          unfold Lib.keeps at hk
          have hk := of_decide_eq_false hk
          have h0 : j ≠ 0 := fun e => hk (.inl e)
          have he : l.toArray[j]! = l.toArray[j - 1]! := by
            by_cases e : l.toArray[j]! = l.toArray[j - 1]!
            · exact e
            · exact absurd (.inr e) hk
          rw [he]
          exact c (j - 1) (by omega)
  obtain ⟨a, b, c⟩ := key l.length (Nat.le_refl _)
  refine ⟨a, fun x => ⟨fun hx => ?_, fun hx => ?_⟩⟩
  · obtain ⟨j, hj, rfl⟩ := b x hx
    have h2 : l.toArray[j]! = l[j] := by simp [hj]
    rw [h2]
    exact List.getElem_mem _
  · obtain ⟨j, hj, rfl⟩ := List.mem_iff_getElem.1 hx
    have h2 : l.toArray[j]! = l[j] := by simp [hj]
    rw [← h2]
    exact c j hj
theorem own_cut {W : World} {B g cap n m : Nat} {e : TypeId} {xs : List Value} (h : W.ownsRow B e 1 (.slice (some ⟨g, 0, none⟩) n cap) n xs) (hm : m ≤ n) : W.ownsRow B e 1 (.slice (some ⟨g, 0, none⟩) m cap) m (xs.take m) := by
  have h1 := h.1
  refine ⟨by rw [List.length_take]; omega, .inr ?_⟩
  rcases h.2 with ⟨e1, _⟩ | ⟨g1, c1, cur, e1, hb, hg, hn, hc, hs, ht⟩
  · cases e1
  · cases e1
    refine ⟨g, cap, cur, rfl, hb, hg, by omega, hc, hs, ?_⟩
    rw [← ht, List.take_take]
    congr 1
    omega
theorem compact_own {B g cap : Nat} {l : List Int} {W : World} (h : W.ownsRow B 3 1 (.slice (some ⟨g, 0, none⟩) l.length cap) l.length (ic l)) (hl : l.length ≤ 1000000) :
    Calls Try.prog 33 #[.slice (some ⟨g, 0, none⟩) l.length cap] W fun e w' => ∃ v, e = .returned v ∧ w'.ownsRow B 3 1 v (Lib.compact l).length (ic (Lib.compact l)) ∧ Below B W w' := by
  have h0 := h
  rcases h.2 with ⟨e, _⟩ | ⟨g', cap', cur, e, hbg, hg, hnc, _⟩
  · cases e
  cases e
  have hcl := Lib.compact_length_le l
  have hH : Holds (Value.int .i64) W g 0 l.toArray := by
    intro j hj
    have hj' : j < l.length := by simpa using hj
    refine ⟨?_, ?_⟩
    · rw [Nat.zero_add, h.cellAt j (by omega)]
      simp [ic, hj']
    · rw [Nat.zero_add]; exact h.frozenAt j
  refine (Any.slices_Compact_int Try.laysCompact g 0 cap l W hH (by omega) hnc).mono ?_
  rintro e w' ⟨rfl, q, rfl⟩
  rw [Lib.putRow_eq_setCells _ W g 0 _ _ q hH (by simp; omega)]
  have h1 := own_setCells ((Lib.compact l ++ List.replicate (l.length - (Lib.compact l).length) 0).map (Value.int .i64)) 0 (W.drewN q) _ h0 (by simp; omega)
  have h2 := own_cut h1 hcl
  refine ⟨_, rfl, ?_, below_setCells hbg _ _ _ _ (below_drewN (Below.refl _ _) q)⟩
  rw [show ic (Lib.compact l) = ((ic l).take 0 ++ (Lib.compact l ++ List.replicate (l.length - (Lib.compact l).length) 0).map (Value.int .i64) ++ (ic l).drop (0 + ((Lib.compact l ++ List.replicate (l.length - (Lib.compact l).length) 0).map (Value.int .i64)).length)).take (Lib.compact l).length from ?_]
  · exact h2
  · rw [List.take_zero, List.nil_append, List.take_append_of_le_length (by simp), List.map_append, List.take_append_of_le_length (by simp), List.take_of_length_le (by simp)]
    rfl
/-! ### the ends that are not its own -/
def endsOf (d : V3) (x : Int) : List Int := [d.endM x, d.endT x]
def outQ (d : V3) (p : Pl) (m : Int) : Bool := decide (m ∉ p.b.all d)
def outsOf (d : V3) (p : Pl) (l : List Int) : List Int := l.flatMap (fun x => (endsOf d x).filter (outQ d p))
def passV (d : V3) (p : Pl) : List Int := if plChk d p = 0 then Lib.compact (sorted (outsOf d p (cabsV d p))) else []
theorem outsOf_snoc (d : V3) (p : Pl) (l : List Int) (x : Int) : outsOf d p (l ++ [x]) = outsOf d p l ++ (endsOf d x).filter (outQ d p) := by unfold outsOf; rw [List.flatMap_append]; simp
theorem outsOf_len (d : V3) (p : Pl) (l : List Int) : (outsOf d p l).length ≤ 2 * l.length := by
  unfold outsOf
  induction l with
  | nil => simp
  | cons x l ih =>
    have : ((endsOf d x).filter (outQ d p)).length ≤ 2 := Nat.le_trans (List.length_filter_le _ _) (Nat.le_refl 2)
    rw [List.flatMap_cons, List.length_append, List.length_cons]
    omega
/-- The j-th end. -/
def endJ (d : V3) (x : Int) (j : Nat) : Int := if j = 0 then d.endM x else d.endT x
def partJ (d : V3) (p : Pl) (x : Int) (j : Nat) : List Int := ((endsOf d x).take j).filter (outQ d p)
theorem partJ_succ (d : V3) (p : Pl) (x : Int) {j : Nat} (hj : j < 2) : partJ d p x (j + 1) = partJ d p x j ++ (if outQ d p (endJ d x j) then [endJ d x j] else []) := by
  unfold partJ endsOf
  match j, hj with
  | 0, _ => simp only [List.take, List.filter_nil, List.nil_append, List.filter_cons]; rfl
  | 1, _ => simp only [List.take, List.filter_cons, List.filter_nil]; cases outQ d p (d.endM x) <;> cases h : outQ d p (d.endT x) <;> simp [endJ, h]
theorem partJ_len (d : V3) (p : Pl) (x : Int) (j : Nat) : (partJ d p x j).length ≤ 2 := by
  unfold partJ
  refine Nat.le_trans (List.length_filter_le _ _) ?_
  rw [List.length_take]
  show min j 2 ≤ 2
  omega
end Go.Proofs.Ythabpiphfaedaaa
