/- SORTED lists: sorted in place; lists that rise. -/
import Derived.Shelf.Sort.Plain
import Derived.Lib.SortBridge
import Derived.Test.YtofoenlhbmammaaQ0ListsIG13
import Derived.Test.YtofoenlhbmammaaShelfSort
set_option linter.unusedVariables false
set_option linter.unusedSimpArgs false
namespace Go.Proofs.Ytofoenlhbmammaa

section
section
open Go.RowKit Go.Shelf Go.Sort

theorem own_setCells {base e g cap n : Nat} : ∀ (vs : List Value) (o : Nat) (w : World) (xs : List Value), w.ownsRow base e 1 (.slice (some ⟨g, 0, none⟩) n cap) n xs → o + vs.length ≤ n →
    (w.setCells g o vs).ownsRow base e 1 (.slice (some ⟨g, 0, none⟩) n cap) n (xs.take o ++ vs ++ xs.drop (o + vs.length))
  | [], o, w, xs, h, _ => by simpa [World.setCells] using h
  | v :: r, o, w, xs, h, hl => by
    have hlen := h.1
    simp only [List.length_cons] at hl
    have h1 := (h.stored o v).1
    have h2 := own_setCells r (o + 1) _ _ h1 (by omega)
    have e : (xs.set o v).take (o + 1) ++ r ++ (xs.set o v).drop (o + 1 + r.length) = xs.take o ++ (v :: r) ++ xs.drop (o + (v :: r).length) := by
      rw [List.take_succ_eq_append_getElem (by simp; omega), List.take_set_of_le (Nat.le_refl _), List.drop_set_of_lt (by omega)]
      simp [show o + 1 + r.length = o + (r.length + 1) by omega]
    rw [e] at h2
    exact h2
theorem below_setCells {B g : Nat} (hg : B ≤ g) : ∀ (vs : List Value) (o : Nat) (W w : World), Below B W w → Below B W (w.setCells g o vs)
  | [], _, _, _, h => h
  | v :: r, o, W, w, h => below_setCells hg r (o + 1) W _ (h.setCell (p := ⟨g, o, none⟩) hg v)
theorem below_grow {B : Nat} {W w : World} (h : Below B W w) (os : Array Obj) (hB : B ≤ W.heap.size) : Below B W (grow w os) :=
  ⟨h.os, h.tape, h.output, Nat.le_trans h.size (by simp [grow]), fun k hk => (heap_grow_old w os (Nat.lt_of_lt_of_le (Nat.lt_of_lt_of_le hk hB) h.size)).trans (h.block k hk)⟩
theorem own_grow {w : World} {base e size n : Nat} {v : Value} {xs : List Value} (h : w.ownsRow base e size v n xs) (os : Array Obj) : (grow w os).ownsRow base e size v n xs := by
  refine ⟨h.1, ?_⟩
  rcases h.2 with hn | ⟨g, cap, cur, rfl, hbg, hg, rest⟩
  · exact .inl hn
  · exact .inr ⟨g, cap, cur, rfl, hbg, (heap_grow_old w os (Array.getElem?_eq_some_iff.1 hg).1).trans hg, rest⟩

/-- The numbers, rising. -/
def sorted (l : List Int) : List Int := l.mergeSort fun x y => decide (x ≤ y)
theorem sorted_len (l : List Int) : (sorted l).length = l.length := by unfold sorted; exact List.length_mergeSort l

set_option maxRecDepth 100000 in set_option maxHeartbeats 4000000 in
theorem sort_own {B g cap : Nat} {l : List Int} {W : World} (h : W.ownsRow B 3 1 (.slice (some ⟨g, 0, none⟩) l.length cap) l.length (l.map (Value.int .i64))) (hB : B ≤ W.heap.size) (hl : l.length ≤ 1000000) :
    Calls Try.prog 34 #[.slice (some ⟨g, 0, none⟩) l.length cap] W fun e w' => e = .returned (.tuple #[]) ∧ w'.ownsRow B 3 1 (.slice (some ⟨g, 0, none⟩) l.length cap) l.length ((sorted l).map (Value.int .i64)) ∧ Below B W w' := by
  rcases h.2 with ⟨e, _⟩ | ⟨g', cap', cur, e, hbg, hg, _⟩
  · cases e
  cases e
  have hH : Holds (Value.int .i64) W g 0 l.toArray := by
    intro j hj
    have hj' : j < l.length := by simpa using hj
    refine ⟨?_, ?_⟩
    · rw [Nat.zero_add, h.cellAt j (by omega)]
      simp [hj']
    · rw [Nat.zero_add]; exact h.frozenAt j
  refine (Any.slices_Sort_int Try.laysSort g 0 cap l W hH (Array.getElem?_eq_some_iff.1 hg).1 (by omega)).mono ?_
  rintro e w' ⟨rfl, q, os, rfl⟩
  rw [show (l.mergeSort fun x y => decide (x ≤ y)) = sorted l from rfl]
  rw [Lib.sorted_world (Value.int .i64) W g 0 q l.toArray (sorted l) os hH (by simp [sorted_len])]
  refine ⟨rfl, own_grow ?_ os, below_grow (below_setCells hbg _ _ _ _ (below_drewN (Below.refl _ _) q)) os hB⟩
  have h0 : (W.drewN q).ownsRow B 3 1 (.slice (some ⟨g, 0, none⟩) l.length cap) l.length (l.map (Value.int .i64)) := h
  have h1 := own_setCells ((sorted l).map (Value.int .i64)) 0 _ _ h0 (by simp [sorted_len])
  rw [List.drop_of_length_le (by simp [sorted_len])] at h1
  simpa using h1
end

section
theorem rise_ext : ∀ {a b : List Int}, a.Pairwise (· < ·) → b.Pairwise (· < ·) → (∀ x, x ∈ a ↔ x ∈ b) → a = b
  | [], [], _, _, _ => rfl
  | [], y :: b, _, _, h => absurd ((h y).2 (List.mem_cons_self ..)) (by simp)
  | x :: a, [], _, _, h => absurd ((h x).1 (List.mem_cons_self ..)) (by simp)
  | x :: a, y :: b, ha, hb, h => by
    rw [List.pairwise_cons] at ha hb
    have hxy : x = y := by
      rcases List.mem_cons.1 ((h x).1 (List.mem_cons_self ..)) with e | e
      · exact e
      · rcases List.mem_cons.1 ((h y).2 (List.mem_cons_self ..)) with e2 | e2
        · exact e2.symm
        · have := hb.1 x e; have := ha.1 y e2; omega
    subst hxy
    rw [rise_ext ha.2 hb.2 (fun z => ?_)]
    constructor
    · intro hz
      rcases List.mem_cons.1 ((h z).1 (List.mem_cons_of_mem _ hz)) with e | e
      · have := ha.1 z hz; omega
      · exact e
    · intro hz
      rcases List.mem_cons.1 ((h z).2 (List.mem_cons_of_mem _ hz)) with e | e
      · have := hb.1 z hz; omega
      · exact e
theorem sorted_rise {l : List Int} (h : l.Nodup) : (sorted l).Pairwise (· < ·) := by
  have h1 : (sorted l).Pairwise (fun a b => decide (a ≤ b) = true) := List.pairwise_mergeSort (fun a b c h1 h2 => by simp at *; omega) (fun a b => by simp; omega) l
  have h2 : (sorted l).Nodup := (List.mergeSort_perm l _).nodup_iff.2 h
  exact (h1.and h2).imp (fun ⟨h3, h4⟩ => by simp at h3; omega)
end
end
end Go.Proofs.Ytofoenlhbmammaa
