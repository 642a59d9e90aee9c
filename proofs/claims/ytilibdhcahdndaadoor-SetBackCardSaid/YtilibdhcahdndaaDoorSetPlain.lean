/- SETS, THE PLAIN LAW: what is joined may be, and has what the rule says of the two. -/
import Derived.Test.YtilibdhcahdndaaDoorSetVals
namespace Go.Proofs.YtilibdhcahdndaaDoor
open Go.RowKit Go.Shelf

/-- A set of as many words as it may have, with nothing at its bound or beyond, may be. -/
theorem sChk_of {n : Int} {ws : List Nat} (hn : nMay n) (hl : ws.length = nWords n) (hw : W64 ws) (h : ∀ i, n.toNat ≤ i → there ws i = false) : sChk n ws = 0 := by
  have h1 : refMay n ws = true := by
    unfold refMay clearTo
    rw [decide_eq_true hl, Bool.true_and, List.all_eq_true]
    intro j _
    rw [h _ (by omega)]; rfl
  rw [refMay_eq hn hw, decide_eq_true_iff] at h1
  rw [sChk, if_pos hn, okIf_yes h1]

theorem there_far {ws : List Nat} {i : Nat} (h : ¬ i / 64 < ws.length) : there ws i = false := there_out (by omega)

theorem join_may {f : Nat → Nat → Nat} {r : Bool → Bool → Bool} (hf : ∀ x y j, x < 2 ^ 64 → y < 2 ^ 64 → j < 64 → (f x y).testBit j = r (x.testBit j) (y.testBit j)) (hfit : ∀ x y, x < 2 ^ 64 → y < 2 ^ 64 → f x y < 2 ^ 64) (h0 : r false false = false)
    {n : Int} {a b : List Nat} (h : sChk2 n a b = 0) (ha : W64 a) (hb : W64 b) :
    sChk n (joinIf f n a b) = 0 ∧ (joinIf f n a b).length = a.length ∧ ∀ i, there (joinIf f n a b) i = r (there a i) (there b i) := by
  have hj : joinIf f n a b = List.zipWith f a b := if_pos h
  obtain ⟨h1, h2⟩ := sChk2_0 h
  obtain ⟨hn, hla, _⟩ := sMay_len h1
  obtain ⟨_, hlb, _⟩ := sMay_len h2
  have hlen : (List.zipWith f a b).length = a.length := by rw [List.length_zipWith]; omega
  have ht : ∀ i, there (List.zipWith f a b) i = r (there a i) (there b i) := by
    intro i
    by_cases hi : i / 64 < a.length
    · have h2 : i / 64 < b.length := by omega
      rw [there_in (by omega : i / 64 < (List.zipWith f a b).length), there_in hi, there_in h2]
      simp only [bitOf_test, List.getElem_zipWith]
      exact hf _ _ _ (ha _ (List.getElem_mem hi)) (hb _ (List.getElem_mem h2)) (Nat.mod_lt _ (by decide))
    · rw [there_far (by omega), there_far hi, there_far (by omega), h0]
  rw [hj]
  refine ⟨sChk_of hn (by omega) (zip_fit hfit ha hb) (fun i hi => ?_), hlen, ht⟩
  rw [ht, topOut h1 ha hi, topOut h2 hb hi, h0]

theorem hasI_join {ws a b : List Nat} {r : Bool → Bool → Bool} (h0 : r false false = false) (h : ∀ i, there ws i = r (there a i) (there b i)) (k : Int) : hasI ws k = r (hasI a k) (hasI b k) := by
  unfold hasI
  by_cases hk : 0 ≤ k
  · simp [hk, h]
  · simp [hk, h0]
theorem hasI_in {n : Int} {ws : List Nat} {k : Int} (h : sChk n ws = 0) (hw : W64 ws) (hk : hasI ws k = true) : 0 ≤ k ∧ k < n := by
  by_cases h0 : k < 0
  · rw [hasI_neg h0] at hk; cases hk
  · by_cases h1 : n ≤ k
    · rw [hasI_top h hw h1] at hk; cases hk
    · omega

theorem andW_test (p q j : Nat) (_ : p < 2 ^ 64) (_ : q < 2 ^ 64) (_ : j < 64) : (andW p q).testBit j = (p.testBit j && q.testBit j) := by
  unfold andW; rw [Nat.testBit_and]
theorem orW_test (p q j : Nat) (_ : p < 2 ^ 64) (_ : q < 2 ^ 64) (_ : j < 64) : (orW p q).testBit j = (p.testBit j || q.testBit j) := by
  unfold orW; rw [Nat.testBit_or]
theorem lessW_test (p q j : Nat) (_ : p < 2 ^ 64) (hq : q < 2 ^ 64) (hj : j < 64) : (lessW p q).testBit j = (p.testBit j && !q.testBit j) := by
  have e : 18446744073709551615 - q = 2 ^ 64 - (q + 1) := by omega
  unfold lessW; rw [Nat.testBit_and, e, Nat.testBit_two_pow_sub_succ hq]; simp [hj]

theorem and_may {n : Int} {a b : List Nat} (h : sChk2 n a b = 0) (ha : W64 a) (hb : W64 b) : sChk n (joinIf andW n a b) = 0 ∧ (joinIf andW n a b).length = a.length ∧ ∀ i, there (joinIf andW n a b) i = (there a i && there b i) :=
  join_may (r := fun x y => x && y) andW_test andW_fit rfl h ha hb
theorem or_may {n : Int} {a b : List Nat} (h : sChk2 n a b = 0) (ha : W64 a) (hb : W64 b) : sChk n (joinIf orW n a b) = 0 ∧ (joinIf orW n a b).length = a.length ∧ ∀ i, there (joinIf orW n a b) i = (there a i || there b i) :=
  join_may (r := fun x y => x || y) orW_test orW_fit rfl h ha hb
theorem less_may {n : Int} {a b : List Nat} (h : sChk2 n a b = 0) (ha : W64 a) (hb : W64 b) : sChk n (joinIf lessW n a b) = 0 ∧ (joinIf lessW n a b).length = a.length ∧ ∀ i, there (joinIf lessW n a b) i = (there a i && !there b i) :=
  join_may (r := fun x y => x && !y) lessW_test lessW_fit rfl h ha hb

theorem has_three {n : Int} {a b : List Nat} (h : sChk2 n a b = 0) (ha : W64 a) (hb : W64 b) (k : Int) :
    hasV n (joinIf andW n a b) k = (hasV n a k && hasV n b k) ∧ hasV n (joinIf orW n a b) k = (hasV n a k || hasV n b k) ∧ hasV n (joinIf lessW n a b) k = (hasV n a k && !hasV n b k) := by
  obtain ⟨h1, h2⟩ := sChk2_0 h
  obtain ⟨a1, _, a2⟩ := and_may h ha hb
  obtain ⟨b1, _, b2⟩ := or_may h ha hb
  obtain ⟨c1, _, c2⟩ := less_may h ha hb
  unfold hasV
  rw [if_pos a1, if_pos b1, if_pos c1, if_pos h1, if_pos h2]
  exact ⟨hasI_join (r := fun x y => x && y) rfl a2 k, hasI_join (r := fun x y => x || y) rfl b2 k, hasI_join (r := fun x y => x && !y) rfl c2 k⟩
theorem hasV_in {n : Int} {ws : List Nat} {k : Int} (hw : W64 ws) (hk : hasV n ws k = true) : 0 ≤ k ∧ k < n := by
  unfold hasV at hk
  by_cases h : sChk n ws = 0
  · rw [if_pos h] at hk; exact hasI_in h hw hk
  · rw [if_neg h] at hk; cases hk
theorem sChk2_of {n : Int} {a b : List Nat} (h1 : sChk n a = 0) (h2 : sChk n b = 0) : sChk2 n a b = 0 := by
  unfold sChk2; rw [if_pos h1]; exact h2
end Go.Proofs.YtilibdhcahdndaaDoor
