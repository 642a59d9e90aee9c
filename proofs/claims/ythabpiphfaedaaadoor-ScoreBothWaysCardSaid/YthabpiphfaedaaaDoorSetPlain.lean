/- SETS, THE PLAIN LAW: what is joined may be, and has what the rule says of the two. -/
import Derived.Test.YthabpiphfaedaaaDoorSetVals
import Derived.Test.YthabpiphfaedaaaDoorSetPl0
namespace Go.Proofs.YthabpiphfaedaaaDoor
open Go.RowKit Go.Shelf

theorem hasI_join {ws a b : List Nat} {r : Bool → Bool → Bool} (h0 : r false false = false) (h : ∀ i, there ws i = r (there a i) (there b i)) (k : Int) : hasI ws k = r (hasI a k) (hasI b k) := by
  unfold hasI
  by_cases hk : 0 ≤ k
  · simp [hk, h]
  · simp [hk, h0]
theorem hasI_in {n : Int} {ws : List Nat} {k : Int} (h : sChk n ws = 0) (hw : W64 ws) (hk : hasI ws k = true) : 0 ≤ k ∧ k < n := by
  by_cases h0 : k < 0
  · rw [hasI_neg h0] at hk; cases hk
  · by_cases h1 : n ≤ k
    · rw [hasI_top h hw h1] at hk; cases hk
    · omega

theorem has_three {n : Int} {a b : List Nat} (h : sChk2 n a b = 0) (ha : W64 a) (hb : W64 b) (k : Int) :
    hasV n (joinIf andW n a b) k = (hasV n a k && hasV n b k) ∧ hasV n (joinIf orW n a b) k = (hasV n a k || hasV n b k) ∧ hasV n (joinIf lessW n a b) k = (hasV n a k && !hasV n b k) := by
  obtain ⟨h1, h2⟩ := sChk2_0 h
  obtain ⟨a1, _, a2⟩ := and_may h ha hb
  obtain ⟨b1, _, b2⟩ := or_may h ha hb
  obtain ⟨c1, _, c2⟩ := less_may h ha hb
  unfold hasV
  rw [if_pos a1, if_pos b1, if_pos c1, if_pos h1, if_pos h2]
  exact ⟨hasI_join (r := fun x y => x && y) rfl a2 k, hasI_join (r := fun x y => x || y) rfl b2 k, hasI_join (r := fun x y => x && !y) rfl c2 k⟩
theorem hasV_in {n : Int} {ws : List Nat} {k : Int} (hw : W64 ws) (hk : hasV n ws k = true) : 0 ≤ k ∧ k < n := by
  unfold hasV at hk
  by_cases h : sChk n ws = 0
  · rw [if_pos h] at hk; exact hasI_in h hw hk
  · rw [if_neg h] at hk; cases hk
end Go.Proofs.YthabpiphfaedaaaDoor
