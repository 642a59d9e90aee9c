/- SETS: what is told of them and its bounds; the plain law: told by its numbers. -/
import Derived.Test.YthabpiphfaedaaaDoorQ2FaultHits
import Derived.Test.YthabpiphfaedaaaDoorQ0SetMeet
import Derived.Test.YthabpiphfaedaaaDoorQ0SetHasP
import Derived.Test.YthabpiphfaedaaaDoorQ0SetOf2
import Derived.Test.YthabpiphfaedaaaDoorQ0SetTz
namespace Go.Proofs.YthabpiphfaedaaaDoor

section
section
open Go.RowKit Go.Shelf

theorem listV_len (n : Int) (ws : List Nat) : (listV n ws).length ≤ 12288 := by
  unfold listV; split
  · next h =>
    have := sChk_len h
    have := numsTo_len ws (64 * ws.length)
    change (nums ws).length ≤ _ at this
    omega
  · simp
theorem ofSet_fit (n : Int) (l : List Int) : W64 (ofSet n l) := by
  unfold ofSet; split
  · exact bitsOf_fit _ _
  · intro x hx; simp at hx
theorem ofErr_may {n : Int} {l : List Int} (h : ofErr n l = 0) : nMay n ∧ l.length ≤ 65536 ∧ inR n l = true := by
  unfold ofErr at h
  by_cases hn : nMay n
  · rw [if_pos hn] at h
    by_cases hl : 65536 < l.length
    · rw [if_pos hl] at h; omega
    · rw [if_neg hl] at h
      by_cases hi : inR n l = true
      · exact ⟨hn, by omega, hi⟩
      · rw [if_neg hi] at h; omega
  · rw [if_neg hn] at h; omega
theorem ofSet_len (n : Int) (l : List Int) : (ofSet n l).length ≤ 192 := by
  unfold ofSet; split
  · next h => rw [bitsOf_len]; exact (nWords_pos (ofErr_may h).1).2
  · simp
end

section
section
open Go.RowKit Go.Shelf

theorem hasI_join {ws a b : List Nat} {r : Bool → Bool → Bool} (h0 : r false false = false) (h : ∀ i, there ws i = r (there a i) (there b i)) (k : Int) : hasI ws k = r (hasI a k) (hasI b k) := by
  unfold hasI
  by_cases hk : 0 ≤ k
  · simp [hk, h]
  · simp [hk, h0]
theorem hasI_in {n : Int} {ws : List Nat} {k : Int} (h : sChk n ws = 0) (hw : W64 ws) (hk : hasI ws k = true) : 0 ≤ k ∧ k < n := by
  by_cases h0 : k < 0
  · rw [hasI_neg h0] at hk; cases hk
  · by_cases h1 : n ≤ k
    · rw [hasI_top h hw h1] at hk; cases hk
    · omega

theorem has_three {n : Int} {a b : List Nat} (h : sChk2 n a b = 0) (ha : W64 a) (hb : W64 b) (k : Int) :
    hasV n (joinIf andW n a b) k = (hasV n a k && hasV n b k) ∧ hasV n (joinIf orW n a b) k = (hasV n a k || hasV n b k) ∧ hasV n (joinIf lessW n a b) k = (hasV n a k && !hasV n b k) := by
  obtain ⟨h1, h2⟩ := sChk2_0 h
  obtain ⟨a1, _, a2⟩ := and_may h ha hb
  obtain ⟨b1, _, b2⟩ := or_may h ha hb
  obtain ⟨c1, _, c2⟩ := less_may h ha hb
  unfold hasV
  rw [if_pos a1, if_pos b1, if_pos c1, if_pos h1, if_pos h2]
  exact ⟨hasI_join (r := fun x y => x && y) rfl a2 k, hasI_join (r := fun x y => x || y) rfl b2 k, hasI_join (r := fun x y => x && !y) rfl c2 k⟩
theorem hasV_in {n : Int} {ws : List Nat} {k : Int} (hw : W64 ws) (hk : hasV n ws k = true) : 0 ≤ k ∧ k < n := by
  unfold hasV at hk
  by_cases h : sChk n ws = 0
  · rw [if_pos h] at hk; exact hasI_in h hw hk
  · rw [if_neg h] at hk; cases hk
end

section
open Go.RowKit Go.Shelf

theorem numsTo_rise (ws : List Nat) (k : Nat) : (numsTo ws k).Pairwise (· < ·) := by
  induction k with
  | zero => simp [numsTo]
  | succ k ih =>
    rw [numsTo_succ]
    split
    · rw [List.pairwise_append]
      refine ⟨ih, by simp, fun a ha b hb => ?_⟩
      simp only [List.mem_singleton] at hb
      subst hb
      simp only [numsTo, List.mem_map, List.mem_filter, List.mem_range] at ha
      obtain ⟨j, ⟨h1, _⟩, rfl⟩ := ha
      omega
    · exact ih
theorem rise_len : ∀ {a l : List Int}, a.Pairwise (· < ·) → (∀ x ∈ a, x ∈ l) → a.length ≤ l.length
  | [], _, _, _ => by simp
  | x :: a, l, hp, h => by
    have hx := h x (List.mem_cons_self ..)
    have h1 := rise_len (a := a) (l := l.erase x) (List.Pairwise.of_cons hp) (fun y hy => by
      have := List.rel_of_pairwise_cons hp hy
      exact (List.mem_erase_of_ne (by omega)).2 (h y (List.mem_cons_of_mem _ hy)))
    rw [List.length_erase_of_mem hx] at h1
    have := List.length_pos_of_mem hx
    simp only [List.length_cons]; omega

theorem of_nums {n : Int} {ws : List Nat} (h : sChk n ws = 0) (hw : W64 ws) : ofErr n (nums ws) = 0 ∧ ofSet n (nums ws) = ws := by
  obtain ⟨hn, hl, _⟩ := sMay_len h
  have hp := nWords_pos hn
  have hle := numsTo_len ws (64 * ws.length)
  have hin : inR n (nums ws) = true := by
    unfold inR
    rw [List.all_eq_true]
    intro x hx
    obtain ⟨k, rfl, h1, h2⟩ := mem_nums.1 hx
    rw [decide_eq_true_iff]
    refine ⟨by omega, ?_⟩
    by_cases hk : n.toNat ≤ k
    · rw [topOut h hw hk] at h2; cases h2
    · omega
  have he : ofErr n (nums ws) = 0 := by
    unfold ofErr
    rw [if_pos hn, if_neg (by change ¬ 65536 < (numsTo ws (64 * ws.length)).length; omega), if_pos hin]
  refine ⟨he, ?_⟩
  rw [ofSet, if_pos he]
  refine sets_ext (by rw [bitsOf_len, hl]) (bitsOf_fit _ _) hw (fun i hi => ?_)
  rw [there_bitsOf (fun x hx => ?_), Bool.eq_iff_iff, decide_eq_true_iff, mem_nums]
  · rw [bitsOf_len] at hi
    constructor
    · rintro ⟨k, hk, h1, h2⟩
      obtain rfl : i = k := by omega
      exact h2
    · intro h2; exact ⟨i, rfl, by omega, h2⟩
  · have := inR_at hin hx
    have := nWords_le hn
    omega

theorem of_back {n : Int} {l : List Int} (h : ofErr n l = 0) : sChk n (ofSet n l) = 0 ∧ (∀ x ∈ l, hasV n (ofSet n l) x = true) ∧ (∀ x ∈ nums (ofSet n l), x ∈ l) ∧ (nums (ofSet n l)).length ≤ l.length := by
  obtain ⟨hn, _, hin⟩ := ofErr_may h
  have e : ofSet n l = bitsOf (nWords n) l := if_pos h
  have hr : ∀ x ∈ l, 0 ≤ x ∧ x < 64 * (nWords n : Int) := fun x hx => by
    have := inR_at hin hx
    have := nWords_le hn
    omega
  have ht : ∀ i, there (ofSet n l) i = decide ((i : Int) ∈ l) := fun i => by rw [e]; exact there_bitsOf hr i
  have hc : sChk n (ofSet n l) = 0 := by
    refine sChk_of hn (by rw [e, bitsOf_len]) (ofSet_fit n l) (fun i hi => ?_)
    rw [ht, decide_eq_false_iff_not]
    intro hx
    have := inR_at hin hx
    have hn' := hn
    unfold nMay at hn'
    omega
  have hm : ∀ x ∈ nums (ofSet n l), x ∈ l := fun x hx => by
    obtain ⟨k, rfl, _, h2⟩ := mem_nums.1 hx
    rw [ht, decide_eq_true_iff] at h2
    exact h2
  refine ⟨hc, fun x hx => ?_, hm, rise_len (numsTo_rise _ _) hm⟩
  have h0 := (inR_at hin hx).1
  obtain ⟨k, rfl⟩ : ∃ k : Nat, x = (k : Int) := ⟨x.toNat, by omega⟩
  rw [hasV, if_pos hc, hasI_nat, ht, decide_eq_true_iff]
  exact hx
theorem ofSet_no {n : Int} {l : List Int} (h : ¬ ofErr n l = 0) : ofSet n l = [] := if_neg h
end
end
end
end Go.Proofs.YthabpiphfaedaaaDoor
