/- SETS, THE PLAIN LAW: a set is told by its numbers, which rise. -/
import Derived.Test.YtilibdhcahdndaaDoorSetPlain
namespace Go.Proofs.YtilibdhcahdndaaDoor
open Go.RowKit Go.Shelf

theorem there_zeros (m i : Nat) : there (List.replicate m 0) i = false := by
  have e : (List.replicate m 0).getD (i / 64) 0 = 0 := by
    rw [List.getD_eq_getElem?_getD, List.getElem?_replicate]; split <;> rfl
  simp only [there, e, bitOf_test]
  simp
theorem there_puts (m i : Nat) : ∀ (l : List Int) (ws : List Nat), ws.length = m → (∀ x ∈ l, 0 ≤ x ∧ x < 64 * (m : Int)) →
    there (l.foldl (fun ws x => putBit ws x.toNat) ws) i = (there ws i || decide ((i : Int) ∈ l))
  | [], ws, _, _ => by simp
  | x :: l, ws, hl, h => by
    have hx := h x (List.mem_cons_self ..)
    rw [List.foldl_cons, there_puts m i l _ (by rw [putBit_len]; exact hl) (fun y hy => h y (List.mem_cons_of_mem _ hy)), there_putBit (by omega), Bool.or_assoc]
    congr 1
    rw [Bool.eq_iff_iff]
    simp only [Bool.or_eq_true, decide_eq_true_eq, List.mem_cons]
    constructor
    · rintro (h1 | h1)
      · left; omega
      · exact .inr h1
    · rintro (h1 | h1)
      · left; omega
      · exact .inr h1
theorem there_bitsOf {m : Nat} {l : List Int} (h : ∀ x ∈ l, 0 ≤ x ∧ x < 64 * (m : Int)) (i : Nat) : there (bitsOf m l) i = decide ((i : Int) ∈ l) := by
  unfold bitsOf
  rw [there_puts m i l _ (by simp) h, there_zeros, Bool.false_or]

theorem numsTo_rise (ws : List Nat) (k : Nat) : (numsTo ws k).Pairwise (· < ·) := by
  induction k with
  | zero => simp [numsTo]
  | succ k ih =>
    rw [numsTo_succ]
    split
    · rw [List.pairwise_append]
      refine ⟨ih, by simp, fun a ha b hb => ?_⟩
      simp only [List.mem_singleton] at hb
      subst hb
      simp only [numsTo, List.mem_map, List.mem_filter, List.mem_range] at ha
      obtain ⟨j, ⟨h1, _⟩, rfl⟩ := ha
      omega
    · exact ih
theorem rise_len : ∀ {a l : List Int}, a.Pairwise (· < ·) → (∀ x ∈ a, x ∈ l) → a.length ≤ l.length
  | [], _, _, _ => by simp
  | x :: a, l, hp, h => by
    have hx := h x (List.mem_cons_self ..)
    have h1 := rise_len (a := a) (l := l.erase x) (List.Pairwise.of_cons hp) (fun y hy => by
      have := List.rel_of_pairwise_cons hp hy
      exact (List.mem_erase_of_ne (by omega)).2 (h y (List.mem_cons_of_mem _ hy)))
    rw [List.length_erase_of_mem hx] at h1
    have := List.length_pos_of_mem hx
    simp only [List.length_cons]; omega

theorem nWords_le {n : Int} (hn : nMay n) : n ≤ 64 * (nWords n : Int) := by unfold nMay at hn; unfold nWords; omega

theorem of_nums {n : Int} {ws : List Nat} (h : sChk n ws = 0) (hw : W64 ws) : ofErr n (nums ws) = 0 ∧ ofSet n (nums ws) = ws := by
  obtain ⟨hn, hl, _⟩ := sMay_len h
  have hp := nWords_pos hn
  have hle := numsTo_len ws (64 * ws.length)
  have hin : inR n (nums ws) = true := by
    unfold inR
    rw [List.all_eq_true]
    intro x hx
    obtain ⟨k, rfl, h1, h2⟩ := mem_nums.1 hx
    rw [decide_eq_true_iff]
    refine ⟨by omega, ?_⟩
    by_cases hk : n.toNat ≤ k
    · rw [topOut h hw hk] at h2; cases h2
    · omega
  have he : ofErr n (nums ws) = 0 := by
    unfold ofErr
    rw [if_pos hn, if_neg (by change ¬ 65536 < (numsTo ws (64 * ws.length)).length; omega), if_pos hin]
  refine ⟨he, ?_⟩
  rw [ofSet, if_pos he]
  refine sets_ext (by rw [bitsOf_len, hl]) (bitsOf_fit _ _) hw (fun i hi => ?_)
  rw [there_bitsOf (fun x hx => ?_), Bool.eq_iff_iff, decide_eq_true_iff, mem_nums]
  · rw [bitsOf_len] at hi
    constructor
    · rintro ⟨k, hk, h1, h2⟩
      obtain rfl : i = k := by omega
      exact h2
    · intro h2; exact ⟨i, rfl, by omega, h2⟩
  · have := inR_at hin hx
    have := nWords_le hn
    omega

theorem of_back {n : Int} {l : List Int} (h : ofErr n l = 0) : sChk n (ofSet n l) = 0 ∧ (∀ x ∈ l, hasV n (ofSet n l) x = true) ∧ (∀ x ∈ nums (ofSet n l), x ∈ l) ∧ (nums (ofSet n l)).length ≤ l.length := by
  obtain ⟨hn, _, hin⟩ := ofErr_may h
  have e : ofSet n l = bitsOf (nWords n) l := if_pos h
  have hr : ∀ x ∈ l, 0 ≤ x ∧ x < 64 * (nWords n : Int) := fun x hx => by
    have := inR_at hin hx
    have := nWords_le hn
    omega
  have ht : ∀ i, there (ofSet n l) i = decide ((i : Int) ∈ l) := fun i => by rw [e]; exact there_bitsOf hr i
  have hc : sChk n (ofSet n l) = 0 := by
    refine sChk_of hn (by rw [e, bitsOf_len]) (ofSet_fit n l) (fun i hi => ?_)
    rw [ht, decide_eq_false_iff_not]
    intro hx
    have := inR_at hin hx
    have hn' := hn
    unfold nMay at hn'
    omega
  have hm : ∀ x ∈ nums (ofSet n l), x ∈ l := fun x hx => by
    obtain ⟨k, rfl, _, h2⟩ := mem_nums.1 hx
    rw [ht, decide_eq_true_iff] at h2
    exact h2
  refine ⟨hc, fun x hx => ?_, hm, rise_len (numsTo_rise _ _) hm⟩
  have h0 := (inR_at hin hx).1
  obtain ⟨k, rfl⟩ : ∃ k : Nat, x = (k : Int) := ⟨x.toNat, by omega⟩
  rw [hasV, if_pos hc, hasI_nat, ht, decide_eq_true_iff]
  exact hx
theorem ofSet_no {n : Int} {l : List Int} (h : ¬ ofErr n l = 0) : ofSet n l = [] := if_neg h
end Go.Proofs.YtilibdhcahdndaaDoor
