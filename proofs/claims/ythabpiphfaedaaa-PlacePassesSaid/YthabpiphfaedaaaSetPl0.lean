/- SETS, THE PLAIN LAW: what is joined may be; the numbers of a set that is made of numbers. -/
import Derived.Test.YthabpiphfaedaaaSetMeet
import Derived.Test.YthabpiphfaedaaaSetOf
import Derived.Test.YthabpiphfaedaaaSetHas
namespace Go.Proofs.Ythabpiphfaedaaa
open Go.RowKit Go.Shelf

/-- A set of as many words as it may have, with nothing at its bound or beyond, may be. -/
theorem sChk_of {n : Int} {ws : List Nat} (hn : nMay n) (hl : ws.length = nWords n) (hw : W64 ws) (h : ∀ i, n.toNat ≤ i → there ws i = false) : sChk n ws = 0 := by
  have h1 : refMay n ws = true := by
    unfold refMay clearTo
    rw [decide_eq_true hl, Bool.true_and, List.all_eq_true]
    intro j _
    rw [h _ (by omega)]; rfl
  rw [refMay_eq hn hw, decide_eq_true_iff] at h1
  rw [sChk, if_pos hn, okIf_yes h1]

theorem there_far {ws : List Nat} {i : Nat} (h : ¬ i / 64 < ws.length) : there ws i = false := there_out (by omega)

theorem join_may {f : Nat → Nat → Nat} {r : Bool → Bool → Bool} (hf : ∀ x y j, x < 2 ^ 64 → y < 2 ^ 64 → j < 64 → (f x y).testBit j = r (x.testBit j) (y.testBit j)) (hfit : ∀ x y, x < 2 ^ 64 → y < 2 ^ 64 → f x y < 2 ^ 64) (h0 : r false false = false)
    {n : Int} {a b : List Nat} (h : sChk2 n a b = 0) (ha : W64 a) (hb : W64 b) :
    sChk n (joinIf f n a b) = 0 ∧ (joinIf f n a b).length = a.length ∧ ∀ i, there (joinIf f n a b) i = r (there a i) (there b i) := by
  have hj : joinIf f n a b = List.zipWith f a b := if_pos h
  obtain ⟨h1, h2⟩ := sChk2_0 h
  obtain ⟨hn, hla, _⟩ := sMay_len h1
  obtain ⟨_, hlb, _⟩ := sMay_len h2
  have hlen : (List.zipWith f a b).length = a.length := by rw [List.length_zipWith]; omega
  have ht : ∀ i, there (List.zipWith f a b) i = r (there a i) (there b i) := by
    intro i
    by_cases hi : i / 64 < a.length
    · have h2 : i / 64 < b.length := by omega
      rw [there_in (by omega : i / 64 < (List.zipWith f a b).length), there_in hi, there_in h2]
      simp only [bitOf_test, List.getElem_zipWith]
      exact hf _ _ _ (ha _ (List.getElem_mem hi)) (hb _ (List.getElem_mem h2)) (Nat.mod_lt _ (by decide))
    · rw [there_far (by omega), there_far hi, there_far (by omega), h0]
  rw [hj]
  refine ⟨sChk_of hn (by omega) (zip_fit hfit ha hb) (fun i hi => ?_), hlen, ht⟩
  rw [ht, topOut h1 ha hi, topOut h2 hb hi, h0]

theorem andW_test (p q j : Nat) (_ : p < 2 ^ 64) (_ : q < 2 ^ 64) (_ : j < 64) : (andW p q).testBit j = (p.testBit j && q.testBit j) := by
  unfold andW; rw [Nat.testBit_and]
theorem orW_test (p q j : Nat) (_ : p < 2 ^ 64) (_ : q < 2 ^ 64) (_ : j < 64) : (orW p q).testBit j = (p.testBit j || q.testBit j) := by
  unfold orW; rw [Nat.testBit_or]
theorem lessW_test (p q j : Nat) (_ : p < 2 ^ 64) (hq : q < 2 ^ 64) (hj : j < 64) : (lessW p q).testBit j = (p.testBit j && !q.testBit j) := by
  have e : 18446744073709551615 - q = 2 ^ 64 - (q + 1) := by omega
  unfold lessW; rw [Nat.testBit_and, e, Nat.testBit_two_pow_sub_succ hq]; simp [hj]

theorem and_may {n : Int} {a b : List Nat} (h : sChk2 n a b = 0) (ha : W64 a) (hb : W64 b) : sChk n (joinIf andW n a b) = 0 ∧ (joinIf andW n a b).length = a.length ∧ ∀ i, there (joinIf andW n a b) i = (there a i && there b i) :=
  join_may (r := fun x y => x && y) andW_test andW_fit rfl h ha hb
theorem or_may {n : Int} {a b : List Nat} (h : sChk2 n a b = 0) (ha : W64 a) (hb : W64 b) : sChk n (joinIf orW n a b) = 0 ∧ (joinIf orW n a b).length = a.length ∧ ∀ i, there (joinIf orW n a b) i = (there a i || there b i) :=
  join_may (r := fun x y => x || y) orW_test orW_fit rfl h ha hb
theorem less_may {n : Int} {a b : List Nat} (h : sChk2 n a b = 0) (ha : W64 a) (hb : W64 b) : sChk n (joinIf lessW n a b) = 0 ∧ (joinIf lessW n a b).length = a.length ∧ ∀ i, there (joinIf lessW n a b) i = (there a i && !there b i) :=
  join_may (r := fun x y => x && !y) lessW_test lessW_fit rfl h ha hb

theorem sChk2_of {n : Int} {a b : List Nat} (h1 : sChk n a = 0) (h2 : sChk n b = 0) : sChk2 n a b = 0 := by
  unfold sChk2; rw [if_pos h1]; exact h2
theorem there_zeros (m i : Nat) : there (List.replicate m 0) i = false := by
  have e : (List.replicate m 0).getD (i / 64) 0 = 0 := by
    rw [List.getD_eq_getElem?_getD, List.getElem?_replicate]; split <;> rfl
  simp only [there, e, bitOf_test]
  simp
theorem there_puts (m i : Nat) : ∀ (l : List Int) (ws : List Nat), ws.length = m → (∀ x ∈ l, 0 ≤ x ∧ x < 64 * (m : Int)) →
    there (l.foldl (fun ws x => putBit ws x.toNat) ws) i = (there ws i || decide ((i : Int) ∈ l))
  | [], ws, _, _ => by simp
  | x :: l, ws, hl, h => by
    have hx := h x (List.mem_cons_self ..)
    rw [List.foldl_cons, there_puts m i l _ (by rw [putBit_len]; exact hl) (fun y hy => h y (List.mem_cons_of_mem _ hy)), there_putBit (by omega), Bool.or_assoc]
    congr 1
    rw [Bool.eq_iff_iff]
    simp only [Bool.or_eq_true, decide_eq_true_eq, List.mem_cons]
    constructor
    · rintro (h1 | h1)
      · left; omega
      · exact .inr h1
    · rintro (h1 | h1)
      · left; omega
      · exact .inr h1
theorem there_bitsOf {m : Nat} {l : List Int} (h : ∀ x ∈ l, 0 ≤ x ∧ x < 64 * (m : Int)) (i : Nat) : there (bitsOf m l) i = decide ((i : Int) ∈ l) := by
  unfold bitsOf
  rw [there_puts m i l _ (by simp) h, there_zeros, Bool.false_or]

theorem nWords_le {n : Int} (hn : nMay n) : n ≤ 64 * (nWords n : Int) := by unfold nMay at hn; unfold nWords; omega

theorem anyNZ_at {ws : List Nat} (hw : W64 ws) : anyNZ ws = true ↔ ∃ i, i < 64 * ws.length ∧ there ws i = true := by
  unfold anyNZ
  rw [List.any_eq_true]
  constructor
  · rintro ⟨x, hx, h⟩
    obtain ⟨k, hk, rfl⟩ := List.mem_iff_getElem.1 hx
    have hne : ws[k] ≠ 0 := by simpa using h
    obtain ⟨j, hj⟩ := Nat.exists_testBit_of_ne_zero hne
    have hlt := hw _ hx
    have hj64 : j < 64 := by
      rcases Nat.lt_or_ge j 64 with h | h
      · exact h
      · have hf := Nat.testBit_lt_two_pow (Nat.lt_of_lt_of_le hlt (Nat.pow_le_pow_right (by decide) h : 2 ^ 64 ≤ 2 ^ j))
        rw [hf] at hj; exact absurd hj (by decide)
    refine ⟨64 * k + j, by omega, ?_⟩
    rw [there_in (by omega), bitOf_test]
    simp only [show (64 * k + j) / 64 = k by omega, show (64 * k + j) % 64 = j by omega]
    exact hj
  · rintro ⟨i, hi, ht⟩
    have hk : i / 64 < ws.length := by omega
    rw [there_in hk, bitOf_test] at ht
    refine ⟨ws[i / 64], List.getElem_mem hk, ?_⟩
    rw [decide_eq_true_eq]
    intro e
    rw [e, Nat.zero_testBit] at ht
    exact absurd ht (by decide)

end Go.Proofs.Ythabpiphfaedaaa
