/- SET: whether a number is in; THE PLAIN LAW of joined sets. -/
import Derived.Test.YtofoenlhbmammaaQ0SetMeetG13
import Derived.Test.YtofoenlhbmammaaQ0SetOfG13
set_option linter.unusedVariables false
set_option linter.unusedSimpArgs false
namespace Go.Proofs.Ytofoenlhbmammaa

section
section
open Go.RowKit Go.Shelf

/-- Is an integer in a set? -/
def hasI (ws : List Nat) (k : Int) : Bool := decide (0 ≤ k) && there ws k.toNat

theorem topOut {n : Int} {ws : List Nat} (h : sChk n ws = 0) (hw : W64 ws) {i : Nat} (hi : n.toNat ≤ i) : there ws i = false := by
  obtain ⟨hn, hl, ht⟩ := sMay_len h
  by_cases hin : i / 64 < ws.length
  · have hn' := hn
    unfold nMay at hn'
    have hnw : nWords n = (n.toNat + 63) / 64 := by unfold nWords; omega
    have hk : i / 64 = nWords n - 1 := by omega
    have hm : n % 64 ≠ 0 := by omega
    unfold topClear at ht
    rw [decide_eq_false hm, Bool.false_or, decide_eq_true_eq] at ht
    rw [there_in hin]
    have e : ws.getD (nWords n - 1) 0 = ws[i / 64] := by simp only [← hk]; simp [hin]
    rw [e] at ht
    have hlt : ws[i / 64] < 2 ^ (n % 64).toNat := by
      rcases Nat.div_eq_zero_iff.1 ht with h0 | h0
      · exact absurd h0 (by have := Nat.two_pow_pos (n % 64).toNat; omega)
      · exact h0
    rw [bitOf_test, Nat.testBit_lt_two_pow]
    exact Nat.lt_of_lt_of_le hlt (Nat.pow_le_pow_right (by decide) (by omega))
  · exact there_out (by omega)

theorem nMay_of {n : Int} {ws : List Nat} (h : sChk n ws = 0) : nMay n := (sMay_len h).1
theorem hasI_top {n : Int} {ws : List Nat} (h : sChk n ws = 0) (hw : W64 ws) {k : Int} (hk : n ≤ k) : hasI ws k = false := by
  have := nMay_of h
  unfold nMay at this
  unfold hasI
  rw [topOut h hw (by omega), Bool.and_false]
theorem hasI_neg {ws : List Nat} {k : Int} (hk : k < 0) : hasI ws k = false := by
  unfold hasI; rw [decide_eq_false (by omega)]; rfl
theorem hasI_nat {ws : List Nat} {k : Nat} : hasI ws (k : Int) = there ws k := by
  unfold hasI; rw [decide_eq_true (by omega), Int.toNat_natCast, Bool.true_and]

/-- What is told of a set that may be; nothing of one that may not. -/
def hasV (n : Int) (ws : List Nat) (k : Int) : Bool := if sChk n ws = 0 then hasI ws k else false

set_option maxRecDepth 100000 in set_option maxHeartbeats 4000000 in
theorem set_Has (n : Int) (base : Option Addr) (cap : Nat) (ws : List Nat) (k : Int) (w : World) (hs : SetIn w base ws) :
    Calls Try.prog 15 #[.int .i64 n, .slice base ws.length cap, .int .i64 k] w (RB w (.tuple #[.bool (hasV n ws k), .int .i64 (sChk n ws)])) := by
  have HC := Lib.hid (set_Check n base cap ws w hs.rd hs.len hs.fit)
  by_cases hz : sChk n ws = 0
  · have hy1 : (sChk n ws == 0) = true := by simpa using hz
    have hy2 : (sChk n ws != 0) = false := by simpa using hz
    have hv : hasV n ws k = hasI ws k := if_pos hz
    obtain ⟨hn, hlen, _⟩ := sMay_len hz
    have hz0 := Lib.hid hz
    replace hlen := Lib.hid hlen
    unfold nMay at hn
    by_cases h0 : k < 0
    · have hq := Lib.hid (hv.trans (hasI_neg h0))
      clear hv hz
      go_enter Try.func15, Try.ntmps15
      go_wp2_with ((with_reducible refine HC.out.mono ?_); rintro e w3 ⟨rfl, hw3⟩; have hw3 := hw3.symm; subst hw3)
      all_goals
        go_returns
        exact ⟨by rw [hq.out, hz0.out]; rfl, by (repeat (first | (with_reducible exact Below.refl _ _) | (with_reducible assumption) | (with_reducible refine below_alloc ?_ _) | (with_reducible refine below_drewN ?_ _) | (with_reducible refine Below.drew ?_) | (with_reducible refine below_then ?_ (by with_reducible assumption)) | (with_reducible refine Below.setCell ?_ (by go_size) _)))⟩
    · by_cases h1 : n ≤ k
      · have hq := Lib.hid (hv.trans (hasI_top hz hs.fit h1))
        clear hv hz
        go_enter Try.func15, Try.ntmps15
        go_wp2_with ((with_reducible refine HC.out.mono ?_); rintro e w3 ⟨rfl, hw3⟩; have hw3 := hw3.symm; subst hw3)
        all_goals
          go_returns
          exact ⟨by rw [hq.out, hz0.out]; rfl, by (repeat (first | (with_reducible exact Below.refl _ _) | (with_reducible assumption) | (with_reducible refine below_alloc ?_ _) | (with_reducible refine below_drewN ?_ _) | (with_reducible refine Below.drew ?_) | (with_reducible refine below_then ?_ (by with_reducible assumption)) | (with_reducible refine Below.setCell ?_ (by go_size) _)))⟩
      · obtain ⟨j, rfl⟩ : ∃ j : Nat, k = (j : Int) := ⟨k.toNat, by omega⟩
        have hjw : j / 64 < ws.length := by rw [hlen.out]; unfold nWords; omega
        obtain ⟨b, off, rfl, hc⟩ := hs.rd _ _ (wcells_at hjw)
        have hb := hs.fit _ (List.getElem_mem hjw)
        have hq := Lib.hid (hv.trans (hasI_nat.trans (there_in hjw)))
        obtain ⟨x, hx⟩ : ∃ x, x = ws[j / 64] := ⟨_, rfl⟩
        rw [← hx] at hc hb hq
        have hu := Lib.hid (u64_bit x (j % 64) hb)
        have h2 : (j : Int) < n := by omega
        clear hx hv hz hs
        go_enter Try.func15, Try.ntmps15
        go_wp2_with ((with_reducible refine HC.out.mono ?_); rintro e w3 ⟨rfl, hw3⟩; have hw3 := hw3.symm; subst hw3)
        all_goals
          go_returns
          exact ⟨by rw [hq.out, hz0.out, ← hu.out]; rfl, by (repeat (first | (with_reducible exact Below.refl _ _) | (with_reducible assumption) | (with_reducible refine below_alloc ?_ _) | (with_reducible refine below_drewN ?_ _) | (with_reducible refine Below.drew ?_) | (with_reducible refine below_then ?_ (by with_reducible assumption)) | (with_reducible refine Below.setCell ?_ (by go_size) _)))⟩
  · have hy1 : (sChk n ws == 0) = false := by simpa using hz
    have hy2 : (sChk n ws != 0) = true := by simpa using hz
    have hq := Lib.hid (show hasV n ws k = false from if_neg hz)
    clear hz
    go_enter Try.func15, Try.ntmps15
    go_wp2_with ((with_reducible refine HC.out.mono ?_); rintro e w3 ⟨rfl, hw3⟩; have hw3 := hw3.symm; subst hw3)
    all_goals
      go_returns
      exact ⟨by rw [hq.out]; rfl, by (repeat (first | (with_reducible exact Below.refl _ _) | (with_reducible assumption) | (with_reducible refine below_alloc ?_ _) | (with_reducible refine below_drewN ?_ _) | (with_reducible refine Below.drew ?_) | (with_reducible refine below_then ?_ (by with_reducible assumption)) | (with_reducible refine Below.setCell ?_ (by go_size) _)))⟩

set_option maxRecDepth 100000 in set_option maxHeartbeats 4000000 in
theorem ref03_ThereI (base : Option Addr) (cap : Nat) (ws : List Nat) (k : Int) (w : World) (hr : SetIn w base ws) (hk : k ≤ 9223372036854775807) :
    Calls Try.prog 75 #[.slice base ws.length cap, .int .i64 k] w fun e w' => e = .returned (.bool (hasI ws k)) ∧ w' = w := by
  by_cases h0 : k < 0
  · rw [hasI_neg h0]
    exact ref03_There_neg base cap ws k w h0
  · obtain ⟨j, rfl⟩ : ∃ j : Nat, k = (j : Int) := ⟨k.toNat, by omega⟩
    rw [hasI_nat]
    have hlen := hr.len
    by_cases h : j / 64 < ws.length
    · obtain ⟨b, off, rfl, hc⟩ := hr.rd _ _ (wcells_at h)
      have hb := hr.fit _ (List.getElem_mem h)
      have hq := Lib.hid (there_in h)
      obtain ⟨x, hx⟩ : ∃ x, x = ws[j / 64] := ⟨_, rfl⟩
      rw [← hx] at hc hb hq
      clear hx hr
      go_enter Try.func75, Try.ntmps75
      have hu := Lib.hid (u64_bit x (j % 64) hb)
      go_wp2_with fail
      go_returns
      exact ⟨by rw [hq.out, ← hu.out]; rfl, rfl⟩
    · have hq := Lib.hid (there_out (ws := ws) (k := j) (by omega))
      clear hr
      go_enter Try.func75, Try.ntmps75
      go_wp2_with fail
      go_returns
      exact ⟨by rw [hq.out]; rfl, rfl⟩

end

section
open Go.RowKit Go.Shelf

/-- A set of as many words as it may have, with nothing at its bound or beyond, may be. -/
theorem sChk_of {n : Int} {ws : List Nat} (hn : nMay n) (hl : ws.length = nWords n) (hw : W64 ws) (h : ∀ i, n.toNat ≤ i → there ws i = false) : sChk n ws = 0 := by
  have h1 : refMay n ws = true := by
    unfold refMay clearTo
    rw [decide_eq_true hl, Bool.true_and, List.all_eq_true]
    intro j _
    rw [h _ (by omega)]; rfl
  rw [refMay_eq hn hw, decide_eq_true_iff] at h1
  rw [sChk, if_pos hn, okIf_yes h1]

theorem there_far {ws : List Nat} {i : Nat} (h : ¬ i / 64 < ws.length) : there ws i = false := there_out (by omega)

theorem join_may {f : Nat → Nat → Nat} {r : Bool → Bool → Bool} (hf : ∀ x y j, x < 2 ^ 64 → y < 2 ^ 64 → j < 64 → (f x y).testBit j = r (x.testBit j) (y.testBit j)) (hfit : ∀ x y, x < 2 ^ 64 → y < 2 ^ 64 → f x y < 2 ^ 64) (h0 : r false false = false)
    {n : Int} {a b : List Nat} (h : sChk2 n a b = 0) (ha : W64 a) (hb : W64 b) :
    sChk n (joinIf f n a b) = 0 ∧ (joinIf f n a b).length = a.length ∧ ∀ i, there (joinIf f n a b) i = r (there a i) (there b i) := by
  have hj : joinIf f n a b = List.zipWith f a b := if_pos h
  obtain ⟨h1, h2⟩ := sChk2_0 h
  obtain ⟨hn, hla, _⟩ := sMay_len h1
  obtain ⟨_, hlb, _⟩ := sMay_len h2
  have hlen : (List.zipWith f a b).length = a.length := by rw [List.length_zipWith]; omega
  have ht : ∀ i, there (List.zipWith f a b) i = r (there a i) (there b i) := by
    intro i
    by_cases hi : i / 64 < a.length
    · have h2 : i / 64 < b.length := by omega
      rw [there_in (by omega : i / 64 < (List.zipWith f a b).length), there_in hi, there_in h2]
      simp only [bitOf_test, List.getElem_zipWith]
      exact hf _ _ _ (ha _ (List.getElem_mem hi)) (hb _ (List.getElem_mem h2)) (Nat.mod_lt _ (by decide))
    · rw [there_far (by omega), there_far hi, there_far (by omega), h0]
  rw [hj]
  refine ⟨sChk_of hn (by omega) (zip_fit hfit ha hb) (fun i hi => ?_), hlen, ht⟩
  rw [ht, topOut h1 ha hi, topOut h2 hb hi, h0]

theorem andW_test (p q j : Nat) (_ : p < 2 ^ 64) (_ : q < 2 ^ 64) (_ : j < 64) : (andW p q).testBit j = (p.testBit j && q.testBit j) := by
  unfold andW; rw [Nat.testBit_and]
theorem orW_test (p q j : Nat) (_ : p < 2 ^ 64) (_ : q < 2 ^ 64) (_ : j < 64) : (orW p q).testBit j = (p.testBit j || q.testBit j) := by
  unfold orW; rw [Nat.testBit_or]
theorem lessW_test (p q j : Nat) (_ : p < 2 ^ 64) (hq : q < 2 ^ 64) (hj : j < 64) : (lessW p q).testBit j = (p.testBit j && !q.testBit j) := by
  have e : 18446744073709551615 - q = 2 ^ 64 - (q + 1) := by omega
  unfold lessW; rw [Nat.testBit_and, e, Nat.testBit_two_pow_sub_succ hq]; simp [hj]

theorem and_may {n : Int} {a b : List Nat} (h : sChk2 n a b = 0) (ha : W64 a) (hb : W64 b) : sChk n (joinIf andW n a b) = 0 ∧ (joinIf andW n a b).length = a.length ∧ ∀ i, there (joinIf andW n a b) i = (there a i && there b i) :=
  join_may (r := fun x y => x && y) andW_test andW_fit rfl h ha hb
theorem or_may {n : Int} {a b : List Nat} (h : sChk2 n a b = 0) (ha : W64 a) (hb : W64 b) : sChk n (joinIf orW n a b) = 0 ∧ (joinIf orW n a b).length = a.length ∧ ∀ i, there (joinIf orW n a b) i = (there a i || there b i) :=
  join_may (r := fun x y => x || y) orW_test orW_fit rfl h ha hb
theorem less_may {n : Int} {a b : List Nat} (h : sChk2 n a b = 0) (ha : W64 a) (hb : W64 b) : sChk n (joinIf lessW n a b) = 0 ∧ (joinIf lessW n a b).length = a.length ∧ ∀ i, there (joinIf lessW n a b) i = (there a i && !there b i) :=
  join_may (r := fun x y => x && !y) lessW_test lessW_fit rfl h ha hb

theorem sChk2_of {n : Int} {a b : List Nat} (h1 : sChk n a = 0) (h2 : sChk n b = 0) : sChk2 n a b = 0 := by
  unfold sChk2; rw [if_pos h1]; exact h2
theorem there_zeros (m i : Nat) : there (List.replicate m 0) i = false := by
  have e : (List.replicate m 0).getD (i / 64) 0 = 0 := by
    rw [List.getD_eq_getElem?_getD, List.getElem?_replicate]; split <;> rfl
  simp only [there, e, bitOf_test]
  simp
theorem there_puts (m i : Nat) : ∀ (l : List Int) (ws : List Nat), ws.length = m → (∀ x ∈ l, 0 ≤ x ∧ x < 64 * (m : Int)) →
    there (l.foldl (fun ws x => putBit ws x.toNat) ws) i = (there ws i || decide ((i : Int) ∈ l))
  | [], ws, _, _ => by simp
  | x :: l, ws, hl, h => by
    have hx := h x (List.mem_cons_self ..)
    rw [List.foldl_cons, there_puts m i l _ (by rw [putBit_len]; exact hl) (fun y hy => h y (List.mem_cons_of_mem _ hy)), there_putBit (by omega), Bool.or_assoc]
    congr 1
    rw [Bool.eq_iff_iff]
    simp only [Bool.or_eq_true, decide_eq_true_eq, List.mem_cons]
    constructor
    · rintro (h1 | h1)
      · left; omega
      · exact .inr h1
    · rintro (h1 | h1)
      · left; omega
      · exact .inr h1
theorem there_bitsOf {m : Nat} {l : List Int} (h : ∀ x ∈ l, 0 ≤ x ∧ x < 64 * (m : Int)) (i : Nat) : there (bitsOf m l) i = decide ((i : Int) ∈ l) := by
  unfold bitsOf
  rw [there_puts m i l _ (by simp) h, there_zeros, Bool.false_or]

theorem nWords_le {n : Int} (hn : nMay n) : n ≤ 64 * (nWords n : Int) := by unfold nMay at hn; unfold nWords; omega

theorem anyNZ_at {ws : List Nat} (hw : W64 ws) : anyNZ ws = true ↔ ∃ i, i < 64 * ws.length ∧ there ws i = true := by
  unfold anyNZ
  rw [List.any_eq_true]
  constructor
  · rintro ⟨x, hx, h⟩
    obtain ⟨k, hk, rfl⟩ := List.mem_iff_getElem.1 hx
    have hne : ws[k] ≠ 0 := by simpa using h
    obtain ⟨j, hj⟩ := Nat.exists_testBit_of_ne_zero hne
    have hlt := hw _ hx
    have hj64 : j < 64 := by
      rcases Nat.lt_or_ge j 64 with h | h
      · exact h
      · have hf := Nat.testBit_lt_two_pow (Nat.lt_of_lt_of_le hlt (Nat.pow_le_pow_right (by decide) h : 2 ^ 64 ≤ 2 ^ j))
        rw [hf] at hj; exact absurd hj (by decide)
    refine ⟨64 * k + j, by omega, ?_⟩
    rw [there_in (by omega), bitOf_test]
    simp only [show (64 * k + j) / 64 = k by omega, show (64 * k + j) % 64 = j by omega]
    exact hj
  · rintro ⟨i, hi, ht⟩
    have hk : i / 64 < ws.length := by omega
    rw [there_in hk, bitOf_test] at ht
    refine ⟨ws[i / 64], List.getElem_mem hk, ?_⟩
    rw [decide_eq_true_eq]
    intro e
    rw [e, Nat.zero_testBit] at ht
    exact absurd ht (by decide)
end
end
end Go.Proofs.Ytofoenlhbmammaa
