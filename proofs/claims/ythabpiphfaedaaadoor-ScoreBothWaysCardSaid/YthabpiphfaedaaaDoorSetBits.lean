/- SETS: a bit more; the set of those of which something holds. -/
import Derived.Test.YthabpiphfaedaaaDoorSet4
namespace Go.Proofs.YthabpiphfaedaaaDoor
open Go.RowKit Go.Shelf

/-- A word with one bit more. -/
def putBit (ws : List Nat) (k : Nat) : List Nat := ws.set (k / 64) (ws.getD (k / 64) 0 ||| 2 ^ (k % 64))
/-- The set of those below k of which something holds. -/
def fillTo (m : Nat) (p : Nat → Bool) : Nat → List Nat
  | 0 => List.replicate m 0
  | k + 1 => if p k then putBit (fillTo m p k) k else fillTo m p k
theorem putBit_len (ws : List Nat) (k : Nat) : (putBit ws k).length = ws.length := by simp [putBit]
theorem fillTo_len (m : Nat) (p : Nat → Bool) (k : Nat) : (fillTo m p k).length = m := by
  induction k with
  | zero => simp [fillTo]
  | succ k ih => simp only [fillTo]; split <;> simp [putBit_len, ih]
theorem putBit_fit {ws : List Nat} {k : Nat} (h : W64 ws) : W64 (putBit ws k) := by
  intro x hx
  unfold putBit at hx
  rcases List.mem_or_eq_of_mem_set hx with hm | rfl
  · exact h x hm
  · have h1 : ws.getD (k / 64) 0 < 2 ^ 64 := by
      by_cases hk : k / 64 < ws.length
      · have := h _ (List.getElem_mem hk); simpa [hk] using this
      · rw [List.getD_eq_getElem?_getD, List.getElem?_eq_none (by omega)]; decide
    exact Nat.or_lt_two_pow h1 (Nat.pow_lt_pow_right (by decide) (by omega))
theorem fillTo_fit (m : Nat) (p : Nat → Bool) (k : Nat) : W64 (fillTo m p k) := by
  induction k with
  | zero => intro x hx; simp [fillTo] at hx; omega
  | succ k ih => simp only [fillTo]; split; exact putBit_fit ih; exact ih
theorem there_putBit {ws : List Nat} {k i : Nat} (h : k / 64 < ws.length) : there (putBit ws k) i = (there ws i || decide (i = k)) := by
  unfold there putBit
  simp only [bitOf_test]
  by_cases hw : i / 64 = k / 64
  · rw [hw, show (ws.set (k / 64) (ws.getD (k / 64) 0 ||| 2 ^ (k % 64))).getD (k / 64) 0 = ws.getD (k / 64) 0 ||| 2 ^ (k % 64) by simp [h], Nat.testBit_or, Nat.testBit_two_pow]
    congr 1
    rw [decide_eq_decide]
    omega
  · have : (ws.set (k / 64) (ws.getD (k / 64) 0 ||| 2 ^ (k % 64))).getD (i / 64) 0 = ws.getD (i / 64) 0 := by
      rw [List.getD_eq_getElem?_getD, List.getElem?_set_ne (Ne.symm hw), ← List.getD_eq_getElem?_getD]
    rw [this, show decide (i = k) = false from decide_eq_false (by intro e; exact hw (by rw [e])), Bool.or_false]
theorem there_fillTo (m : Nat) (p : Nat → Bool) (k i : Nat) (hk : k ≤ 64 * m) : there (fillTo m p k) i = (decide (i < k) && p i) := by
  induction k with
  | zero =>
    have e : (List.replicate m 0).getD (i / 64) 0 = 0 := by
      rw [List.getD_eq_getElem?_getD, List.getElem?_replicate]; split <;> rfl
    simp only [fillTo, there, e, bitOf_test]
    simp
  | succ k ih =>
    have ih := ih (by omega)
    simp only [fillTo]
    by_cases hp : p k = true
    · rw [if_pos hp, there_putBit (by rw [fillTo_len]; omega), ih]
      by_cases e : i = k
      · subst e; simp [hp]
      · simp [e, show (i < k + 1) = (i < k) by rw [eq_iff_iff]; omega]
    · rw [if_neg hp, ih]
      by_cases e : i = k
      · subst e; simp [hp]
      · simp [show (i < k + 1) = (i < k) by rw [eq_iff_iff]; omega]

/-- Two sets of as many words are one, if they have the same numbers. -/
theorem sets_ext {a b : List Nat} (hl : a.length = b.length) (ha : W64 a) (hb : W64 b) (h : ∀ i, i < 64 * a.length → there a i = there b i) : a = b := by
  apply List.ext_getElem hl
  intro j h1 h2
  apply Nat.eq_of_testBit_eq
  intro i
  by_cases hi : i < 64
  · have := h (64 * j + i) (by omega)
    rw [there_in (by omega : (64 * j + i) / 64 < a.length), there_in (by omega : (64 * j + i) / 64 < b.length)] at this
    simp only [bitOf_test, show (64 * j + i) / 64 = j by omega, show (64 * j + i) % 64 = i by omega] at this
    exact this
  · have p : 2 ^ 64 ≤ 2 ^ i := Nat.pow_le_pow_right (by decide) (by omega)
    rw [Nat.testBit_lt_two_pow (Nat.lt_of_lt_of_le (ha _ (List.getElem_mem h1)) p), Nat.testBit_lt_two_pow (Nat.lt_of_lt_of_le (hb _ (List.getElem_mem h2)) p)]

/-- The rule by which a number is in a set of two. -/
def rule (both first second x y : Bool) : Bool := x && y && both || x && !y && first || !x && y && second

theorem shl_bit (j : Nat) (h : j < 64) : IntKind.u64.wrap ((2 : Int) ^ j) = ((2 ^ j : Nat) : Int) := by
  rw [IntKind.wrap_u64]
  have h1 : (2 ^ j : Nat) < 18446744073709551616 := Nat.lt_of_lt_of_le (Nat.pow_lt_pow_right (by decide) h) (by decide)
  have e : ((2 : Int) ^ j) = ((2 ^ j : Nat) : Int) := by simp
  rw [e]
  generalize (2 ^ j : Nat) = q at *
  omega
end Go.Proofs.YthabpiphfaedaaaDoor
