/- SETS: what calls say, in short; counts of what is joined. -/
import Derived.Test.YthabpiphfaedaaaDoorSetPlain
namespace Go.Proofs.YthabpiphfaedaaaDoor
open Go.RowKit Go.Shelf

/-- What a call of Has says of a set. -/
def SaysHas (n k : Int) (ws : List Nat) (x : Bool) (e : Int) : Prop := ∀ (W : World) (b : Option Addr) (c : Nat), SetIn W b ws → Calls Tryd.prog 22 #[.int .i64 n, .slice b ws.length c, .int .i64 k] W (RB W (.tuple #[.bool x, .int .i64 e]))
/-- What a call of Many says of a set. -/
def SaysMany (n : Int) (ws : List Nat) (m e : Int) : Prop := ∀ (W : World) (b : Option Addr) (c : Nat), SetIn W b ws → Calls Tryd.prog 31 #[.int .i64 n, .slice b ws.length c] W (RB W (.tuple #[.int .i64 m, .int .i64 e]))
/-- What a call of And, Or, Less says of two. -/
def SaysJoin (f : Nat) (n : Int) (a b ws : List Nat) (e : Int) : Prop := ∀ (W : World) (ba bb : Option Addr) (ca cb : Nat), SetIn W ba a → SetIn W bb b → Calls Tryd.prog f #[.int .i64 n, .slice ba a.length ca, .slice bb b.length cb] W (RUE W ws e)
/-- What a call of Meet, In says of two. -/
def SaysTwo (f : Nat) (n : Int) (a b : List Nat) (x : Bool) (e : Int) : Prop := ∀ (W : World) (ba bb : Option Addr) (ca cb : Nat), SetIn W ba a → SetIn W bb b → Calls Tryd.prog f #[.int .i64 n, .slice ba a.length ca, .slice bb b.length cb] W (RB W (.tuple #[.bool x, .int .i64 e]))
theorem saysHas (n k : Int) (ws : List Nat) : SaysHas n k ws (hasV n ws k) (sChk n ws) := fun W b c h => set_Has n b c ws k W h
theorem saysMany (n : Int) (ws : List Nat) : SaysMany n ws (manyV n ws) (sChk n ws) := fun W b c h => set_Many n b c ws W h
theorem saysAnd (n : Int) (a b : List Nat) : SaysJoin 60 n a b (joinIf andW n a b) (sChk2 n a b) := fun W ba bb ca cb ha hb => set_And n ba bb ca cb a b W ha hb
theorem saysOr (n : Int) (a b : List Nat) : SaysJoin 25 n a b (joinIf orW n a b) (sChk2 n a b) := fun W ba bb ca cb ha hb => set_Or n ba bb ca cb a b W ha hb
theorem saysLess (n : Int) (a b : List Nat) : SaysJoin 29 n a b (joinIf lessW n a b) (sChk2 n a b) := fun W ba bb ca cb ha hb => set_Less n ba bb ca cb a b W ha hb
theorem saysMeet (n : Int) (a b : List Nat) : SaysTwo 26 n a b (anyNZ (joinIf andW n a b)) (sChk2 n a b) := fun W ba bb ca cb ha hb => set_Meet n ba bb ca cb a b W ha hb
theorem saysIn (n : Int) (a b : List Nat) : SaysTwo 19 n a b (decide (sChk2 n a b = 0) && !anyNZ (joinIf lessW n a b)) (sChk2 n a b) := fun W ba bb ca cb ha hb => set_In n ba bb ca cb a b W ha hb

theorem anyNZ_bits {ws : List Nat} (hw : W64 ws) : anyNZ ws = true ↔ ∃ i, i < 64 * ws.length ∧ there ws i = true := by
  unfold anyNZ
  rw [List.any_eq_true]
  constructor
  · rintro ⟨x, hx, h⟩
    obtain ⟨k, hk, rfl⟩ := List.mem_iff_getElem.1 hx
    have hne : ws[k] ≠ 0 := by simpa using h
    obtain ⟨j, hj⟩ := Nat.exists_testBit_of_ne_zero hne
    have hlt := hw _ hx
    have hj64 : j < 64 := by
      rcases Nat.lt_or_ge j 64 with h | h
      · exact h
      · have hf := Nat.testBit_lt_two_pow (Nat.lt_of_lt_of_le hlt (Nat.pow_le_pow_right (by decide) h : 2 ^ 64 ≤ 2 ^ j))
        rw [hf] at hj; exact absurd hj (by decide)
    refine ⟨64 * k + j, by omega, ?_⟩
    rw [there_in (by omega), bitOf_test]
    simp only [show (64 * k + j) / 64 = k by omega, show (64 * k + j) % 64 = j by omega]
    exact hj
  · rintro ⟨i, hi, ht⟩
    have hk : i / 64 < ws.length := by omega
    rw [there_in hk, bitOf_test] at ht
    refine ⟨ws[i / 64], List.getElem_mem hk, ?_⟩
    rw [decide_eq_true_eq]
    intro e
    rw [e, Nat.zero_testBit] at ht
    exact absurd ht (by decide)

theorem anyNZ_many {n : Int} {ws : List Nat} (hw : W64 ws) (h : sChk n ws = 0) : anyNZ ws = decide (0 < manyV n ws) := by
  rw [Bool.eq_iff_iff, anyNZ_bits hw, decide_eq_true_iff, manyV, if_pos h]
  constructor
  · rintro ⟨i, hi, ht⟩
    have := List.length_pos_of_mem (mem_nums.2 ⟨i, rfl, hi, ht⟩)
    omega
  · intro hl
    have hl' : 0 < (nums ws).length := by omega
    obtain ⟨k, _, h1, h2⟩ := mem_nums.1 (List.getElem_mem hl')
    exact ⟨k, h1, h2⟩

theorem count_two {p q r s : List Nat} (h : ∀ i, (if there p i then 1 else 0) + (if there q i then 1 else 0) = (if there r i then 1 else 0) + (if there s i then (1 : Nat) else 0)) (k : Nat) :
    (numsTo p k).length + (numsTo q k).length = (numsTo r k).length + (numsTo s k).length := by
  induction k with
  | zero => simp [numsTo]
  | succ k ih =>
    have := h k
    simp only [numsTo_succ]
    split <;> split <;> split <;> split <;> simp_all <;> omega
end Go.Proofs.YthabpiphfaedaaaDoor
