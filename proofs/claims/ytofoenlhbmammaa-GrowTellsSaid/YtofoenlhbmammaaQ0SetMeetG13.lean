/- SET: met, within; REF 03. -/
import Derived.Test.YtofoenlhbmammaaQ0SetTwoG13
set_option linter.unusedVariables false
set_option linter.unusedSimpArgs false
namespace Go.Proofs.Ytofoenlhbmammaa

section
section
open Go.RowKit Go.Shelf

/-- Does one word, at the least, have a bit? -/
def anyNZ (ws : List Nat) : Bool := ws.any (fun x => decide (x ≠ 0))
def firstNZ (ws : List Nat) : Int := if anyNZ ws then ((ws.findIdx (fun x => decide (x ≠ 0)) : Nat) : Int) else -1

theorem any_take_succ {α : Type} {l : List α} {p : α → Bool} {k : Nat} (h : k < l.length) (h0 : (l.take k).any p = false) : (l.take (k + 1)).any p = p l[k] := by
  rw [List.take_succ_eq_append_getElem h, List.any_append, h0]; simp

/-- A closure that asks whether a word has a bit. -/
def AsksNZ (P : Program) (g : Nat) : Prop :=
  ∀ (x : Nat) (W : World), Calls P g #[.int .u64 (x : Int)] W fun e w' => e = .returned (.bool (decide (x ≠ 0))) ∧ w' = W

theorem firstNZ_ge (ws : List Nat) : decide (firstNZ ws ≥ 0) = anyNZ ws := by
  unfold firstNZ; cases anyNZ ws <;> simp

end

section
open Go.RowKit Go.Shelf

theorem set_of_own {W : World} {B : Nat} {v : Value} {ws : List Nat} (h : W.ownsRow B 48 1 v ws.length (wcells ws)) (hl : ws.length ≤ 4611686018427387904) (hf : W64 ws) :
    ∃ base cap, v = .slice base ws.length cap ∧ SetIn W base ws ∧ ws.length ≤ cap := by
  obtain ⟨base, cap, rfl, rd, hc⟩ := own_rd h
  exact ⟨base, cap, rfl, ⟨rd, hl, hf⟩, hc⟩

theorem mem_zipWith {f : Nat → Nat → Nat} {a b : List Nat} {x : Nat} (h : x ∈ List.zipWith f a b) : ∃ p ∈ a, ∃ q ∈ b, x = f p q := by
  obtain ⟨i, hi, rfl⟩ := List.mem_iff_getElem.1 h
  rw [List.length_zipWith] at hi
  exact ⟨a[i], List.getElem_mem _, b[i], List.getElem_mem _, by simp⟩
theorem zip_fit {f : Nat → Nat → Nat} {a b : List Nat} (hf : ∀ x y, x < 2 ^ 64 → y < 2 ^ 64 → f x y < 2 ^ 64) (ha : W64 a) (hb : W64 b) : W64 (List.zipWith f a b) := by
  intro x hx
  obtain ⟨p, hp, q, hq, rfl⟩ := mem_zipWith hx
  exact hf p q (ha p hp) (hb q hq)
theorem andW_fit (x y : Nat) (hx : x < 2 ^ 64) (_ : y < 2 ^ 64) : andW x y < 2 ^ 64 := Nat.lt_of_le_of_lt Nat.and_le_left hx
theorem orW_fit (x y : Nat) (hx : x < 2 ^ 64) (hy : y < 2 ^ 64) : orW x y < 2 ^ 64 := Nat.or_lt_two_pow hx hy
theorem lessW_fit (x y : Nat) (hx : x < 2 ^ 64) (_ : y < 2 ^ 64) : lessW x y < 2 ^ 64 := Nat.lt_of_le_of_lt Nat.and_le_left hx

/-- What is joined, if all may be. -/
def joinIf (f : Nat → Nat → Nat) (n : Int) (a b : List Nat) : List Nat := if sChk2 n a b = 0 then List.zipWith f a b else []
theorem joinIf_fit {f : Nat → Nat → Nat} {n : Int} {a b : List Nat} (hf : ∀ x y, x < 2 ^ 64 → y < 2 ^ 64 → f x y < 2 ^ 64) (ha : W64 a) (hb : W64 b) : W64 (joinIf f n a b) := by
  unfold joinIf; split
  · exact zip_fit hf ha hb
  · intro x hx; simp at hx
theorem joinIf_len {f : Nat → Nat → Nat} {n : Int} {a b : List Nat} : (joinIf f n a b).length ≤ a.length := by
  unfold joinIf; split
  · simp; omega
  · simp

end
end
end Go.Proofs.Ytofoenlhbmammaa
