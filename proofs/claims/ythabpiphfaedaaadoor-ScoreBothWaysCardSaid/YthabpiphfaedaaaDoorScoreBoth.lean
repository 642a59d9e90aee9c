/- SCORE, THE PLAIN LAW: how many open sides, or the error; one way and the other; toward two sets. -/
import Derived.Test.YthabpiphfaedaaaDoorScoreLaw
import Derived.Test.YthabpiphfaedaaaDoorSetPl0
namespace Go.Proofs.YthabpiphfaedaaaDoor
open Go.RowKit Go.Shelf

def openE (d : V3) (a b : List Nat) : Int := if d.may then (if sChk d.n a = 0 then (if sChk d.n b = 0 then 0 else 8) else 8) else 8
def openV (d : V3) (a b : List Nat) : Int := if openE d a b = 0 then (openTo d b (nums a) : Int) else 0
theorem openE_0 {d : V3} {a b : List Nat} (h : openE d a b = 0) : d.may ∧ sChk d.n a = 0 ∧ sChk d.n b = 0 := by
  unfold openE at h
  split at h
  · next h1 =>
    split at h
    · next h2 =>
      split at h
      · next h3 => exact ⟨h1, h2, h3⟩
      · omega
    · omega
  · omega
theorem openE_of {d : V3} {a b : List Nat} (h : d.may) (ha : sChk d.n a = 0) (hb : sChk d.n b = 0) : openE d a b = 0 := by unfold openE; rw [if_pos h, if_pos ha, if_pos hb]
theorem openE_08 (d : V3) (a b : List Nat) : openE d a b = 0 ∨ openE d a b = 8 := by
  unfold openE
  split
  · split
    · split <;> simp
    · simp
  · simp
theorem openE_comm (d : V3) (a b : List Nat) : openE d a b = openE d b a := by
  rcases openE_08 d a b with h | h
  · obtain ⟨h1, h2, h3⟩ := openE_0 h
    rw [h, openE_of h1 h3 h2]
  · rcases openE_08 d b a with h' | h'
    · obtain ⟨h1, h2, h3⟩ := openE_0 h'
      rw [openE_of h1 h3 h2] at h
      omega
    · rw [h, h']
theorem set_in {n : Int} {a : List Nat} (h : sChk n a = 0) (fa : W64 a) : ∀ i, there a i = true → i < n.toNat ∧ i < 64 * a.length := fun i hi => by
  constructor
  · rcases Nat.lt_or_ge i n.toNat with h1 | h1
    · exact h1
    · rw [topOut h fa h1] at hi; cases hi
  · rcases Nat.lt_or_ge i (64 * a.length) with h1 | h1
    · exact h1
    · rw [there_far (by omega)] at hi; cases hi
theorem openV_bits {d : V3} {a b : List Nat} (h : openE d a b = 0) (fa : W64 a) : openV d a b = openB d (there a) (there b) := by
  obtain ⟨h1, h2, h3⟩ := openE_0 h
  unfold openV
  rw [if_pos h, openTo_all h1 (set_in h2 fa)]
theorem openV_comm {d : V3} {a b : List Nat} (fa : W64 a) (fb : W64 b) : openV d a b = openV d b a := by
  rcases openE_08 d a b with h | h
  · have h' := h
    rw [openE_comm] at h'
    rw [openV_bits h fa, openV_bits h' fb, openB_turn (openE_0 h).1]
  · unfold openV
    rw [openE_comm d b a, h]
    rfl
/-- Toward two sets. -/
theorem open_two {d : V3} {a b c : List Nat} (fa : W64 a) (fb : W64 b) (fc : W64 c) (h1 : openE d a b = 0) (h2 : openE d a c = 0) :
    sChk d.n (joinIf orW d.n b c) = 0 ∧ openE d a (joinIf orW d.n b c) = 0 ∧ openV d a (joinIf orW d.n b c) ≤ openV d a b + openV d a c ∧
      (anyNZ (joinIf andW d.n b c) = false → openV d a (joinIf orW d.n b c) = openV d a b + openV d a c) := by
  obtain ⟨hd, ha, hb⟩ := openE_0 h1
  obtain ⟨_, _, hc⟩ := openE_0 h2
  have ho := or_may (sChk2_of hb hc) fb fc
  have hn := and_may (sChk2_of hb hc) fb fc
  have hE := openE_of hd ha ho.1
  refine ⟨ho.1, hE, ?_, fun hz => ?_⟩
  · rw [openV_bits hE fa, openV_bits h1 fa, openV_bits h2 fa]
    have := openB_or d (there a) (there b) (there c) (there (joinIf orW d.n b c)) ho.2.2
    omega
  · rw [openV_bits hE fa, openV_bits h1 fa, openV_bits h2 fa]
    have := openB_apart d (there a) (there b) (there c) (there (joinIf orW d.n b c)) ho.2.2 (fun i => by
      cases hi : (there b i && there c i) with
      | false => rfl
      | true =>
        have h3 : there (joinIf andW d.n b c) i = true := by rw [hn.2.2]; exact hi
        have h4 : anyNZ (joinIf andW d.n b c) = true := (anyNZ_at (joinIf_fit andW_fit fb fc)).2 ⟨i, (set_in hn.1 (joinIf_fit andW_fit fb fc) i h3).2, h3⟩
        rw [hz] at h4
        cases h4)
    omega
/-- Toward nothing. -/
theorem open_none {d : V3} {a : List Nat} (fa : W64 a) (hd : d.may) (ha : sChk d.n a = 0) : ofErr d.n [] = 0 ∧ sChk d.n (ofSet d.n []) = 0 ∧ openE d a (ofSet d.n []) = 0 ∧ openV d a (ofSet d.n []) = 0 := by
  have hm : nMay d.n := by
    have h := ha
    unfold sChk at h
    split at h
    · assumption
    · omega
  have he : ofErr d.n [] = 0 := by unfold ofErr; rw [if_pos hm, if_neg (by simp)]; rfl
  have hs : ofSet d.n [] = bitsOf (nWords d.n) [] := by unfold ofSet; rw [if_pos he]
  have ht : ∀ i, there (ofSet d.n []) i = false := fun i => by rw [hs, there_bitsOf (fun x hx => by cases hx)]; simp
  have hc : sChk d.n (ofSet d.n []) = 0 := by
    rw [hs]
    exact sChk_of hm (bitsOf_len _ _) (bitsOf_fit _ _) (fun i _ => by rw [there_bitsOf (fun x hx => by cases hx)]; simp)
  have hE := openE_of hd ha hc
  refine ⟨he, hc, hE, ?_⟩
  rw [openV_bits hE fa, openB_none d (there a) _ ht]
  rfl
end Go.Proofs.YthabpiphfaedaaaDoor
