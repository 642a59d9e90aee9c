/- WireRuns, THE PLAIN LAW. -/
import Derived.Test.YtpooieghlceefaaIntsOwn
namespace Go.Proofs.Ytpooieghlceefaa

theorem V3.run_len {d : V3} (axis m long : Int) (torus : Bool) : (d.runV axis m long torus).length ≤ 16 := by
  unfold V3.runV
  split
  · next h =>
    have h1 : d.askE axis m = 0 := by
      have := h.1
      unfold V3.runE at this
      split at this
      · assumption
      · next h2 => exact absurd this h2
    have h2 : long ≤ d.at axis.toNat := by
      have := h.1
      rw [V3.runE, if_pos h1] at this
      split at this
      · next h => exact h.2
      · cases this
    obtain ⟨hd, hr, _⟩ := V3.askE_0 h1
    rw [sorted_len, V3.links_len]
    unfold V3.may at hd
    have hc : axis = 0 ∨ axis = 1 ∨ axis = 2 := by omega
    rcases hc with rfl | rfl | rfl
    · change long ≤ d.x at h2
      cases torus
      · show (long - 1).toNat ≤ 16; omega
      · show (d.x).toNat ≤ 16; omega
    · change long ≤ d.y at h2
      cases torus
      · show (long - 1).toNat ≤ 16; omega
      · show (d.y).toNat ≤ 16; omega
    · change long ≤ d.z at h2
      cases torus
      · show (long - 1).toNat ≤ 16; omega
      · show (d.z).toNat ≤ 16; omega
  · exact Nat.zero_le _
theorem at_le5 {d : V3} {k : Nat} (hd : d.may) (hk : k < 3) : 1 ≤ d.at k ∧ d.at k ≤ 16 := by
  unfold V3.may at hd
  match k, hk with
  | 0, _ => exact hd.1
  | 1, _ => exact hd.2.1
  | 2, _ => exact hd.2.2
/-- What a run and its line are to each other. -/
structure RunFacts (d : V3) (k : Nat) (m long : Int) : Prop where
  ma : (((d.runV k m long false).length : Nat) : Int) = long - 1
  one : long = 1 → d.runV k m long false = [] ∧ d.runV k m long true = []
  line : 1 < long → d.runV k m long true = d.lineV k m
  sub : ∀ x, x ∈ d.runV k m long false → x ∈ d.lineV k m
  more : long < d.at k → d.runE k m (long + 1) = 0 ∧ ∀ x, x ∈ d.runV k m long false → x ∈ d.runV k m (long + 1) false
  last : ¬ long < d.at k → d.runE k m (long + 1) = 2
theorem run_facts {d : V3} {k : Nat} {m long : Int} (hk : k < 3) (h : d.runE k m long = 0) : d.askE k m = 0 ∧ RunFacts d k m long := by
  have ha : d.askE k m = 0 := by
    have := h
    unfold V3.runE at this
    split at this
    · assumption
    · next h2 => exact absurd this h2
  have hn : ((k : Int)).toNat = k := by omega
  have hl : 1 ≤ long ∧ long ≤ d.at k := by
    have := h
    rw [V3.runE, if_pos ha, hn] at this
    split at this
    · assumption
    · cases this
  have hf : 1 < long → d.runV k m long false = sorted (d.links k m (long - 1).toNat) := fun h1 => by rw [V3.runV, hn, if_pos ⟨h, h1⟩]; rfl
  have hl2 : 1 < long → d.lineV k m = sorted (d.links k m (d.at k).toNat) := fun h1 => by rw [V3.lineV, hn, if_pos ⟨ha, by omega⟩]
  have hone : long = 1 → ∀ t, d.runV k m long t = [] := fun h1 t => if_neg (by omega)
  have hms : ∀ (many : Nat) x, x ∈ sorted (d.links k m many) ↔ ∃ i : Nat, i < many ∧ (k : Int) * d.n + d.step m k i = x := fun many x => ((List.mergeSort_perm _ _).mem_iff).trans (by simp only [V3.links, List.mem_map, List.mem_range])
  refine ⟨ha, ⟨?_, fun h1 => ⟨hone h1 _, hone h1 _⟩, fun h1 => ?_, fun x hx => ?_, fun h1 => ⟨?_, fun x hx => ?_⟩, fun h1 => ?_⟩⟩
  · by_cases h1 : long = 1
    · rw [hone h1]; simp; omega
    · rw [hf (by omega), sorted_len, V3.links_len]; omega
  · rw [hl2 h1, V3.runV, hn, if_pos ⟨h, h1⟩]; rfl
  · by_cases h1 : long = 1
    · rw [hone h1] at hx; cases hx
    · rw [hf (by omega), hms] at hx
      rw [hl2 (by omega), hms]
      obtain ⟨i, hi, e⟩ := hx
      exact ⟨i, by omega, e⟩
  · rw [V3.runE, if_pos ha, hn, if_pos (by omega)]
  · by_cases h2 : long = 1
    · rw [hone h2] at hx; cases hx
    · rw [hf (by omega), hms] at hx
      have hE : d.runE k m (long + 1) = 0 := by rw [V3.runE, if_pos ha, hn, if_pos (by omega)]
      rw [show d.runV k m (long + 1) false = sorted (d.links k m (long + 1 - 1).toNat) by rw [V3.runV, hn, if_pos ⟨hE, by omega⟩]; rfl, hms]
      obtain ⟨i, hi, e⟩ := hx
      exact ⟨i, by omega, e⟩
  · rw [V3.runE, if_pos ha, hn, if_neg (by omega)]
end Go.Proofs.Ytpooieghlceefaa
