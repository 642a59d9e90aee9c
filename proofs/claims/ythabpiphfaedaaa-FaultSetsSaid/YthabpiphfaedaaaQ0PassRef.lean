/- REF 06, THE PLAIN LAW: the midplanes that are passed, found number by number; places apart, by the numbers of their sets. -/
import Derived.Test.YthabpiphfaedaaaQ0PlApart
import Derived.Test.YthabpiphfaedaaaQ0PlPass
import Derived.Test.YthabpiphfaedaaaQ0ScoreA
import Derived.Test.YthabpiphfaedaaaQ0SetRef
namespace Go.Proofs.Ythabpiphfaedaaa

section
open Go.RowKit Go.Shelf

def sideIn (d : V3) (p : Pl) (m : Int) (k : Nat) : Bool := decide (1 < d.at k) && (hasI (linksV d p) (k * d.n + m) || hasI (linksV d p) (k * d.n + d.step m k (-1)))
def endR (d : V3) (p : Pl) (m : Int) (k : Nat) : Bool := (List.range k).any (sideIn d p m)
def refP (d : V3) (p : Pl) (m : Int) : Bool := endR d p m 3 && !hasI (midsV d p) m
def passR (d : V3) (p : Pl) (j : Nat) : List Int := ((List.range j).filter (fun i => refP d p ((i : Nat) : Int))).map (fun i => ((i : Nat) : Int))
theorem endR_succ (d : V3) (p : Pl) (m : Int) (k : Nat) : endR d p m (k + 1) = (endR d p m k || sideIn d p m k) := by unfold endR; rw [List.range_succ, List.any_append]; simp
theorem passR_succ (d : V3) (p : Pl) (j : Nat) : passR d p (j + 1) = passR d p j ++ (if refP d p (j : Int) then [(j : Int)] else []) := by
  unfold passR
  rw [List.range_succ, List.filter_append, List.map_append]
  congr 1
  cases h : refP d p (j : Int) <;> simp [h]
theorem passR_len (d : V3) (p : Pl) (j : Nat) : (passR d p j).length ≤ j := by
  unfold passR
  rw [List.length_map]
  exact Nat.le_trans (List.length_filter_le _ _) (by simp)
theorem passR_rise (d : V3) (p : Pl) (j : Nat) : (passR d p j).Pairwise (· < ·) := by
  unfold passR
  rw [List.pairwise_map]
  exact ((List.pairwise_lt_range (n := j)).filter _).imp (fun h => by omega)
theorem mem_passR {d : V3} {p : Pl} {j : Nat} {x : Int} : x ∈ passR d p j ↔ (0 ≤ x ∧ x < j) ∧ refP d p x = true := by
  unfold passR
  simp only [List.mem_map, List.mem_filter, List.mem_range]
  constructor
  · rintro ⟨i, ⟨h1, h2⟩, rfl⟩; exact ⟨⟨by omega, by omega⟩, h2⟩
  · rintro ⟨h1, h2⟩; exact ⟨x.toNat, ⟨by omega, by rw [Int.toNat_of_nonneg h1.1]; exact h2⟩, Int.toNat_of_nonneg h1.1⟩
theorem hasI_links {d : V3} {p : Pl} (h : PlFacts d p) {x : Int} (h0 : 0 ≤ x) : hasI (linksV d p) x = decide (x ∈ cabsV d p) := by
  obtain ⟨i, rfl⟩ : ∃ i : Nat, x = (i : Int) := ⟨x.toNat, by omega⟩
  rw [hasI_nat, h.lAt]
theorem hasI_mids {d : V3} {p : Pl} (h : PlFacts d p) {x : Int} (h0 : 0 ≤ x) : hasI (midsV d p) x = decide (x ∈ p.b.all d) := by
  obtain ⟨i, rfl⟩ : ∃ i : Nat, x = (i : Int) := ⟨x.toNat, by omega⟩
  rw [hasI_nat, h.mAt]
theorem endR_iff {d : V3} {p : Pl} (h : PlFacts d p) {m : Int} (hm : 0 ≤ m ∧ m < d.n) : endR d p m 3 = true ↔ ∃ c, c ∈ cabsV d p ∧ (m = d.endM c ∨ m = d.endT c) := by
  have hd := h.may
  have hb := h.box
  have hn := V3.n_pos hd
  unfold endR
  rw [List.any_eq_true]
  constructor
  · rintro ⟨k, hk, hs⟩
    have hk3 := List.mem_range.1 hk
    unfold sideIn at hs
    rw [Bool.and_eq_true, decide_eq_true_iff, Bool.or_eq_true] at hs
    obtain ⟨h1, hs⟩ := hs
    have hkn : (0 : Int) ≤ (k : Int) * d.n := Int.mul_nonneg (by omega) (by omega)
    rcases hs with hs | hs
    · rw [hasI_links h (by omega), decide_eq_true_iff] at hs
      exact ⟨_, hs, .inl (ends_of hd hk3 hm (by omega)).2.1.symm⟩
    · have hq := V3.st_in hd hm.1 hm.2 hk3 (-1)
      rw [hasI_links h (by omega), decide_eq_true_iff] at hs
      refine ⟨_, hs, .inr ?_⟩
      rw [(ends_of hd hk3 hq (by omega)).2.2]
      have := V3.st_back hd hm.1 hm.2 hk3 (-1)
      rw [show (-(-1) : Int) = 1 by rfl] at this
      exact this.symm
  · rintro ⟨c, hc, he⟩
    obtain ⟨k, q, hk, hq, rfl, hl⟩ := (mem_cabsV hd hb c).1 hc
    obtain ⟨_, e2, e3⟩ := ends_of hd hk hq (lk_at hb hk hl)
    have hkn : (0 : Int) ≤ (k : Int) * d.n := Int.mul_nonneg (by omega) (by omega)
    have h1 := lk_at hb hk hl
    have h2 : 1 ≤ d.at k := by have := (Bx.may_at.1 hb k hk).1; omega
    refine ⟨k, List.mem_range.2 hk, ?_⟩
    unfold sideIn
    rw [Bool.and_eq_true, decide_eq_true_iff, Bool.or_eq_true]
    refine ⟨by omega, ?_⟩
    rcases he with rfl | rfl
    · rw [e2]
      left
      rw [hasI_links h (by omega), decide_eq_true_iff]
      exact hc
    · rw [e3]
      right
      have hb2 := V3.st_back hd hq.1 hq.2 hk 1
      rw [hb2, hasI_links h (by omega), decide_eq_true_iff]
      exact hc
theorem passR_all {d : V3} {p : Pl} (hz : plChk d p = 0) : passR d p d.n.toNat = passV d p := by
  have h := pl_facts hz
  have hd := h.may
  have hb := h.box
  have hn := V3.n_pos hd
  obtain ⟨f1, f2, _⟩ := pass_facts hz
  have hv : passV d p = Lib.compact (sorted (outsOf d p (cabsV d p))) := if_pos hz
  have r2 := (compact_rise (show (sorted (outsOf d p (cabsV d p))).Pairwise (· ≤ ·) from sorted_le _)).2
  have hmem : ∀ x, x ∈ passV d p ↔ x ∉ p.b.all d ∧ ∃ c, c ∈ cabsV d p ∧ (x = d.endM c ∨ x = d.endT c) := fun x => by rw [hv, r2, mem_sorted, mem_outs]
  refine rise_ext (passR_rise _ _ _) f1 (fun x => ?_)
  rw [mem_passR]
  constructor
  · rintro ⟨hx, hr⟩
    have hx' : 0 ≤ x ∧ x < d.n := by omega
    unfold refP at hr
    rw [Bool.and_eq_true, hasI_mids h hx'.1, endR_iff h hx'] at hr
    refine (hmem x).2 ⟨?_, hr.1⟩
    intro hin
    have := hr.2
    rw [decide_eq_true hin] at this
    cases this
  · intro hx
    have hx' := (f2 x hx).1
    obtain ⟨h1, h2⟩ := (hmem x).1 hx
    refine ⟨by omega, ?_⟩
    unfold refP
    rw [Bool.and_eq_true, hasI_mids h hx'.1, endR_iff h hx', decide_eq_false h1]
    exact ⟨h2, rfl⟩
theorem apart_hit {d : V3} {p q : Pl} (hp : plChk d p = 0) (hq : plChk d q = 0) :
    apartB d p q = (!hit true (nums (midsV d p)) (midsV d q) && !hit true (nums (linksV d p)) (linksV d q)) := by
  have h1 := pl_facts hp
  have h2 := pl_facts hq
  unfold apartB
  rw [meet_eq _ (midsV_fit d p) (midsV_fit d q), meet_eq _ (linksV_fit d p) (linksV_fit d q)]
  unfold refHit
  rw [if_pos (sChk2_of h1.mChk h2.mChk), if_pos (sChk2_of h1.lChk h2.lChk)]
end
end Go.Proofs.Ythabpiphfaedaaa
