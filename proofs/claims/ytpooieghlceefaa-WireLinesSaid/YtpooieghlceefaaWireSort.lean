/- WIRES, THE PLAIN LAW: the cables of a run, sorted, are those that are taken, rising. -/
import Derived.Test.YtpooieghlceefaaRun2
import Derived.Test.YtpooieghlceefaaRise
namespace Go.Proofs.Ytpooieghlceefaa
open Go.RowKit Go.Shelf

/-- Is a midplane among the first ones on? -/
def V3.amongTo (d : V3) (k : Nat) (m : Int) (i : Nat) (o : Int) : Bool := (List.range i).any (fun (j : Nat) => decide (d.step m k (j : Int) = o))
theorem V3.amongTo_zero (d : V3) (k : Nat) (m o : Int) : d.amongTo k m 0 o = false := rfl
theorem V3.amongTo_succ (d : V3) (k : Nat) (m : Int) (i : Nat) (o : Int) : d.amongTo k m (i + 1) o = (d.amongTo k m i o || decide (d.step m k (i : Int) = o)) := by simp [V3.amongTo, List.range_succ]
theorem V3.amongTo_hit {d : V3} {k : Nat} {m : Int} {i : Nat} {many : Nat} {o : Int} (hi : i < many) (h : d.step m k (i : Int) = o) : d.amongTo k m many o = true := by
  rw [V3.amongTo, List.any_eq_true]
  exact ⟨i, List.mem_range.2 hi, decide_eq_true h⟩
/-- The cables of those that are among, of the midplanes below a number. -/
def V3.takenTo (d : V3) (k : Nat) (m : Int) (many j : Nat) : List Int := ((List.range j).filter (fun (o : Nat) => d.amongTo k m many (o : Int))).map (fun (o : Nat) => (k : Int) * d.n + (o : Int))
theorem V3.takenTo_succ (d : V3) (k : Nat) (m : Int) (many j : Nat) : d.takenTo k m many (j + 1) = if d.amongTo k m many (j : Int) = true then d.takenTo k m many j ++ [(k : Int) * d.n + (j : Int)] else d.takenTo k m many j := by
  simp only [V3.takenTo, List.range_succ, List.filter_append, List.filter_cons, List.filter_nil, List.map_append]
  split <;> simp
theorem V3.takenTo_len (d : V3) (k : Nat) (m : Int) (many j : Nat) : (d.takenTo k m many j).length ≤ j := by
  have := List.length_filter_le (fun (o : Nat) => d.amongTo k m many (o : Int)) (List.range j)
  simpa [V3.takenTo] using this
def V3.taken (d : V3) (k : Nat) (m : Int) (many : Nat) : List Int := if d.at k ≤ 1 then [] else d.takenTo k m many d.n.toNat
theorem V3.takenTo_rise (d : V3) (k : Nat) (m : Int) (many j : Nat) : (d.takenTo k m many j).Pairwise (· < ·) := by
  refine List.Pairwise.map _ (R := fun a b : Nat => a < b) (fun a b h => by omega) ?_
  exact List.Pairwise.filter _ List.pairwise_lt_range
theorem V3.mem_takenTo {d : V3} {k : Nat} {m : Int} {many j : Nat} {x : Int} : x ∈ d.takenTo k m many j ↔ ∃ o : Nat, o < j ∧ d.amongTo k m many (o : Int) = true ∧ (k : Int) * d.n + (o : Int) = x := by
  simp only [V3.takenTo, List.mem_map, List.mem_filter, List.mem_range]
  constructor
  · rintro ⟨o, ⟨h1, h2⟩, h3⟩; exact ⟨o, h1, h2, h3⟩
  · rintro ⟨o, h1, h2, h3⟩; exact ⟨o, ⟨h1, h2⟩, h3⟩
/-- Steps on are different below the ring's length. -/
theorem V3.step_inj {d : V3} {m : Int} {k : Nat} (hd : d.may) (h0 : 0 ≤ m) (h1 : m < d.n) (hk : k < 3) {i j : Nat} (hi : (i : Int) < d.at k) (hj : (j : Int) < d.at k) (h : d.step m k i = d.step m k j) : i = j := by
  have e := congrArg d.pos h
  unfold V3.step at e
  rw [V3.pos_num hd (V3.stepped_inside hd h0 h1 hk i), V3.pos_num hd (V3.stepped_inside hd h0 h1 hk j)] at e
  have key : ∀ p n : Int, 0 < n → (i : Int) < n → (j : Int) < n → (p + i) % n = (p + j) % n → i = j := by
    intro p n hn hi hj he
    have h2 : ((i : Int) - j) % n = 0 := by
      have := Int.emod_emod_of_dvd (p + i - (p + j)) (Int.dvd_refl n)
      have h3 : (p + i - (p + j)) % n = 0 := Int.emod_eq_emod_iff_emod_sub_eq_zero.1 he
      rwa [show p + (i : Int) - (p + j) = i - j by omega] at h3
    obtain ⟨c, hc⟩ := Int.dvd_of_emod_eq_zero h2
    have : c = 0 := by
      rcases Int.lt_trichotomy c 0 with hc0 | hc0 | hc0
      · have := Int.mul_le_mul_of_nonneg_left (show c ≤ -1 by omega) (show 0 ≤ n by omega); omega
      · exact hc0
      · have := Int.mul_le_mul_of_nonneg_left (show 1 ≤ c by omega) (show 0 ≤ n by omega); omega
    subst this
    omega
  unfold V3.stepped V3.put at e
  unfold V3.may at hd
  match k, hk with
  | 0, _ => exact key _ d.x (by omega) hi hj (congrArg V3.x e)
  | 1, _ => exact key _ d.y (by omega) hi hj (congrArg V3.y e)
  | 2, _ => exact key _ d.z (by omega) hi hj (congrArg V3.z e)
theorem V3.links_nodup {d : V3} {m : Int} {k many : Nat} (hd : d.may) (h0 : 0 ≤ m) (h1 : m < d.n) (hk : k < 3) (hm : (many : Int) ≤ d.at k) : (d.links k m many).Nodup := by
  unfold V3.links
  refine List.pairwise_map.2 (List.Pairwise.imp_of_mem ?_ (List.nodup_range (n := many)))
  intro a b ha hb hne h
  rw [List.mem_range] at ha hb
  exact hne (V3.step_inj hd h0 h1 hk (by omega) (by omega) (by omega))
theorem V3.step_in {d : V3} {m : Int} {k : Nat} (hd : d.may) (h0 : 0 ≤ m) (h1 : m < d.n) (hk : k < 3) (i : Int) : 0 ≤ d.step m k i ∧ d.step m k i < d.n := V3.num_lt hd (V3.stepped_inside hd h0 h1 hk i)
theorem V3.mem_links {d : V3} {k : Nat} {m : Int} {many : Nat} {x : Int} : x ∈ d.links k m many ↔ ∃ i : Nat, i < many ∧ (k : Int) * d.n + d.step m k i = x := by
  simp only [V3.links, List.mem_map, List.mem_range]
theorem V3.links_taken {d : V3} {m : Int} {k many : Nat} (hd : d.may) (h0 : 0 ≤ m) (h1 : m < d.n) (hk : k < 3) (hm : (many : Int) ≤ d.at k) : sorted (d.links k m many) = d.takenTo k m many d.n.toNat := by
  refine rise_ext (sorted_rise (V3.links_nodup hd h0 h1 hk hm)) (V3.takenTo_rise d k m many _) (fun x => ?_)
  refine ((List.mergeSort_perm _ _).mem_iff).trans ?_
  rw [V3.mem_links, V3.mem_takenTo]
  constructor
  · rintro ⟨i, hi, rfl⟩
    have hs := V3.step_in hd h0 h1 hk i
    exact ⟨(d.step m k i).toNat, by omega, V3.amongTo_hit hi (by omega), by omega⟩
  · rintro ⟨o, ho, ha, rfl⟩
    rw [V3.amongTo, List.any_eq_true] at ha
    obtain ⟨i, hi, he⟩ := ha
    exact ⟨i, List.mem_range.1 hi, by rw [of_decide_eq_true he]⟩
end Go.Proofs.Ytpooieghlceefaa
