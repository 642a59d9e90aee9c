/- WireLines, THE PLAIN LAW: a line's midplanes agree but along its axis. -/
import Derived.Test.YtpooieghlceefaaIntsOwn
import Derived.Test.YtpooieghlceefaaWireSort
namespace Go.Proofs.Ytpooieghlceefaa

theorem V3.num_back {d : V3} {m : Int} : d.num (d.pos m) = m := by
  unfold V3.num V3.pos
  have h1 := Int.emod_add_mul_ediv (m / d.x) d.y
  have h2 := Int.emod_add_mul_ediv m d.x
  show m % d.x + d.x * (m / d.x % d.y + d.y * (m / d.x / d.y)) = m
  rw [h1, h2]
/-- Two agree but along an axis. -/
def sameBut (k : Nat) (p q : V3) : Prop := (k ≠ 0 → p.x = q.x) ∧ (k ≠ 1 → p.y = q.y) ∧ (k ≠ 2 → p.z = q.z)
theorem sameBut.symm {k : Nat} {p q : V3} (h : sameBut k p q) : sameBut k q p := ⟨fun e => (h.1 e).symm, fun e => (h.2.1 e).symm, fun e => (h.2.2 e).symm⟩
theorem sameBut.trans {k : Nat} {p q r : V3} (h : sameBut k p q) (h2 : sameBut k q r) : sameBut k p r := ⟨fun e => (h.1 e).trans (h2.1 e), fun e => (h.2.1 e).trans (h2.2.1 e), fun e => (h.2.2 e).trans (h2.2.2 e)⟩
theorem among_same {d : V3} {k : Nat} {m y : Int} (hd : d.may) (hk : k < 3) (m0 : 0 ≤ m) (m1 : m < d.n) (y0 : 0 ≤ y) (y1 : y < d.n) : d.amongTo k m (d.at k).toNat y = true ↔ sameBut k (d.pos m) (d.pos y) := by
  rw [V3.amongTo, List.any_eq_true]
  obtain ⟨px, py, pz⟩ := V3.pos_inside hd m0 m1
  obtain ⟨qx, qy, qz⟩ := V3.pos_inside hd y0 y1
  constructor
  · rintro ⟨i, _, h⟩
    have h := congrArg d.pos (of_decide_eq_true h)
    unfold V3.step at h
    rw [V3.pos_num hd (V3.stepped_inside hd m0 m1 hk i)] at h
    rw [← h]
    unfold V3.stepped V3.put
    refine ⟨fun e => ?_, fun e => ?_, fun e => ?_⟩ <;> simp only [if_neg e]
  · rintro ⟨hx, hy, hz⟩
    have hdd := hd
    unfold V3.may at hdd
    have key : ∀ p q n : Int, 0 ≤ p ∧ p < n → 0 ≤ q ∧ q < n → ∃ i : Nat, (i : Int) < n ∧ (p + i) % n = q := by
      intro p q n hp hq
      rcases Int.lt_or_le q p with h | h
      · exact ⟨(q - p + n).toNat, by omega, by rw [show p + ((q - p + n).toNat : Int) = q + n by omega, Int.add_emod_right, Int.emod_eq_of_lt hq.1 hq.2]⟩
      · exact ⟨(q - p).toNat, by omega, by rw [show p + ((q - p).toNat : Int) = q by omega, Int.emod_eq_of_lt hq.1 hq.2]⟩
    obtain ⟨i, hi, he⟩ : ∃ i : Nat, (i : Int) < d.at k ∧ d.stepped m k i = d.pos y := by
      match k, hk with
      | 0, _ =>
        obtain ⟨i, hi, he⟩ := key _ _ _ px qx
        refine ⟨i, hi, ?_⟩
        show V3.mk ((( d.pos m).x + i) % d.x) (d.pos m).y (d.pos m).z = d.pos y
        rw [he, hy (by decide), hz (by decide)]
      | 1, _ =>
        obtain ⟨i, hi, he⟩ := key _ _ _ py qy
        refine ⟨i, hi, ?_⟩
        show V3.mk (d.pos m).x ((( d.pos m).y + i) % d.y) (d.pos m).z = d.pos y
        rw [he, hx (by decide), hz (by decide)]
      | 2, _ =>
        obtain ⟨i, hi, he⟩ := key _ _ _ pz qz
        refine ⟨i, hi, ?_⟩
        show V3.mk (d.pos m).x (d.pos m).y ((( d.pos m).z + i) % d.z) = d.pos y
        rw [he, hx (by decide), hy (by decide)]
    refine ⟨i, List.mem_range.2 (by omega), decide_eq_true ?_⟩
    unfold V3.step
    rw [he, V3.num_back]
theorem at_le {d : V3} {k : Nat} (hd : d.may) (hk : k < 3) : 1 ≤ d.at k ∧ d.at k ≤ 16 := by
  unfold V3.may at hd
  match k, hk with
  | 0, _ => exact hd.1
  | 1, _ => exact hd.2.1
  | 2, _ => exact hd.2.2
theorem line_eq {d : V3} {k : Nat} {m : Int} (hk : k < 3) (h : d.askE k m = 0) (h1 : d.at k ≠ 1) : d.lineV k m = d.takenTo k m (d.at k).toNat d.n.toNat := by
  obtain ⟨hd, _, m0, m1⟩ := V3.askE_0 h
  have hn : ((k : Int)).toNat = k := by omega
  have hk16 := at_le hd hk
  rw [V3.lineV, hn, if_pos ⟨h, h1⟩, V3.links_taken hd m0 m1 hk (by omega)]
theorem line_mem {d : V3} {k : Nat} {m x : Int} (hk : k < 3) (h : d.askE k m = 0) (h1 : d.at k ≠ 1) : x ∈ d.lineV k m ↔ ∃ o : Nat, (o : Int) < d.n ∧ sameBut k (d.pos m) (d.pos o) ∧ (k : Int) * d.n + (o : Int) = x := by
  obtain ⟨hd, _, m0, m1⟩ := V3.askE_0 h
  rw [line_eq hk h h1, V3.mem_takenTo]
  constructor
  · rintro ⟨o, ho, ha, e⟩; exact ⟨o, by omega, (among_same hd hk m0 m1 (by omega) (by omega)).1 ha, e⟩
  · rintro ⟨o, ho, ha, e⟩; exact ⟨o, by omega, (among_same hd hk m0 m1 (by omega) (by omega)).2 ha, e⟩
/-- What two lines are to each other. -/
structure LineFacts (d : V3) (k : Nat) (m o : Int) : Prop where
  len : (((d.lineV k m).length : Nat) : Int) = if d.at k = 1 then 0 else d.at k
  len2 : (((d.lineV k o).length : Nat) : Int) = if d.at k = 1 then 0 else d.at k
  one : d.amongTo k m (d.at k).toNat o = true → d.lineV k m = d.lineV k o
  apart : d.amongTo k m (d.at k).toNat o = false → ∀ x, x ∈ d.lineV k m → ¬ x ∈ d.lineV k o
  rise : (d.lineV k m).Pairwise (· < ·)
  ends : ∀ x, x ∈ d.lineV k m → d.endE x = 0 ∧ d.endA x = k ∧ (d.endM x = m → x = (k : Int) * d.n + m)
theorem line_facts {d : V3} {k : Nat} {m o : Int} (hk : k < 3) (h : d.askE k m = 0) (h2 : d.askE k o = 0) : LineFacts d k m o := by
  obtain ⟨hd, _, m0, m1⟩ := V3.askE_0 h
  obtain ⟨_, _, o0, o1⟩ := V3.askE_0 h2
  have hn : ((k : Int)).toNat = k := by omega
  have hk16 := at_le hd hk
  have hlen : ∀ m, d.askE k m = 0 → (((d.lineV k m).length : Nat) : Int) = if d.at k = 1 then 0 else d.at k := by
    intro m h
    by_cases h1 : d.at k = 1
    · rw [if_pos h1, V3.lineV, hn, if_neg (fun h => h.2 h1)]; rfl
    · rw [if_neg h1, V3.lineV, hn, if_pos ⟨h, h1⟩, sorted_len, V3.links_len]; omega
  by_cases h1 : d.at k = 1
  · have e0 : ∀ m, d.lineV k m = [] := fun m => by rw [V3.lineV, hn, if_neg (fun h => h.2 h1)]
    exact ⟨hlen m h, hlen o h2, fun _ => by rw [e0, e0], fun _ x hx => (by rw [e0] at hx; cases hx), by rw [e0]; exact List.Pairwise.nil, fun x hx => (by rw [e0] at hx; cases hx)⟩
  · refine ⟨hlen m h, hlen o h2, fun ha => ?_, fun ha x hx hy => ?_, ?_, fun x hx => ?_⟩
    · have hs := (among_same hd hk m0 m1 o0 o1).1 ha
      rw [line_eq hk h h1, line_eq hk h2 h1]
      refine rise_ext (V3.takenTo_rise ..) (V3.takenTo_rise ..) (fun x => ?_)
      rw [← line_eq hk h h1, ← line_eq hk h2 h1, line_mem hk h h1, line_mem hk h2 h1]
      constructor
      · rintro ⟨y, h3, h4, h5⟩; exact ⟨y, h3, hs.symm.trans h4, h5⟩
      · rintro ⟨y, h3, h4, h5⟩; exact ⟨y, h3, hs.trans h4, h5⟩
    · obtain ⟨y, h3, h4, h5⟩ := (line_mem hk h h1).1 hx
      obtain ⟨z, h6, h7, h8⟩ := (line_mem hk h2 h1).1 hy
      obtain rfl : y = z := by omega
      have := (among_same hd hk m0 m1 o0 o1).2 (h4.trans h7.symm)
      rw [this] at ha
      cases ha
    · rw [line_eq hk h h1]; exact V3.takenTo_rise ..
    · obtain ⟨y, h3, h4, h5⟩ := (line_mem hk h h1).1 hx
      have hnn := V3.n_le hd
      have q1 : x / d.n = k := by rw [← h5, Int.add_comm, Int.add_mul_ediv_right _ _ (by omega), Int.ediv_eq_zero_of_lt (by omega) h3, Int.zero_add]
      have q2 : x % d.n = y := by rw [← h5, Int.add_comm, Int.add_mul_emod_self_right, Int.emod_eq_of_lt (by omega) h3]
      have hkn : 0 ≤ (k : Int) * d.n ∧ (k : Int) * d.n ≤ 2 * d.n := by
        match k, hk with
        | 0, _ => omega
        | 1, _ => omega
        | 2, _ => omega
      have e0 : d.endE x = 0 := by
        rw [V3.endE, if_pos hd, if_pos (by omega), q1, hn, if_neg h1]
      refine ⟨e0, by rw [V3.endA, if_pos e0, q1], fun he => ?_⟩
      rw [V3.endM, if_pos e0, q2] at he
      omega
end Go.Proofs.Ytpooieghlceefaa
