/- YARDS, THE PLAIN LAW: sets of those of which something holds, joined; busy through longer spans. -/
import Derived.Test.YtfikgjcmnooglaaSetPl0
import Derived.Test.YtfikgjcmnooglaaYardI
namespace Go.Proofs.Ytfikgjcmnooglaa
open Go.RowKit Go.Shelf

def hasP (p : List Sl → Bool) (ns : List (List Sl)) (i : Nat) : Bool := match ns[i]? with | some c => p c | none => false
theorem hasP_some {p : List Sl → Bool} {ns : List (List Sl)} {i : Nat} {c : List Sl} (h : ns[i]? = some c) : hasP p ns i = p c := by unfold hasP; rw [h]
theorem whS_there (p : List Sl → Bool) {ns : List (List Sl)} (hm : nMay ns.length) (i : Nat) : there (whS p ns) i = hasP p ns i := by
  have hle := nWords_le hm
  unfold whS
  rw [there_bitsOf (fun x hx => by obtain ⟨j, c, h1, h2, _⟩ := whTo_mem.1 hx; omega), Bool.eq_iff_iff, decide_eq_true_iff, whTo_mem]
  constructor
  · rintro ⟨j, c, h1, h2, h3, h4⟩
    obtain rfl : i = j := by omega
    rw [hasP_some h3]
    exact h4
  · intro h
    cases hc : ns[i]? with
    | none => unfold hasP at h; rw [hc] at h; cases h
    | some c =>
      rw [hasP_some hc] at h
      exact ⟨i, c, (List.getElem?_eq_some_iff.1 hc).1, rfl, hc, h⟩
theorem whS_l (p : List Sl → Bool) (ns : List (List Sl)) : (whS p ns).length = nWords ns.length := bitsOf_len _ _
theorem whS_f (p : List Sl → Bool) (ns : List (List Sl)) : W64 (whS p ns) := bitsOf_fit _ _
theorem whS_chk (p : List Sl → Bool) {ns : List (List Sl)} (hm : nMay ns.length) : sChk ns.length (whS p ns) = 0 := by
  refine sChk_of hm (whS_l p ns) (whS_f p ns) fun i hi => ?_
  rw [whS_there p hm]
  unfold hasP
  rw [List.getElem?_eq_none (by omega)]
theorem whS_chk2 (p q : List Sl → Bool) {ns : List (List Sl)} (hm : nMay ns.length) : sChk2 ns.length (whS p ns) (whS q ns) = 0 := sChk2_of (whS_chk p hm) (whS_chk q hm)
theorem anyNZ_no {ws : List Nat} (hw : W64 ws) (h : ∀ i, there ws i = false) : anyNZ ws = false := by
  cases he : anyNZ ws with
  | false => rfl
  | true =>
    obtain ⟨i, _, h2⟩ := (anyNZ_at hw).1 he
    rw [h i] at h2
    cases h2
theorem whS_in {p q : List Sl → Bool} {ns : List (List Sl)} (hm : nMay ns.length) (h : ∀ c ∈ ns, p c = true → q c = true) : anyNZ (joinIf lessW ns.length (whS p ns) (whS q ns)) = false := by
  have h2 := less_may (whS_chk2 p q hm) (whS_f p ns) (whS_f q ns)
  refine anyNZ_no (joinIf_fit lessW_fit (whS_f p ns) (whS_f q ns)) fun i => ?_
  rw [h2.2.2, whS_there p hm, whS_there q hm]
  cases hc : ns[i]? with
  | none => unfold hasP; rw [hc]; rfl
  | some c =>
    rw [hasP_some hc, hasP_some hc]
    have := h c (List.mem_of_getElem? hc)
    cases hp : p c with
    | false => rfl
    | true => rw [this hp]; rfl
theorem whS_apart {p q : List Sl → Bool} {ns : List (List Sl)} (hm : nMay ns.length) (h : ∀ c ∈ ns, p c = true → q c = false) : anyNZ (joinIf andW ns.length (whS p ns) (whS q ns)) = false := by
  have h2 := and_may (whS_chk2 p q hm) (whS_f p ns) (whS_f q ns)
  refine anyNZ_no (joinIf_fit andW_fit (whS_f p ns) (whS_f q ns)) fun i => ?_
  rw [h2.2.2, whS_there p hm, whS_there q hm]
  cases hc : ns[i]? with
  | none => unfold hasP; rw [hc]; rfl
  | some c =>
    rw [hasP_some hc, hasP_some hc]
    have := h c (List.mem_of_getElem? hc)
    cases hp : p c with
    | false => rfl
    | true => rw [this hp]; rfl
theorem whS_or {p q r : List Sl → Bool} {ns : List (List Sl)} (hm : nMay ns.length) (h : ∀ c ∈ ns, r c = (p c || q c)) : joinIf orW ns.length (whS p ns) (whS q ns) = whS r ns := by
  have h2 := or_may (whS_chk2 p q hm) (whS_f p ns) (whS_f q ns)
  refine sets_ext (by rw [h2.2.1, whS_l, whS_l]) (joinIf_fit orW_fit (whS_f p ns) (whS_f q ns)) (whS_f r ns) fun i _ => ?_
  rw [h2.2.2, whS_there p hm, whS_there q hm, whS_there r hm]
  cases hc : ns[i]? with
  | none => unfold hasP; rw [hc]; rfl
  | some c => rw [hasP_some hc, hasP_some hc, hasP_some hc, h c (List.mem_of_getElem? hc)]
/-! ### spans -/
theorem clear_at {c : List Sl} (hc : calE c = 0) {f t : Int} (h : f < t) : clearB c f t = true ↔ ∀ k (hk : k < c.length), c[k].t ≤ f ∨ t ≤ c[k].f := by
  rw [clearB_iff]
  constructor
  · intro hh k hk
    exact (meetsB_no (chain_may (calE_ok hc).1 hk).1.1.2 h).1 (hh k hk)
  · intro hh k hk
    exact (meetsB_no (chain_may (calE_ok hc).1 hk).1.1.2 h).2 (hh k hk)
theorem busy_in {c : List Sl} (hc : calE c = 0) {f t g u : Int} (h1 : f < t) (h2 : g < u) (hg : g ≤ f) (hu : t ≤ u) (h : (!clearB c f t) = true) : (!clearB c g u) = true := by
  cases hq : clearB c g u with
  | false => rfl
  | true =>
    have h3 := (clear_at hc h2).1 hq
    have h4 : clearB c f t = true := (clear_at hc h1).2 fun k hk => by have := h3 k hk; omega
    rw [h4] at h
    cases h
theorem busy_or {c : List Sl} (hc : calE c = 0) {f m t : Int} (h1 : f < m) (h2 : m < t) : (!clearB c f t) = ((!clearB c f m) || (!clearB c m t)) := by
  rw [← Bool.not_and]
  congr 1
  rw [Bool.eq_iff_iff, Bool.and_eq_true, clear_at hc (by omega), clear_at hc h1, clear_at hc h2]
  constructor
  · intro h
    exact ⟨fun k hk => by have := h k hk; omega, fun k hk => by have := h k hk; omega⟩
  · rintro ⟨h3, h4⟩ k hk
    have q1 := h3 k hk
    have q2 := h4 k hk
    have q3 := (chain_may (calE_ok hc).1 hk).1.1.2
    omega
end Go.Proofs.Ytfikgjcmnooglaa
