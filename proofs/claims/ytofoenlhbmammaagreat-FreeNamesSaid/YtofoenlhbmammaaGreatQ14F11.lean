/- FREE, THE PLAIN LAW: moments in order; a place against what is busy. -/
import Derived.Test.YtofoenlhbmammaaGreatQ0PlSetsF11
import Derived.Test.YtofoenlhbmammaaGreatQ0PlLawF11
import Derived.Test.YtofoenlhbmammaaGreatQ0SetNumsF11
import Derived.Test.YtofoenlhbmammaaGreatQ0SetRefF11
import Derived.Test.YtofoenlhbmammaaGreatQ13F11
set_option linter.unusedVariables false
set_option linter.unusedSimpArgs false
namespace Go.Proofs.YtofoenlhbmammaaGreat

section
open Go.RowKit Go.Shelf

theorem oneOf (a b : Int) (h : a = b) : b = a := h.symm
theorem and_turn {n : Int} {a b : List Nat} (ha : sChk n a = 0) (hb : sChk n b = 0) (fa : W64 a) (fb : W64 b) : anyNZ (joinIf andW n a b) = anyNZ (joinIf andW n b a) := by
  rw [Bool.eq_iff_iff, meet_iff ha hb fa fb, meet_iff hb ha fb fa]
  exact ⟨fun ⟨i, h1, h2⟩ => ⟨i, h2, h1⟩, fun ⟨i, h1, h2⟩ => ⟨i, h2, h1⟩⟩
theorem and_or {n : Int} {a b c : List Nat} (ha : sChk n a = 0) (hb : sChk n b = 0) (hc : sChk n c = 0) (fa : W64 a) (fb : W64 b) (fc : W64 c) :
    anyNZ (joinIf andW n a (joinIf orW n b c)) = (anyNZ (joinIf andW n a b) || anyNZ (joinIf andW n a c)) := by
  obtain ⟨o1, o2, o3⟩ := or_may (sChk2_of hb hc) fb fc
  have fo := joinIf_fit (n := n) orW_fit fb fc
  rw [Bool.eq_iff_iff, meet_iff ha o1 fa fo, Bool.or_eq_true, meet_iff ha hb fa fb, meet_iff ha hc fa fc]
  constructor
  · rintro ⟨i, h1, h2⟩
    rw [o3, Bool.or_eq_true] at h2
    rcases h2 with h2 | h2
    · exact .inl ⟨i, h1, h2⟩
    · exact .inr ⟨i, h1, h2⟩
  · rintro (⟨i, h1, h2⟩ | ⟨i, h1, h2⟩)
    · exact ⟨i, h1, by rw [o3, h2]; rfl⟩
    · exact ⟨i, h1, by rw [o3, h2]; simp⟩
/-- None in common: as many as none are counted. -/
theorem many_none {n : Int} {a b : List Nat} (ha : sChk n a = 0) (hb : sChk n b = 0) (fa : W64 a) (fb : W64 b) : manyV n (joinIf andW n a b) = 0 ↔ anyNZ (joinIf andW n a b) = false := by
  obtain ⟨h1, h2, h3⟩ := and_may (sChk2_of ha hb) fa fb
  have ff := joinIf_fit (n := n) andW_fit fa fb
  unfold manyV
  rw [if_pos h1]
  constructor
  · intro h
    have h0 : nums (joinIf andW n a b) = [] := List.eq_nil_of_length_eq_zero (by omega)
    cases he : anyNZ (joinIf andW n a b) with
    | false => rfl
    | true =>
      obtain ⟨i, hi, ht⟩ := (anyNZ_at ff).1 he
      have : ((i : Nat) : Int) ∈ nums (joinIf andW n a b) := mem_nums.2 ⟨i, rfl, hi, ht⟩
      rw [h0] at this
      cases this
  · intro h
    have h0 : nums (joinIf andW n a b) = [] := by
      refine List.eq_nil_iff_forall_not_mem.2 fun x hx => ?_
      obtain ⟨i, _, hi, ht⟩ := mem_nums.1 hx
      have := (anyNZ_at ff).2 ⟨i, hi, ht⟩
      rw [h] at this
      cases this
    rw [h0]
    rfl
theorem manyV_le (n : Int) (ws : List Nat) : 0 ≤ manyV n ws ∧ manyV n ws ≤ 12288 := by
  unfold manyV
  split
  · next h =>
    have h1 := sChk_len h
    have h2 := numsTo_len ws (64 * ws.length)
    change (nums ws).length ≤ _ at h2
    omega
  · omega
/-! ### what is to be avoided -/
def setsOk (n : Int) (ms ks : List Nat) : Bool := decide (sChk n ms = 0) && decide (sChk (3 * n) ks = 0)
def avE (y : Yd) (ms ks : List Nat) (f t : Int) : Int := if busyE y f t = 0 then (if setsOk y.ns.length ms ks then 0 else 8) else busyE y f t
def avV (y : Yd) (ms ks : List Nat) (f t : Int) : List Nat × List Nat :=
  if avE y ms ks f t = 0 then (joinIf orW y.ns.length (busyV y f t).1 ms, joinIf orW (3 * y.ns.length) (busyV y f t).2 ks) else ([], [])
theorem setsOk_iff {n : Int} {ms ks : List Nat} : setsOk n ms ks = true ↔ sChk n ms = 0 ∧ sChk (3 * n) ks = 0 := by
  unfold setsOk; rw [Bool.and_eq_true, decide_eq_true_iff, decide_eq_true_iff]
theorem avE_0 {y : Yd} {ms ks : List Nat} {f t : Int} (h : avE y ms ks f t = 0) : busyE y f t = 0 ∧ sChk y.ns.length ms = 0 ∧ sChk (3 * y.ns.length) ks = 0 := by
  unfold avE at h
  split at h
  · next h1 =>
    split at h
    · next h2 => exact ⟨h1, setsOk_iff.1 h2⟩
    · omega
  · next h1 => exact absurd h h1
/-! ### whether a place is free of sets -/
def holdE (d : V3) (p : Pl) (ms ks : List Nat) : Int := if plChk d p = 0 then (if setsOk d.n ms ks then 0 else 8) else plChk d p
def holdB (d : V3) (p : Pl) (ms ks : List Nat) : Bool := !anyNZ (joinIf andW d.n (midsV d p) ms) && !anyNZ (joinIf andW (3 * d.n) (linksV d p) ks)
def holdV (d : V3) (p : Pl) (ms ks : List Nat) : Bool := if holdE d p ms ks = 0 then holdB d p ms ks else false
theorem holdE_0 {d : V3} {p : Pl} {ms ks : List Nat} (h : holdE d p ms ks = 0) : plChk d p = 0 ∧ sChk d.n ms = 0 ∧ sChk (3 * d.n) ks = 0 := by
  unfold holdE at h
  split at h
  · next h1 =>
    split at h
    · next h2 => exact ⟨h1, setsOk_iff.1 h2⟩
    · omega
  · next h1 => exact absurd h h1
theorem holdE_of {d : V3} {p : Pl} {ms ks : List Nat} (h : plChk d p = 0) (h1 : sChk d.n ms = 0) (h2 : sChk (3 * d.n) ks = 0) : holdE d p ms ks = 0 := by
  unfold holdE; rw [if_pos h, if_pos (setsOk_iff.2 ⟨h1, h2⟩)]
/-- As the program counts: no common one at all. -/
theorem hold_many {d : V3} {p : Pl} {ms ks : List Nat} (h : holdE d p ms ks = 0) (f1 : W64 ms) (f2 : W64 ks) :
    decide (manyV d.n (joinIf andW d.n (midsV d p) ms) + manyV (3 * d.n) (joinIf andW (3 * d.n) (linksV d p) ks) = 0) = holdB d p ms ks := by
  obtain ⟨hp, h1, h2⟩ := holdE_0 h
  have pf := pl_facts hp
  have e1 := many_none pf.mChk h1 (midsV_fit d p) f1
  have e2 := many_none pf.lChk h2 (linksV_fit d p) f2
  have n1 : 0 ≤ manyV d.n (joinIf andW d.n (midsV d p) ms) := by unfold manyV; split <;> omega
  have n2 : 0 ≤ manyV (3 * d.n) (joinIf andW (3 * d.n) (linksV d p) ks) := by unfold manyV; split <;> omega
  unfold holdB
  rw [Bool.eq_iff_iff, decide_eq_true_iff, Bool.and_eq_true, Bool.not_eq_true', Bool.not_eq_true', ← e1, ← e2]
  omega
/-- As the document asks. -/
theorem hold_hit {d : V3} {p : Pl} {ms ks : List Nat} (h : holdE d p ms ks = 0) (f1 : W64 ms) (f2 : W64 ks) :
    holdB d p ms ks = (!hit true (nums (midsV d p)) ms && !hit true (nums (linksV d p)) ks) := by
  obtain ⟨hp, h1, h2⟩ := holdE_0 h
  have pf := pl_facts hp
  unfold holdB
  rw [meet_eq _ (midsV_fit d p) f1, meet_eq _ (linksV_fit d p) f2]
  unfold refHit
  rw [if_pos (sChk2_of pf.mChk h1), if_pos (sChk2_of pf.lChk h2)]
/-! ### soon -/
def lateB (long a : Int) : Bool := decide (1099511627776 - a < long)
def okAt (y : Yd) (p : Pl) (long a : Int) : Bool := !lateB long a && freeAt y (midsV y.d p) (linksV y.d p) long a
def soonA (y : Yd) (fr long : Int) : Int := if long < 1 then 2 else timesE y fr
def soonO (y : Yd) (p : Pl) (ms ks : List Nat) (fr long : Int) : Option Int := if holdV y.d p ms ks then (timesV y fr).find? (okAt y p long) else none
def soonE (y : Yd) (p : Pl) (ms ks : List Nat) (fr long : Int) : Int :=
  if y.chk = 0 then (if holdE y.d p ms ks = 0 then (if soonA y fr long = 0 then (if (soonO y p ms ks fr long).isSome then 0 else 6) else 2) else holdE y.d p ms ks) else 8
def soonV (y : Yd) (p : Pl) (ms ks : List Nat) (fr long : Int) : Int := if soonE y p ms ks fr long = 0 then (soonO y p ms ks fr long).getD 0 else 0
theorem find_snoc {α : Type} (f : α → Bool) (l : List α) (x : α) : (l ++ [x]).find? f = (l.find? f).or (if f x then some x else none) := by
  rw [List.find?_append]
  congr 1
  cases h : f x <;> simp [h]
/-- Once it is too late it stays so. -/
theorem find_late {y : Yd} {p : Pl} {long : Int} {l : List Int} (hr : l.Pairwise (· < ·)) {k : Nat} (hk : k < l.length) (h0 : (l.take k).find? (okAt y p long) = none) (hl : lateB long l[k] = true) : l.find? (okAt y p long) = none := by
  rw [List.find?_eq_none] at h0 ⊢
  intro x hx
  obtain ⟨j, hj, rfl⟩ := List.getElem_of_mem hx
  by_cases hjk : j < k
  · exact h0 _ (List.mem_take_iff_getElem.2 ⟨j, by omega, rfl⟩)
  · have h1 : l[k] ≤ l[j] := by
      by_cases e : j = k
      · subst e; exact Int.le_refl _
      · exact Int.le_of_lt (List.pairwise_iff_getElem.1 hr k j hk hj (by omega))
    unfold lateB at hl
    rw [decide_eq_true_iff] at hl
    unfold okAt lateB
    rw [decide_eq_true (by omega)]
    simp
end

section
open Go.RowKit Go.Shelf

theorem find_here {f : Int → Bool} {l : List Int} {k : Nat} (hk : k < l.length) (h0 : (l.take k).find? f = none) (h1 : f l[k] = true) : l.find? f = some l[k] := by
  conv => lhs; rw [← List.take_append_drop k l]
  rw [List.find?_append, h0, List.drop_eq_getElem_cons hk, List.find?_cons, h1]
  rfl
theorem find_next {f : Int → Bool} {l : List Int} {k : Nat} (hk : k < l.length) (h0 : (l.take k).find? f = none) (h1 : f l[k] = false) : (l.take (k + 1)).find? f = none := by
  rw [List.take_succ_eq_append_getElem hk, List.find?_append, h0, List.find?_cons, h1]
  rfl
theorem times_len {y : Yd} {f : Int} (h : y.all.length ≤ 20000000) : (timesV y f).length ≤ 100000000 := by
  unfold timesV
  split
  · have h1 := pmsL_len (endsL (afterB f) y.all) [f]
    have h2 := endsL_len (afterB f) y.all
    simp at h1
    omega
  · exact Nat.zero_le _
theorem times_rise (y : Yd) (f : Int) : (timesV y f).Pairwise (· < ·) := by
  unfold timesV
  split
  · exact pmsL_rise (by simp)
  · simp
theorem times_in {y : Yd} {f x : Int} (hE : timesE y f = 0) (hx : x ∈ timesV y f) : f ≤ x ∧ 0 ≤ x ∧ x < 1099511627776 := by
  have h0 : 0 ≤ f ∧ f < 1099511627776 := by
    unfold timesE at hE
    split at hE
    · split at hE
      · next h => exact h
      · omega
    · omega
  unfold timesV at hx
  rw [if_pos hE, mem_pmsL] at hx
  rcases hx with h | h
  · simp at h; omega
  · unfold endsL at h
    obtain ⟨s, hs, rfl⟩ := List.mem_map.1 h
    have := (List.mem_filter.1 hs).2
    unfold afterB at this
    simp at this
    omega
theorem times_ok {y : Yd} {f : Int} (hE : timesE y f = 0) : y.okB = true := by
  unfold timesE at hE
  split at hE
  · next h => exact h
  · omega
/-- What is busy from a moment on, as sets that may be. -/
theorem busy_sets {y : Yd} {p : Pl} {a long : Int} (hok : y.okB = true) (hp : plChk y.d p = 0) (h0 : 0 ≤ a) (hl : 1 ≤ long) (hm : a + long ≤ 1099511627776) :
    busyE y a (a + long) = 0 ∧ holdE y.d p (busyV y a (a + long)).1 (busyV y a (a + long)).2 = 0 ∧ holdB y.d p (busyV y a (a + long)).1 (busyV y a (a + long)).2 = freeAt y (midsV y.d p) (linksV y.d p) long a := by
  have hs : spMay a (a + long) := ⟨⟨h0, by omega⟩, hm⟩
  have hB := busyV_go hok hs
  have hM := Yd.ok_many hok
  have hL := Yd.ok_len hok
  have hn : (y.ns.length : Int) = y.d.n := by
    unfold Yd.okB at hok
    simp only [Bool.and_eq_true, decide_eq_true_eq] at hok
    exact hok.2.1
  have pf := pl_facts hp
  have c1 : sChk y.d.n (busyV y a (a + long)).1 = 0 := by rw [hB.1, ← hn]; exact whS_chk _ hM.1
  have c2 : sChk (3 * y.d.n) (busyV y a (a + long)).2 = 0 := by rw [hB.1, ← hn, ← hL]; exact whS_chk _ hM.2
  refine ⟨hB.2, holdE_of hp c1 c2, ?_⟩
  have f1 : W64 (busyV y a (a + long)).1 := by rw [hB.1]; exact whS_f _ _
  have f2 : W64 (busyV y a (a + long)).2 := by rw [hB.1]; exact whS_f _ _
  unfold holdB freeAt meetS
  rw [and_turn pf.mChk c1 (midsV_fit _ _) f1, and_turn pf.lChk c2 (linksV_fit _ _) f2, hB.1, hL, hn]
/-! ### joined -/
theorem nums_at {n : Int} {a : List Nat} (h : sChk n a = 0) (fa : W64 a) {x : Int} (hx : x ∈ nums a) : 0 ≤ x ∧ x < n := by
  obtain ⟨k, rfl, hk, ht⟩ := mem_nums.1 hx
  refine ⟨by omega, ?_⟩
  by_cases hle : n.toNat ≤ k
  · rw [there_top h fa hle] at ht; cases ht
  · omega
theorem may_chk {n : Int} {ws : List Nat} (hn : nMay n) (fw : W64 ws) : refMay n ws = decide (sChk n ws = 0) := by
  rw [refMay_eq hn fw]
  unfold sChk
  rw [if_pos hn]
  by_cases h : setMay n ws
  · rw [okIf_yes h]; simp [h]
  · rw [okIf_no h]; simp [h]
theorem there_word {a : List Nat} {i : Nat} (h : there a i = true) : i < 64 * a.length := by
  by_cases hl : a.length ≤ i / 64
  · rw [there_out hl] at h; cases h
  · omega
theorem or_joined {n : Int} {a b : List Nat} (ha : sChk n a = 0) (hb : sChk n b = 0) (fa : W64 a) (fb : W64 b) :
    joinIf orW n a b = bitsOf (nWords n) (nums a ++ nums b) ∧ inR n (nums a ++ nums b) = true ∧ (nums a ++ nums b).length ≤ 65536 ∧ nMay n := by
  have hn := nMay_of ha
  have hin : ∀ x ∈ nums a ++ nums b, 0 ≤ x ∧ x < n := fun x hx => by
    rcases List.mem_append.1 hx with h | h
    · exact nums_at ha fa h
    · exact nums_at hb fb h
  have hlen : (nums a ++ nums b).length ≤ 65536 := by
    have h1 := numsTo_len a (64 * a.length)
    have h2 := numsTo_len b (64 * b.length)
    change (nums a).length ≤ _ at h1
    change (nums b).length ≤ _ at h2
    have h3 := sChk_len ha
    have h4 := sChk_len hb
    rw [List.length_append]
    omega
  have hir : inR n (nums a ++ nums b) = true := by
    unfold inR
    rw [List.all_eq_true]
    intro x hx
    simpa using hin x hx
  obtain ⟨e1, e2, e3⟩ := setOf_facts hn hlen hin
  have hbits : ofSet n (nums a ++ nums b) = bitsOf (nWords n) (nums a ++ nums b) := if_pos e1
  obtain ⟨o1, o2, o3⟩ := or_may (sChk2_of ha hb) fa fb
  refine ⟨?_, hir, hlen, hn⟩
  rw [← hbits]
  refine sets_ext ?_ (joinIf_fit orW_fit fa fb) (ofSet_fit' _ _) (fun i _ => ?_)
  · have q1 := (sMay_len o1).2.1
    have q2 := (sMay_len e2).2.1
    omega
  · rw [o3, e3, Bool.eq_iff_iff, Bool.or_eq_true, decide_eq_true_iff, List.mem_append, mem_nums, mem_nums]
    constructor
    · rintro (h | h)
      · exact .inl ⟨i, rfl, there_word h, h⟩
      · exact .inr ⟨i, rfl, there_word h, h⟩
    · rintro (⟨k, hk, _, h⟩ | ⟨k, hk, _, h⟩)
      · obtain rfl : i = k := by omega
        exact .inl h
      · obtain rfl : i = k := by omega
        exact .inr h
end
end Go.Proofs.YtofoenlhbmammaaGreat
