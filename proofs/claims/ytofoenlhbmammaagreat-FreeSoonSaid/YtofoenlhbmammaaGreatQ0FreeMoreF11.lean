/- FREE, THE PLAIN LAW: a place against sets joined, and against sets without some. -/
import Derived.Test.YtofoenlhbmammaaGreatQ14F11
set_option linter.unusedVariables false
set_option linter.unusedSimpArgs false
namespace Go.Proofs.YtofoenlhbmammaaGreat

section
open Go.RowKit Go.Shelf

theorem hold_or {d : V3} {p : Pl} {ms ks m l : List Nat} (h1 : holdE d p ms ks = 0) (h2 : holdE d p m l = 0) (f1 : W64 ms) (f2 : W64 ks) (f3 : W64 m) (f4 : W64 l) :
    holdE d p (joinIf orW d.n ms m) (joinIf orW (3 * d.n) ks l) = 0 ∧ holdB d p (joinIf orW d.n ms m) (joinIf orW (3 * d.n) ks l) = (holdB d p ms ks && holdB d p m l) := by
  obtain ⟨hp, a1, a2⟩ := holdE_0 h1
  obtain ⟨_, b1, b2⟩ := holdE_0 h2
  have pf := pl_facts hp
  refine ⟨holdE_of hp (or_may (sChk2_of a1 b1) f1 f3).1 (or_may (sChk2_of a2 b2) f2 f4).1, ?_⟩
  unfold holdB
  rw [and_or pf.mChk a1 b1 (midsV_fit d p) f1 f3, and_or pf.lChk a2 b2 (linksV_fit d p) f2 f4]
  generalize anyNZ (joinIf andW d.n (midsV d p) ms) = x
  generalize anyNZ (joinIf andW d.n (midsV d p) m) = y
  generalize anyNZ (joinIf andW (3 * d.n) (linksV d p) ks) = z
  generalize anyNZ (joinIf andW (3 * d.n) (linksV d p) l) = t
  cases x <;> cases y <;> cases z <;> cases t <;> rfl
theorem meet_less {n : Int} {a b c : List Nat} (ha : sChk n a = 0) (hb : sChk n b = 0) (hc : sChk n c = 0) (fa : W64 a) (fb : W64 b) (fc : W64 c) (h : anyNZ (joinIf andW n a b) = false) : anyNZ (joinIf andW n a (joinIf lessW n b c)) = false := by
  obtain ⟨o1, _, o3⟩ := less_may (sChk2_of hb hc) fb fc
  cases he : anyNZ (joinIf andW n a (joinIf lessW n b c)) with
  | false => rfl
  | true =>
    obtain ⟨i, h1, h2⟩ := (meet_iff ha o1 fa (joinIf_fit lessW_fit fb fc)).1 he
    rw [o3, Bool.and_eq_true] at h2
    rw [(meet_iff ha hb fa fb).2 ⟨i, h1, h2.1⟩] at h
    cases h
theorem hold_less {d : V3} {p : Pl} {ms ks m l : List Nat} (h1 : holdE d p ms ks = 0) (h2 : holdE d p m l = 0) (f1 : W64 ms) (f2 : W64 ks) (f3 : W64 m) (f4 : W64 l) :
    holdE d p (joinIf lessW d.n ms m) (joinIf lessW (3 * d.n) ks l) = 0 ∧ (holdB d p ms ks = true → holdB d p (joinIf lessW d.n ms m) (joinIf lessW (3 * d.n) ks l) = true) := by
  obtain ⟨hp, a1, a2⟩ := holdE_0 h1
  obtain ⟨_, b1, b2⟩ := holdE_0 h2
  have pf := pl_facts hp
  refine ⟨holdE_of hp (less_may (sChk2_of a1 b1) f1 f3).1 (less_may (sChk2_of a2 b2) f2 f4).1, ?_⟩
  unfold holdB
  intro h
  simp only [Bool.and_eq_true, Bool.not_eq_true'] at h ⊢
  exact ⟨meet_less pf.mChk a1 b1 (midsV_fit d p) f1 f3 h.1, meet_less pf.lChk a2 b2 (linksV_fit d p) f2 f4 h.2⟩
theorem plChk_6 (d : V3) (p : Pl) : plChk d p ≠ 6 := by
  intro h
  unfold plChk at h
  split at h
  · split at h
    · omega
    · split at h <;> omega
  · unfold chk okIf at h
    split at h
    · split at h <;> omega
    · omega
theorem holdE_6 (d : V3) (p : Pl) (ms ks : List Nat) : holdE d p ms ks ≠ 6 := by
  intro h
  unfold holdE at h
  split at h
  · split at h <;> omega
  · exact plChk_6 d p h
theorem ok_n {y : Yd} (hok : y.okB = true) : (y.ns.length : Int) = y.d.n := by
  unfold Yd.okB at hok
  simp only [Bool.and_eq_true, decide_eq_true_eq] at hok
  exact hok.2.1
theorem chk_ok {y : Yd} (h : y.chk = 0) : y.okB = true := by
  unfold Yd.chk at h
  cases ho : y.okB with
  | true => rfl
  | false => rw [ho] at h; simp at h
/-- What is to be avoided from a moment on, against a place. -/
theorem at_plain {y : Yd} {p : Pl} {ms ks : List Nat} {a long : Int} (hok : y.okB = true) (h : holdE y.d p ms ks = 0) (h0 : 0 ≤ a) (hl : 1 ≤ long) (hm : a + long ≤ 1099511627776) (f1 : W64 ms) (f2 : W64 ks) :
    avE y ms ks a (a + long) = 0 ∧ holdE y.d p (avV y ms ks a (a + long)).1 (avV y ms ks a (a + long)).2 = 0 ∧
      holdB y.d p (avV y ms ks a (a + long)).1 (avV y ms ks a (a + long)).2 = (freeAt y (midsV y.d p) (linksV y.d p) long a && holdB y.d p ms ks) := by
  obtain ⟨hp, a1, a2⟩ := holdE_0 h
  obtain ⟨b1, b2, b3⟩ := busy_sets (p := p) hok hp h0 hl hm
  have hn := ok_n hok
  have hs : spMay a (a + long) := ⟨⟨h0, by omega⟩, hm⟩
  have hB := busyV_go hok hs
  have g1 : W64 (busyV y a (a + long)).1 := by rw [hB.1]; exact whS_f _ _
  have g2 : W64 (busyV y a (a + long)).2 := by rw [hB.1]; exact whS_f _ _
  have hE : avE y ms ks a (a + long) = 0 := by
    unfold avE
    rw [if_pos b1, hn, if_pos (setsOk_iff.2 ⟨a1, a2⟩)]
  have hV : avV y ms ks a (a + long) = (joinIf orW y.d.n (busyV y a (a + long)).1 ms, joinIf orW (3 * y.d.n) (busyV y a (a + long)).2 ks) := by
    unfold avV
    rw [if_pos hE, hn]
  obtain ⟨o1, o2⟩ := hold_or b2 h g1 g2 f1 f2
  rw [hV]
  exact ⟨hE, o1, by rw [o2, b3]⟩
theorem find_least {f : Int → Bool} {l : List Int} (hr : l.Pairwise (· < ·)) {n m : Int} (h : l.find? f = some n) (hm : m ∈ l) (hf : f m = true) : n ≤ m := by
  obtain ⟨_, l1, l2, rfl, has⟩ := List.find?_eq_some_iff_append.1 h
  rcases List.mem_append.1 hm with h1 | h1
  · have := has m h1
    rw [hf] at this
    cases this
  · rcases List.mem_cons.1 h1 with rfl | h2
    · exact Int.le_refl _
    · have h3 := (List.pairwise_append.1 hr).2.1
      exact Int.le_of_lt ((List.pairwise_cons.1 h3).1 m h2)
/-- Where a moment is free, one of Times' on is that is not later. -/
theorem soon_key {y : Yd} {p : Pl} {fr long o : Int} (hok : y.okB = true) (hp : plChk y.d p = 0) (h0 : 0 ≤ fr) (h1 : fr ≤ o) (h2 : o < 1099511627776) (hl : 1 ≤ long) (h3 : o + long ≤ 1099511627776)
    (h : freeAt y (midsV y.d p) (linksV y.d p) long o = true) : ∃ m ∈ timesV y fr, m ≤ o ∧ okAt y p long m = true := by
  have pf := pl_facts hp
  have hn := ok_n hok
  have hL := Yd.ok_len hok
  obtain ⟨m, hm, hmo, hf⟩ := least_plain (y := y) (ms := midsV y.d p) (ks := linksV y.d p) hok h0 h1 h2 hl (by rw [hn]; exact pf.mChk) (by rw [hL, hn]; exact pf.lChk) (midsV_fit _ _) (linksV_fit _ _) h
  refine ⟨m, hm, hmo, ?_⟩
  unfold okAt lateB
  rw [hf, decide_eq_false (by omega)]
  rfl
theorem soonE_6 {y : Yd} {p : Pl} {ms ks : List Nat} {fr long : Int} (h : soonE y p ms ks fr long = 0 ∨ soonE y p ms ks fr long = 6) : y.okB = true ∧ holdE y.d p ms ks = 0 ∧ 1 ≤ long ∧ timesE y fr = 0 ∧
    soonE y p ms ks fr long = if (soonO y p ms ks fr long).isSome then 0 else 6 := by
  unfold soonE at h ⊢
  split at h
  · next h1 =>
    split at h
    · next h2 =>
      split at h
      · next h3 =>
        unfold soonA at h3
        split at h3
        · omega
        · exact ⟨chk_ok h1, h2, by omega, h3, by rw [if_pos h1, if_pos h2, if_pos (by unfold soonA; rw [if_neg (by assumption)]; exact h3)]⟩
      · omega
    · next h2 =>
      rcases h with h | h
      · exact absurd h h2
      · exact absurd h (holdE_6 _ _ _ _)
  · omega
theorem times_0 {y : Yd} {f : Int} (h : timesE y f = 0) : 0 ≤ f ∧ f < 1099511627776 := by
  unfold timesE at h
  split at h
  · split at h
    · next hf => exact hf
    · omega
  · omega
theorem soon_none {y : Yd} {p : Pl} {ms ks : List Nat} {fr long : Int} (h : soonE y p ms ks fr long ≠ 0) : soonV y p ms ks fr long = 0 := if_neg h
theorem soon_some {y : Yd} {p : Pl} {ms ks : List Nat} {fr long : Int} (h : soonE y p ms ks fr long = 0) :
    holdB y.d p ms ks = true ∧ (timesV y fr).find? (okAt y p long) = some (soonV y p ms ks fr long) := by
  obtain ⟨_, h2, _, _, h5⟩ := soonE_6 (.inl h)
  rw [h] at h5
  have hO : soonO y p ms ks fr long = if holdV y.d p ms ks then (timesV y fr).find? (okAt y p long) else none := rfl
  have hV : holdV y.d p ms ks = holdB y.d p ms ks := if_pos h2
  have hSV : soonV y p ms ks fr long = (soonO y p ms ks fr long).getD 0 := if_pos h
  rw [hV] at hO
  cases hb : holdB y.d p ms ks with
  | false =>
    rw [hb, if_neg (by decide)] at hO
    rw [hO] at h5
    cases h5
  | true =>
    rw [hb, if_pos rfl] at hO
    refine ⟨rfl, ?_⟩
    rw [hSV, ← hO]
    cases ho : soonO y p ms ks fr long with
    | none => rw [ho] at h5; cases h5
    | some a => rfl
theorem soon_not {y : Yd} {p : Pl} {ms ks : List Nat} {fr long : Int} (h : soonE y p ms ks fr long = 6) :
    holdB y.d p ms ks = false ∨ (timesV y fr).find? (okAt y p long) = none := by
  obtain ⟨_, h2, _, _, h5⟩ := soonE_6 (.inr h)
  rw [h] at h5
  have hO : soonO y p ms ks fr long = if holdV y.d p ms ks then (timesV y fr).find? (okAt y p long) else none := rfl
  rw [show holdV y.d p ms ks = holdB y.d p ms ks from if_pos h2] at hO
  cases hb : holdB y.d p ms ks with
  | false => exact .inl rfl
  | true =>
    rw [hb, if_pos rfl] at hO
    right
    rw [← hO]
    cases ho : soonO y p ms ks fr long with
    | none => rfl
    | some a => rw [ho] at h5; cases h5
/-- At the moment that is told it is free, as long as it is asked. -/
theorem soon_at {y : Yd} {p : Pl} {ms ks : List Nat} {fr long : Int} (h : soonE y p ms ks fr long = 0) :
    fr ≤ soonV y p ms ks fr long ∧ 0 ≤ soonV y p ms ks fr long ∧ soonV y p ms ks fr long < 1099511627776 ∧ soonV y p ms ks fr long + long ≤ 1099511627776 ∧ (freeAt y (midsV y.d p) (linksV y.d p) long (soonV y p ms ks fr long) && holdB y.d p ms ks) = true := by
  obtain ⟨_, _, _, h4, _⟩ := soonE_6 (.inl h)
  obtain ⟨h5, h6⟩ := soon_some h
  have hm := List.mem_of_find?_eq_some h6
  have ho := List.find?_some h6
  obtain ⟨t1, t2, t3⟩ := times_in h4 hm
  unfold okAt lateB at ho
  rw [Bool.and_eq_true] at ho
  obtain ⟨o1, o2⟩ := ho
  simp at o1
  exact ⟨t1, t2, t3, by omega, by rw [o2, h5]; rfl⟩
/-- At no moment ahead of it is it. -/
theorem soon_ahead {y : Yd} {p : Pl} {ms ks : List Nat} {fr long o : Int} (h : soonE y p ms ks fr long = 0) (h1 : fr ≤ o) (h2 : o < soonV y p ms ks fr long) (h3 : o + long ≤ 1099511627776) :
    freeAt y (midsV y.d p) (linksV y.d p) long o = false := by
  obtain ⟨hok, hh, hl, h4, _⟩ := soonE_6 (.inl h)
  obtain ⟨t0, t1⟩ := times_0 h4
  obtain ⟨_, h6⟩ := soon_some h
  have h7 := (soon_at h).2.2.1
  cases hf : freeAt y (midsV y.d p) (linksV y.d p) long o with
  | false => rfl
  | true =>
    obtain ⟨m, hm, hmo, hk⟩ := soon_key hok (holdE_0 hh).1 t0 h1 (by omega) hl h3 hf
    have := find_least (times_rise y fr) h6 hm hk
    omega
theorem soon_never {y : Yd} {p : Pl} {ms ks : List Nat} {fr long o : Int} (h : soonE y p ms ks fr long = 6) (h1 : fr ≤ o) (h2 : o < 1099511627776) (h3 : o + long ≤ 1099511627776) :
    (freeAt y (midsV y.d p) (linksV y.d p) long o && holdB y.d p ms ks) = false := by
  obtain ⟨hok, hh, hl, h4, _⟩ := soonE_6 (.inr h)
  obtain ⟨t0, t1⟩ := times_0 h4
  rcases soon_not h with hb | hn
  · rw [hb, Bool.and_false]
  · cases hf : freeAt y (midsV y.d p) (linksV y.d p) long o with
    | false => rfl
    | true =>
      obtain ⟨m, hm, _, hk⟩ := soon_key hok (holdE_0 hh).1 t0 h1 h2 hl h3 hf
      have := List.find?_eq_none.1 hn m hm
      rw [hk] at this
      exact absurd rfl this
end
end Go.Proofs.YtofoenlhbmammaaGreat
