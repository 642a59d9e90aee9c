/- CAL: calendars with a slot more, and with slots ended, in plain Lean. -/
import Derived.Test.YtfikgjcmnooglaaCal6
import Derived.Test.YtfikgjcmnooglaaCut1
import Derived.Test.YtfikgjcmnooglaaCalLaw
namespace Go.Proofs.Ytfikgjcmnooglaa
open Go.RowKit Go.Shelf

theorem chain_iff : ∀ {c : List Sl} {last : Int}, chain last c = true ↔ (∀ s ∈ c, s.may ∧ last ≤ s.f) ∧ c.Pairwise (fun x y => x.t ≤ y.f)
  | [], _ => by simp [chain]
  | s :: c, last => by
    simp only [chain, Bool.and_eq_true, decide_eq_true_iff, chain_iff (c := c), List.mem_cons, forall_eq_or_imp, List.pairwise_cons]
    constructor
    · rintro ⟨h1, h2, h3, h4⟩
      refine ⟨⟨⟨h1, h2⟩, fun x hx => ⟨(h3 x hx).1, ?_⟩⟩, fun x hx => (h3 x hx).2, h4⟩
      have := (h3 x hx).2; have := h1.1.1; omega
    · rintro ⟨⟨⟨h1, h2⟩, h3⟩, h4, h5⟩
      exact ⟨h1, h2, fun x hx => ⟨(h3 x hx).1, h4 x hx⟩, h5⟩
theorem chain0_iff {c : List Sl} : chain 0 c = true ↔ (∀ s ∈ c, s.may) ∧ c.Pairwise (fun x y => x.t ≤ y.f) := by
  rw [chain_iff]
  exact ⟨fun h => ⟨fun s hs => (h.1 s hs).1, h.2⟩, fun h => ⟨fun s hs => ⟨h.1 s hs, (h.1 s hs).1.1.1⟩, h.2⟩⟩
theorem calE_iff {c : List Sl} : calE c = 0 ↔ c.length ≤ 4096 ∧ chain 0 c = true := by
  unfold calE calOk
  constructor
  · intro h
    split at h
    · next e => simpa using e
    · cases h
  · intro h
    rw [if_pos (by simpa using h)]

/-- Who has a moment: just one may. -/
theorem hit_iff {c : List Sl} (hch : chain 0 c = true) (a : Int) (s : Sl) : hitAt c a = some s ↔ s ∈ c ∧ (s.f ≤ a ∧ a < s.t) := by
  rw [← hitR_eq hch]
  unfold hitR
  obtain ⟨hm, hp⟩ := chain0_iff.1 hch
  constructor
  · intro h
    have h1 := List.find?_some h
    have h2 := List.mem_of_find?_eq_some h
    unfold inB at h1
    simp only [Bool.and_eq_true, decide_eq_true_iff] at h1
    exact ⟨h2, h1⟩
  · rintro ⟨h1, h2, h3⟩
    clear hch
    induction c with
    | nil => cases h1
    | cons x c ih =>
      rw [List.find?_cons]
      rw [List.pairwise_cons] at hp
      rcases List.mem_cons.1 h1 with rfl | h4
      · rw [show inB s.f s.t a = true by unfold inB; rw [decide_eq_true h2, decide_eq_true h3]; rfl]
      · have h5 := hp.1 s h4
        have h6 := hm x (List.mem_cons_self ..)
        rw [show inB x.f x.t a = false by unfold inB; rw [decide_eq_false (show ¬ a < x.t by omega), Bool.and_false]]
        exact ih (fun y hy => hm y (List.mem_cons_of_mem _ hy)) hp.2 h4
theorem hit_ext {c d : List Sl} (hc : chain 0 c = true) (hd : chain 0 d = true) (a b : Int) (h : ∀ s, (s ∈ c ∧ (s.f ≤ a ∧ a < s.t)) ↔ (s ∈ d ∧ (s.f ≤ b ∧ b < s.t))) : hitAt c a = hitAt d b :=
  Option.ext fun s => by rw [hit_iff hc, hit_iff hd]; exact h s

/-! ### a slot more -/
def putL (c : List Sl) (s : Sl) : List Sl := c.take (aft c s.f) ++ s :: c.drop (aft c s.f)
def putE (c : List Sl) (s : Sl) : Int := if calE c = 0 then if s.may then if freeB c s.f s.t then if c.length = 4096 then 4 else 0 else 80 else 2 else calE c
def putV (c : List Sl) (s : Sl) : List Sl := if putE c s = 0 then putL c s else []
theorem putL_len (c : List Sl) (s : Sl) : (putL c s).length = c.length + 1 := by
  have := aft_le c s.f
  simp [putL]; omega
theorem mem_putL {c : List Sl} {s x : Sl} : x ∈ putL c s ↔ x = s ∨ x ∈ c := by
  unfold putL
  rw [List.mem_append, List.mem_cons]
  constructor
  · rintro (h | h | h)
    · exact .inr (List.mem_of_mem_take h)
    · exact .inl h
    · exact .inr (List.mem_of_mem_drop h)
  · rintro (h | h)
    · exact .inr (.inl h)
    · rw [← List.take_append_drop (aft c s.f) c, List.mem_append] at h
      rcases h with h | h
      · exact .inl h
      · exact .inr (.inr h)
theorem take_aft {c : List Sl} (hch : chain 0 c = true) (a : Int) : ∀ x ∈ c.take (aft c a), x.t ≤ a := by
  intro x hx
  obtain ⟨k, hk, rfl⟩ := List.mem_iff_getElem.1 hx
  rw [List.length_take] at hk
  rw [List.getElem_take]
  exact (aft_iff hch a (by omega)).2 (by omega)
theorem drop_aft {c : List Sl} (hch : chain 0 c = true) {f t : Int} (hfr : freeB c f t = true) : ∀ x ∈ c.drop (aft c f), t ≤ x.f := by
  intro x hx
  obtain ⟨k, hk, rfl⟩ := List.mem_iff_getElem.1 hx
  rw [List.length_drop] at hk
  rw [List.getElem_drop]
  unfold freeB at hfr
  rw [Bool.or_eq_true, decide_eq_true_iff, decide_eq_true_iff] at hfr
  have hlt : aft c f < c.length := by omega
  have h0 : t ≤ c[aft c f].f := by
    rcases hfr with h | h
    · omega
    · rw [List.getElem?_eq_getElem hlt] at h; exact h
  by_cases e : k = 0
  · subst e; exact h0
  · have h4 := chain_next hch (j := aft c f + k) (by omega) hlt (by omega)
    have h5 := (chain_may hch hlt).1.1
    omega
theorem putL_chain {c : List Sl} {s : Sl} (hch : chain 0 c = true) (hs : s.may) (hfr : freeB c s.f s.t = true) : chain 0 (putL c s) = true := by
  have h1 := take_aft hch s.f
  have h2 := drop_aft hch hfr
  obtain ⟨hm, hp⟩ := chain0_iff.1 hch
  rw [chain0_iff]
  refine ⟨fun x hx => ?_, ?_⟩
  · rcases mem_putL.1 hx with rfl | h
    · exact hs
    · exact hm x h
  · unfold putL
    rw [← List.take_append_drop (aft c s.f) c, List.pairwise_append] at hp
    rw [List.pairwise_append, List.pairwise_cons]
    refine ⟨hp.1, ⟨h2, hp.2.1⟩, fun x hx y hy => ?_⟩
    rcases List.mem_cons.1 hy with rfl | hy
    · exact h1 x hx
    · exact hp.2.2 x hx y hy
theorem putE_0 {c : List Sl} {s : Sl} (h : putE c s = 0) : calE c = 0 ∧ s.may ∧ freeB c s.f s.t = true ∧ c.length < 4096 := by
  unfold putE at h
  split at h
  · next h0 =>
    split at h
    · next h1 =>
      split at h
      · next h2 =>
        split at h
        · cases h
        · next h3 => have := (calE_ok h0).2; exact ⟨h0, h1, h2, by omega⟩
      · cases h
    · cases h
  · next h0 => exact absurd h h0
theorem putL_ok {c : List Sl} {s : Sl} (h : putE c s = 0) : calE (putL c s) = 0 := by
  obtain ⟨h0, h1, h2, h3⟩ := putE_0 h
  rw [calE_iff, putL_len]
  exact ⟨by omega, putL_chain (calE_ok h0).1 h1 h2⟩
theorem free_no {c : List Sl} (hch : chain 0 c = true) {f t : Int} (hft : f < t) (hfr : freeB c f t = true) : ∀ x ∈ c, x.t ≤ f ∨ t ≤ x.f := by
  intro x hx
  rw [← List.take_append_drop (aft c f) c, List.mem_append] at hx
  rcases hx with h | h
  · exact .inl (take_aft hch f x h)
  · exact .inr (drop_aft hch hfr x h)

/-! ### the document's -/
/-- With a slot more, as the document lays it: ahead of the first that begins later. -/
def withL (s : Sl) : List Sl → List Sl
  | [] => [s]
  | x :: r => if s.f < x.f then s :: x :: r else x :: withL s r
theorem withL_split (s : Sl) : ∀ (a b : List Sl), (∀ x ∈ a, x.f ≤ s.f) → (∀ x ∈ b, s.f < x.f) → withL s (a ++ b) = a ++ s :: b
  | [], [], _, _ => rfl
  | [], y :: b, _, h => by
    rw [List.nil_append, withL, if_pos (h y (List.mem_cons_self ..))]; rfl
  | x :: a, b, h1, h2 => by
    have := h1 x (List.mem_cons_self ..)
    rw [List.cons_append, withL, if_neg (by omega), withL_split s a b (fun y hy => h1 y (List.mem_cons_of_mem _ hy)) h2]; rfl
theorem withL_eq {c : List Sl} {s : Sl} (h : putE c s = 0) : withL s c = putL c s := by
  obtain ⟨h0, h1, h2, h3⟩ := putE_0 h
  have hch := (calE_ok h0).1
  have hm := (chain0_iff.1 hch).1
  have e := withL_split s (c.take (aft c s.f)) (c.drop (aft c s.f)) (fun x hx => by
      have := take_aft hch s.f x hx
      have := (hm x (List.mem_of_mem_take hx)).1.1
      omega) (fun x hx => by
      have := drop_aft hch h2 x hx
      have := h1.1.1
      omega)
  rwa [List.take_append_drop] at e
/-- The document's errors are the program's. -/
def putRE (c : List Sl) (s : Sl) : Int := if calOk c then if s.may then if clearB c s.f s.t then if 4096 ≤ c.length then 4 else 0 else 80 else 2 else 8
theorem putRE_eq (c : List Sl) (s : Sl) : putRE c s = putE c s := by
  unfold putRE putE calE
  cases hy : calOk c
  · simp
  · have h0 : calE c = 0 := by unfold calE; rw [hy]; rfl
    have hl := (calE_ok h0).2
    simp only [if_true]
    by_cases hm : s.may
    · rw [if_pos hm, if_pos hm, free_clear (calE_ok h0).1 hm.1.1.2]
      split
      · by_cases e : c.length = 4096
        · rw [if_pos (by omega), if_pos e]
        · rw [if_neg (by omega), if_neg e]
      · rfl
    · rw [if_neg hm, if_neg hm]
def putRV (c : List Sl) (s : Sl) : List Sl := if putRE c s = 0 then withL s c else []
theorem putRV_eq (c : List Sl) (s : Sl) : putRV c s = putV c s := by
  unfold putRV putV
  rw [putRE_eq]
  split
  · next h => exact withL_eq h
  · rfl

/-! ### slots ended -/
theorem mem_cutL {c : List Sl} {ow tm : Int} {x : Sl} : x ∈ cutL ow tm c ↔ ∃ y ∈ c, x = cutS ow tm y ∧ x.f < x.t := by
  unfold cutL
  simp only [List.mem_filter, List.mem_map, decide_eq_true_iff]
  constructor
  · rintro ⟨⟨y, h1, rfl⟩, h2⟩; exact ⟨y, h1, rfl, h2⟩
  · rintro ⟨y, h1, rfl, h2⟩; exact ⟨⟨y, h1, rfl⟩, h2⟩
theorem cutS_f (ow tm : Int) (s : Sl) : (cutS ow tm s).f = s.f := by unfold cutS; split <;> rfl
theorem cutS_o (ow tm : Int) (s : Sl) : (cutS ow tm s).o = s.o := by unfold cutS; split <;> rfl
theorem cutS_t (ow tm : Int) (s : Sl) : (cutS ow tm s).t ≤ s.t := by
  unfold cutS
  split
  · show min s.t tm ≤ s.t; omega
  · exact Int.le_refl _
theorem cutL_chain {c : List Sl} (ow tm : Int) (hch : chain 0 c = true) : chain 0 (cutL ow tm c) = true := by
  obtain ⟨hm, hp⟩ := chain0_iff.1 hch
  rw [chain0_iff]
  refine ⟨fun x hx => ?_, ?_⟩
  · obtain ⟨y, hy, rfl, hlt⟩ := mem_cutL.1 hx
    obtain ⟨⟨⟨m1, m2⟩, m3⟩, m4, m5⟩ := hm y hy
    have e1 := cutS_f ow tm y
    have e2 := cutS_t ow tm y
    have e3 := cutS_o ow tm y
    exact ⟨⟨⟨by omega, hlt⟩, by omega⟩, by omega, by omega⟩
  · unfold cutL
    refine List.Pairwise.filter _ ?_
    rw [List.pairwise_map]
    refine hp.imp ?_
    intro a b hab
    have e1 := cutS_f ow tm b
    have e2 := cutS_t ow tm a
    omega
theorem cutL_ok {c : List Sl} (ow tm : Int) (h : calE c = 0) : calE (cutL ow tm c) = 0 := by
  obtain ⟨hch, hl⟩ := calE_ok h
  rw [calE_iff]
  exact ⟨Nat.le_trans (cutL_len ow tm c) hl, cutL_chain ow tm hch⟩
/-- As the document ends them. -/
def endO (ow tm : Int) (s : Sl) : Option Sl := if s.o = ow then (if tm ≤ s.f then none else if tm < s.t then some ⟨s.f, tm, s.o⟩ else some s) else some s
def endL (ow tm : Int) (c : List Sl) : List Sl := c.filterMap (endO ow tm)
theorem endL_eq {c : List Sl} (ow tm : Int) (hm : ∀ s ∈ c, s.may) : endL ow tm c = cutL ow tm c := by
  induction c with
  | nil => rfl
  | cons s c ih =>
    have ih' := ih (fun x hx => hm x (List.mem_cons_of_mem _ hx))
    have hs := (hm s (List.mem_cons_self ..)).1.1
    unfold endL cutL at ih' ⊢
    rw [List.filterMap_cons, List.map_cons, List.filter_cons, ih']
    unfold endO cutS
    by_cases h1 : s.o = ow
    · rw [if_pos h1, if_pos h1]
      by_cases h2 : tm ≤ s.f
      · rw [if_pos h2, if_neg (by simp; omega)]
      · rw [if_neg h2]
        by_cases h3 : tm < s.t
        · rw [if_pos h3, if_pos (by simp; omega)]
          simp only [show min s.t tm = tm by omega]
        · rw [if_neg h3, if_pos (by simp; omega)]
          simp only [show min s.t tm = s.t by omega]
    · rw [if_neg h1, if_neg h1, if_pos (by simpa using hs.2)]
/-- Without an owner's. -/
def lessL (ow : Int) (c : List Sl) : List Sl := c.filter (fun s => decide (s.o ≠ ow))
theorem lessL_eq {c : List Sl} (ow : Int) (hm : ∀ s ∈ c, s.may) : lessL ow c = cutL ow 0 c := by
  induction c with
  | nil => rfl
  | cons s c ih =>
    have ih' := ih (fun x hx => hm x (List.mem_cons_of_mem _ hx))
    have hs := (hm s (List.mem_cons_self ..)).1.1
    unfold lessL cutL at ih' ⊢
    rw [List.filter_cons, List.map_cons, List.filter_cons, ih']
    unfold cutS
    by_cases h1 : s.o = ow
    · rw [if_neg (by simpa using h1), if_pos h1, if_neg (by simp; omega)]
    · rw [if_pos (by simpa using h1), if_neg h1, if_pos (by simpa using hs.2)]
theorem cutL_twice (ow a b : Int) (c : List Sl) : cutL ow b (cutL ow a c) = cutL ow (min a b) c := by
  unfold cutL
  induction c with
  | nil => rfl
  | cons s c ih =>
    simp only [List.map_cons, List.filter_cons]
    by_cases h1 : s.o = ow
    · have e1 : cutS ow a s = ⟨s.f, min s.t a, s.o⟩ := if_pos h1
      have e2 : cutS ow (min a b) s = ⟨s.f, min s.t (min a b), s.o⟩ := if_pos h1
      have e3 : cutS ow b ⟨s.f, min s.t a, s.o⟩ = ⟨s.f, min (min s.t a) b, s.o⟩ := if_pos h1
      rw [e1, e2]
      by_cases h2 : s.f < min s.t a
      · rw [if_pos (by simpa using h2), List.map_cons, List.filter_cons, e3, ih]
        simp only [show min (min s.t a) b = min s.t (min a b) by omega]
      · rw [if_neg (by simpa using h2), if_neg (by simp; omega), ih]
    · have e1 : cutS ow a s = s := if_neg h1
      have e2 : cutS ow (min a b) s = s := if_neg h1
      have e3 : cutS ow b s = s := if_neg h1
      rw [e1, e2]
      by_cases h2 : s.f < s.t
      · rw [if_pos (by simpa using h2), if_pos (by simpa using h2), List.map_cons, List.filter_cons, e3, if_pos (by simpa using h2), ih]
      · rw [if_neg (by simpa using h2), if_neg (by simpa using h2), ih]
theorem cutL_all {c : List Sl} (ow : Int) (hm : ∀ s ∈ c, s.may) : cutL ow 1099511627776 c = c := by
  unfold cutL
  induction c with
  | nil => rfl
  | cons s c ih =>
    have hs := (hm s (List.mem_cons_self ..)).1
    have e : cutS ow 1099511627776 s = s := by
      unfold cutS
      split
      · rw [show min s.t 1099511627776 = s.t by have := hs.2; omega]
      · rfl
    rw [List.map_cons, List.filter_cons, e, if_pos (by simpa using hs.1.2), ih (fun x hx => hm x (List.mem_cons_of_mem _ hx))]
/-- Ended, each moment has the same owner as ahead; theirs behind it has none. -/
theorem cut_At {c : List Sl} (hch : chain 0 c = true) (ow tm a : Int) : hitAt (cutL ow tm c) a = match hitAt c a with
    | some s => if s.o = ow ∧ tm ≤ a then none else some (cutS ow tm s)
    | none => none := by
  have hcu := cutL_chain ow tm hch
  cases h : hitAt c a with
  | none =>
    cases h2 : hitAt (cutL ow tm c) a with
    | none => rfl
    | some x =>
      obtain ⟨hx, h3, h4⟩ := (hit_iff hcu a x).1 h2
      obtain ⟨y, hy, rfl, _⟩ := mem_cutL.1 hx
      have := (hit_iff hch a y).2 ⟨hy, by rw [cutS_f] at h3; exact h3, by have := cutS_t ow tm y; omega⟩
      rw [h] at this; cases this
  | some s =>
    obtain ⟨hs, h3, h4⟩ := (hit_iff hch a s).1 h
    show _ = if s.o = ow ∧ tm ≤ a then none else some (cutS ow tm s)
    by_cases e : s.o = ow ∧ tm ≤ a
    · rw [if_pos e]
      cases h2 : hitAt (cutL ow tm c) a with
      | none => rfl
      | some x =>
        obtain ⟨hx, h5, h6⟩ := (hit_iff hcu a x).1 h2
        obtain ⟨y, hy, rfl, _⟩ := mem_cutL.1 hx
        have := (hit_iff hch a y).2 ⟨hy, by rw [cutS_f] at h5; exact h5, by have := cutS_t ow tm y; omega⟩
        rw [h] at this; cases this
        unfold cutS at h6
        rw [if_pos e.1] at h6
        simp only at h6
        omega
    · rw [if_neg e, hit_iff hcu]
      have e1 : a < (cutS ow tm s).t := by
        unfold cutS
        split
        · next h5 => show a < min s.t tm; have := fun h6 => e ⟨h5, h6⟩; omega
        · exact h4
      exact ⟨mem_cutL.2 ⟨s, hs, rfl, by rw [cutS_f]; omega⟩, by rw [cutS_f]; exact h3, e1⟩
theorem put_At_in {c : List Sl} {s : Sl} (h : putE c s = 0) {a : Int} (ha : s.f ≤ a ∧ a < s.t) : hitAt c a = none ∧ hitAt (putL c s) a = some s := by
  obtain ⟨h0, h1, h2, h3⟩ := putE_0 h
  have hch := (calE_ok h0).1
  have hno := free_no hch h1.1.1.2 h2
  constructor
  · cases h4 : hitAt c a with
    | none => rfl
    | some x =>
      obtain ⟨hx, h5, h6⟩ := (hit_iff hch a x).1 h4
      have := hno x hx
      omega
  · rw [hit_iff (putL_chain hch h1 h2)]
    exact ⟨mem_putL.2 (.inl rfl), ha⟩
theorem put_At_out {c : List Sl} {s : Sl} (h : putE c s = 0) {a : Int} (ha : ¬ (s.f ≤ a ∧ a < s.t)) : hitAt (putL c s) a = hitAt c a := by
  obtain ⟨h0, h1, h2, h3⟩ := putE_0 h
  have hch := (calE_ok h0).1
  refine hit_ext (putL_chain hch h1 h2) hch a a (fun x => ?_)
  rw [mem_putL]
  constructor
  · rintro ⟨rfl | h4, h5⟩
    · exact absurd h5 ha
    · exact ⟨h4, h5⟩
  · rintro ⟨h4, h5⟩; exact ⟨.inr h4, h5⟩
theorem cut_put {c : List Sl} {s : Sl} (h : putE c s = 0) : cutL s.o 0 (putL c s) = cutL s.o 0 c := by
  obtain ⟨h0, h1, h2, h3⟩ := putE_0 h
  have hm := (chain0_iff.1 (calE_ok h0).1).1
  have hm2 : ∀ x ∈ putL c s, x.may := fun x hx => by
    rcases mem_putL.1 hx with rfl | hx
    · exact h1
    · exact hm x hx
  rw [← lessL_eq s.o hm2, ← lessL_eq s.o hm]
  unfold lessL putL
  rw [List.filter_append, List.filter_cons, if_neg (by simp), ← List.filter_append, List.take_append_drop]
end Go.Proofs.Ytfikgjcmnooglaa
