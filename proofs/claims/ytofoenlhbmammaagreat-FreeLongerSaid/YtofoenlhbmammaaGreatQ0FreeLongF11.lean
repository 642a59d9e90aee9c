/- FREE, THE PLAIN LAW: a longer job, a later start, more that is bad. -/
import Derived.Test.YtofoenlhbmammaaGreatQ0FreeMoreF11
set_option linter.unusedVariables false
set_option linter.unusedSimpArgs false
namespace Go.Proofs.YtofoenlhbmammaaGreat

section
open Go.RowKit Go.Shelf

theorem okWide_int_has {P : Program} {w : World} {r : Reach} {base : Nat} {t : TypeId} {v : Value} {k : IntKind} (ht : P.underlying t = some (.int k)) (h : Value.okWide P w r base t v) : ∃ n, v = .int k n ∧ k.has n := by
  simp only [Value.okWide, ht, Cell.okWide] at h
  cases v <;> simp_all [Cell.ok]
theorem clear_short {a long m : Int} (hl : 1 ≤ long) (hm : 0 ≤ m) (c : List Sl) (hc : calE c = 0) (h : clearB c a (a + (long + m)) = true) : clearB c a (a + long) = true := by
  rw [clear_at hc (by omega)] at h ⊢
  intro k hk
  rcases h k hk with h3 | h3
  · exact .inl h3
  · right; omega
theorem free_shorter {y : Yd} {p : Pl} {a long m : Int} (hok : y.okB = true) (hp : plChk y.d p = 0) (hl : 1 ≤ long) (hm : 0 ≤ m) (h : freeAt y (midsV y.d p) (linksV y.d p) (long + m) a = true) : freeAt y (midsV y.d p) (linksV y.d p) long a = true := by
  have pf := pl_facts hp
  have hn := ok_n hok
  have hL := Yd.ok_len hok
  have hM := Yd.ok_many hok
  have hA := Yd.ok_all hok
  unfold freeAt at h ⊢
  simp only [Bool.and_eq_true, Bool.not_eq_true'] at h ⊢
  refine ⟨meet_mono hM.1 (by rw [hn]; exact pf.mChk) (midsV_fit _ _) (fun c hc hp => ?_) h.1, meet_mono hM.2 (by rw [hL, hn]; exact pf.lChk) (linksV_fit _ _) (fun c hc hp => ?_) h.2⟩
  · cases hq : clearB c a (a + (long + m)) with
    | false => rfl
    | true => rw [clear_short hl hm c (hA.1 c hc) hq] at hp; cases hp
  · cases hq : clearB c a (a + (long + m)) with
    | false => rfl
    | true => rw [clear_short hl hm c (hA.2 c hc) hq] at hp; cases hp
theorem soonE_or {y : Yd} {p : Pl} {ms ks : List Nat} {fr long : Int} (hc : y.okB = true) (hh : holdE y.d p ms ks = 0) (hl : 1 ≤ long) (ht : timesE y fr = 0) : soonE y p ms ks fr long = 0 ∨ soonE y p ms ks fr long = 6 := by
  have h1 : y.chk = 0 := by unfold Yd.chk; rw [hc]; rfl
  unfold soonE
  rw [if_pos h1, if_pos hh, if_pos (by unfold soonA; rw [if_neg (by omega)]; exact ht)]
  split
  · exact .inl rfl
  · exact .inr rfl
theorem times_later {y : Yd} {fr m : Int} (h : timesE y fr = 0) (h1 : fr ≤ 1000000) (h2 : 0 ≤ m) (h3 : m ≤ 255) : timesE y (fr + m) = 0 := by
  have h0 := times_0 h
  unfold timesE
  rw [times_ok h, if_pos rfl, if_pos ⟨by omega, by omega⟩]
/-- A longer job is not free sooner. -/
theorem soon_longer {y : Yd} {p : Pl} {ms ks : List Nat} {fr long m : Int} (h : soonE y p ms ks fr long = 0) (hm : 0 ≤ m) :
    (soonE y p ms ks fr (long + m) = 0 ∨ soonE y p ms ks fr (long + m) = 6) ∧ (soonE y p ms ks fr (long + m) = 0 → soonV y p ms ks fr long ≤ soonV y p ms ks fr (long + m)) := by
  obtain ⟨hok, hh, hl, ht, _⟩ := soonE_6 (.inl h)
  refine ⟨soonE_or hok hh (by omega) ht, fun h2 => ?_⟩
  obtain ⟨t1, _, _, t4, t5⟩ := soon_at h2
  by_cases hlt : soonV y p ms ks fr (long + m) < soonV y p ms ks fr long
  · have h3 := soon_ahead h t1 hlt (by omega)
    rw [Bool.and_eq_true] at t5
    rw [free_shorter hok (holdE_0 hh).1 hl hm t5.1] at h3
    cases h3
  · omega
/-- One from a later moment on is not either. -/
theorem soon_later {y : Yd} {p : Pl} {ms ks : List Nat} {fr long m : Int} (h : soonE y p ms ks fr long = 0) (h1 : fr ≤ 1000000) (hm : 0 ≤ m) (h3 : m ≤ 255) :
    (soonE y p ms ks (fr + m) long = 0 ∨ soonE y p ms ks (fr + m) long = 6) ∧ (soonE y p ms ks (fr + m) long = 0 → soonV y p ms ks fr long ≤ soonV y p ms ks (fr + m) long) := by
  obtain ⟨hok, hh, hl, ht, _⟩ := soonE_6 (.inl h)
  refine ⟨soonE_or hok hh hl (times_later ht h1 hm h3), fun h2 => ?_⟩
  obtain ⟨t1, _, _, t4, t5⟩ := soon_at h2
  by_cases hlt : soonV y p ms ks (fr + m) long < soonV y p ms ks fr long
  · have h4 := soon_ahead h (by omega) hlt t4
    rw [Bool.and_eq_true] at t5
    rw [t5.1] at h4
    cases h4
  · omega
/-- With more that is bad it is the same moment, or none. -/
theorem soon_more {y : Yd} {p : Pl} {ms ks bs : List Nat} {fr long : Int} (h : soonE y p ms ks fr long = 0) (ha : sChk y.d.n bs = 0) :
    soonE y p bs ks fr long = 6 ∨ soonE y p bs ks fr long = 0 ∧ soonV y p bs ks fr long = soonV y p ms ks fr long := by
  obtain ⟨hok, hh, hl, ht, _⟩ := soonE_6 (.inl h)
  obtain ⟨hp, _, a2⟩ := holdE_0 hh
  have hh2 : holdE y.d p bs ks = 0 := holdE_of hp ha a2
  rcases soonE_or hok hh2 hl ht with h1 | h1
  · right
    refine ⟨h1, ?_⟩
    have e1 := (soon_some h).2
    have e2 := (soon_some h1).2
    rw [e1] at e2
    exact (Option.some.inj e2).symm
  · exact .inl h1
theorem soon_or {y : Yd} {p : Pl} {ms ks bad : List Nat} {fr long : Int} (h : soonE y p ms ks fr long = 0) (f1 : W64 ms) (f2 : W64 bad) (h2 : sChk2 y.ns.length ms bad = 0) :
    soonE y p (joinIf orW y.ns.length ms bad) ks fr long = 6 ∨ soonE y p (joinIf orW y.ns.length ms bad) ks fr long = 0 ∧ soonV y p (joinIf orW y.ns.length ms bad) ks fr long = soonV y p ms ks fr long := by
  have hn := ok_n (soonE_6 (.inl h)).1
  refine soon_more h ?_
  rw [← hn]
  exact (or_may h2 f1 f2).1
end
end Go.Proofs.YtofoenlhbmammaaGreat
