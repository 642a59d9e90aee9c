/- CalNext: the span from Next on is free, and none sooner: the call returns true, whatever the calendar, the moments and the length. -/
import Derived.Test.YtfikgjcmnooglaaCalAlive
import Derived.Test.YtfikgjcmnooglaaCalLaw
import Derived.Test.YtfikgjcmnooglaaRowCal
namespace Go.Proofs.Ytfikgjcmnooglaa
open Go.ChangeShapes Go.WideShapes Go.ChangeAt Go.RowKit Go.Shelf

theorem next_good {c : List Sl} (hch : chain 0 c = true) {fr long : Int} (hl : 1 ≤ long) :
    fr ≤ nextN c fr long ∧ clearB c (nextN c fr long) (nextN c fr long + long) = true ∧ ∀ x, fr ≤ x → clearB c x (x + long) = true → nextN c fr long ≤ x := by
  have hal := aft_le c fr
  have hI := fun (k : Nat) (hk : k < c.length) => aft_iff hch fr hk
  obtain ⟨n1, _, n4, n5⟩ := nextF_good hch hl (fr := fr) (c.length - aft c fr) (aft c fr) fr (by omega) (Int.le_refl _) ⟨0, by omega, rfl⟩ (fun k hk h => (hI k hk).2 h)
    (fun k hk h => by
      rcases Int.lt_or_le fr c[k].t with h1 | h1
      · exact h1
      · have := (hI k hk).1 h1; omega) (fun x hx _ => hx)
  exact ⟨n1, n4, n5⟩
theorem free_at {c : List Sl} (h0 : calE c = 0) {f t : Int} (h : spMay f t) : freeE c f t = 0 ∧ freeV c f t = clearB c f t := by
  have e : freeE c f t = 0 := by unfold freeE; rw [if_pos h0, okIf_yes h]
  exact ⟨e, by rw [freeV, if_pos e, free_clear (calE_ok h0).1 h.1.2]⟩
theorem nextE_cases (c : List Sl) (fr long : Int) : (nextE c fr long ≠ 0 ∧ nextE c fr long ≠ 6 ∧ nextV c fr long = 0) ∨
    (nextE c fr long = 0 ∧ nextV c fr long = nextN c fr long ∧ calE c = 0 ∧ (0 ≤ fr ∧ fr < 1099511627776) ∧ 1 ≤ long ∧ long ≤ 1099511627776 - nextN c fr long) ∨
    (nextE c fr long = 6 ∧ nextV c fr long = 0 ∧ calE c = 0 ∧ (0 ≤ fr ∧ fr < 1099511627776) ∧ 1 ≤ long ∧ 1099511627776 - nextN c fr long < long) := by
  unfold nextV nextE
  by_cases h0 : calE c = 0
  · rw [if_pos h0]
    by_cases h1 : (0 ≤ fr ∧ fr < 1099511627776) ∧ 1 ≤ long
    · rw [if_pos h1]
      by_cases h2 : long ≤ 1099511627776 - nextN c fr long
      · rw [if_pos h2]; exact .inr (.inl ⟨rfl, rfl, h0, h1.1, h1.2, h2⟩)
      · rw [if_neg h2]; exact .inr (.inr ⟨rfl, rfl, h0, h1.1, h1.2, by omega⟩)
    · rw [if_neg h1]; exact .inl ⟨by decide, by decide, rfl⟩
  · rw [if_neg h0, if_neg h0]
    refine .inl ⟨h0, ?_, rfl⟩
    unfold calE
    split <;> decide

set_option maxRecDepth 100000 in set_option maxHeartbeats 4000000 in
theorem core_CalNext (ba : Option Addr) (ca : Nat) (c : List Sl) (fr long other : Int) (w : World) (hc : CS w (.slice ba c.length ca) c) (h3 : long ≤ 9223372036854775807) (hl : c.length ≤ 5000) :
    Calls Try.prog 6 #[.slice ba c.length ca, .int .i64 fr, .int .i64 long, .int .i64 other] w (RB w (.bool true)) := by
  have HAl := Lib.hid (fun W => law08_alive W)
  have HB := Lib.hid (Below.refl w.heap.size w)
  have HC := Lib.hid hc
  have HN0 := Lib.hid (fun W (h : CS W (.slice ba c.length ca) c) => s_Next h fr long h3)
  have HF0 := Lib.hid (fun f t W (h : CS W (.slice ba c.length ca) c) => s_Free h f t)
  clear hc
  have hd0 : decide (5000 < c.length) = false := decide_eq_false (by omega)
  rcases nextE_cases c fr long with ⟨e1, e2, e3⟩ | ⟨e1, e2, h0, ⟨f0, f1⟩, l1, l2⟩ | ⟨e1, e2, h0, ⟨f0, f1⟩, l1, l2⟩
  · have HN := Lib.hid (fun W h => Calls.rb_eq (HN0.out W h) (show _ = Value.tuple #[.int .i64 0, .int .i64 (nextE c fr long)] by rw [e3]))
    have g1 : (nextE c fr long == 0) = false := by simpa using e1
    have g2 : (nextE c fr long == 6) = false := by simpa using e2
    have g3 : (nextE c fr long != 0) = true := by simpa using e1
    have g4 : (nextE c fr long != 6) = true := by simpa using e2
    clear HN0 HF0 e3
    generalize nextE c fr long = E at *
    (go_enter Try.func6, Try.ntmps6; go_wp2_with fail; refine (HAl.out _).mono ?_; rintro e w1 ⟨rfl, hb⟩; (have HB := Lib.hid (below_then HB.out hb); (try have HC := Lib.hid (HC.out.keep hb))); clear hb; go_wp2_with fail; refine (HN.out _ HC.out).mono ?_; rintro e w2 ⟨rfl, hb⟩; (have HB := Lib.hid (below_then HB.out hb); (try have HC := Lib.hid (HC.out.keep hb))); clear hb; go_wp2_with fail)
    (go_returns; exact ⟨rfl, HB.out⟩)
  · obtain ⟨g1, g2, g3⟩ := next_good (calE_ok h0).1 (fr := fr) l1
    have HN := Lib.hid (fun W h => Calls.rb_eq (HN0.out W h) (show _ = Value.tuple #[.int .i64 (nextN c fr long), .int .i64 0] by rw [e1, e2]))
    have hsp : spMay (nextN c fr long) (nextN c fr long + long) := ⟨⟨by omega, by omega⟩, by omega⟩
    have hfa := free_at h0 hsp
    have HG := Lib.hid (fun W h => Calls.rb_eq (HF0.out (nextN c fr long) (nextN c fr long + long) W h) (show _ = Value.tuple #[.bool true, .int .i64 0] by rw [hfa.1, hfa.2, g2]))
    have HO0 := Lib.hid (fun (h1 : fr ≤ other) (h2 : other < 1099511627776) (h4 : long ≤ 1099511627776 - other) (h5 : other < nextN c fr long) W h => Calls.rb_eq (HF0.out other (other + long) W h) (show _ = Value.tuple #[.bool false, .int .i64 0] by
      obtain ⟨q1, q2⟩ := free_at h0 (show spMay other (other + long) from ⟨⟨by omega, by omega⟩, by omega⟩)
      rw [q1, q2]
      cases hq : clearB c other (other + long)
      · rfl
      · have := g3 other h1 hq; omega))
    clear HN0 HF0 e1 e2 h0 hfa g2 g3
    generalize nextN c fr long = N at *
    have HF := Lib.hid (fun W => time_From N long W (by omega) (by omega) l1 l2)
    have HL := Lib.hid (fun W => Calls.rb_eq (time_Long N (N + long) W hsp) (show _ = Value.tuple #[.int .i64 long, .int .i64 0] by rw [show N + long - N = long by omega]))
    have hnf : decide (N < fr) = false := decide_eq_false (by omega)
    clear hsp
    by_cases c1 : other < fr
    · have d1 : decide (other < fr) = true := decide_eq_true c1
      (go_enter Try.func6, Try.ntmps6; go_wp2_with fail; refine (HAl.out _).mono ?_; rintro e w1 ⟨rfl, hb⟩; (have HB := Lib.hid (below_then HB.out hb); (try have HC := Lib.hid (HC.out.keep hb))); clear hb; go_wp2_with fail; refine (HN.out _ HC.out).mono ?_; rintro e w2 ⟨rfl, hb⟩; (have HB := Lib.hid (below_then HB.out hb); (try have HC := Lib.hid (HC.out.keep hb))); clear hb; go_wp2_with fail)
      (refine (HF.out _).mono ?_; rintro e w3 ⟨rfl, hb⟩; (have HB := Lib.hid (below_then HB.out hb); (try have HC := Lib.hid (HC.out.keep hb))); clear hb; go_wp2_with fail; refine (HL.out _).mono ?_; rintro e w4 ⟨rfl, hb⟩; have hb' := below_then (show Below w3.heap.size w3 _ by (repeat (first | (with_reducible exact Below.refl _ _) | (with_reducible assumption) | (with_reducible refine below_alloc ?_ _) | (with_reducible refine below_drewN ?_ _) | (with_reducible refine Below.drew ?_) | (with_reducible refine below_then ?_ (by with_reducible assumption)) | (with_reducible refine Below.setCell ?_ (by go_size) _)))) hb; obtain ⟨hcx, _⟩ := bcell hb; have k0 : w4.cell? ⟨w3.heap.size, 0, none⟩ = some (.int .i64 N) := (hcx _ _ (by simp)).trans (by simp [go_sem]); have k1 : w4.cell? ⟨w3.heap.size, 1, none⟩ = some (.int .i64 (N + long)) := (hcx _ _ (by simp)).trans (by simp [go_sem]); (have HB := Lib.hid (below_then HB.out hb'); (try have HC := Lib.hid (HC.out.keep hb'))); clear hb hb' hcx; go_wp2_with fail; refine (HG.out _ HC.out).mono ?_; rintro e w5 ⟨rfl, hb⟩; (have HB := Lib.hid (below_then HB.out hb); (try have HC := Lib.hid (HC.out.keep hb))); clear hb; go_wp2_with fail)
      (go_returns; exact ⟨rfl, HB.out⟩)
    have d1 : decide (other < fr) = false := decide_eq_false c1
    by_cases c2 : 1099511627776 ≤ other
    · have d2 : decide (1099511627776 ≤ other) = true := decide_eq_true c2
      (go_enter Try.func6, Try.ntmps6; go_wp2_with fail; refine (HAl.out _).mono ?_; rintro e w1 ⟨rfl, hb⟩; (have HB := Lib.hid (below_then HB.out hb); (try have HC := Lib.hid (HC.out.keep hb))); clear hb; go_wp2_with fail; refine (HN.out _ HC.out).mono ?_; rintro e w2 ⟨rfl, hb⟩; (have HB := Lib.hid (below_then HB.out hb); (try have HC := Lib.hid (HC.out.keep hb))); clear hb; go_wp2_with fail)
      (refine (HF.out _).mono ?_; rintro e w3 ⟨rfl, hb⟩; (have HB := Lib.hid (below_then HB.out hb); (try have HC := Lib.hid (HC.out.keep hb))); clear hb; go_wp2_with fail; refine (HL.out _).mono ?_; rintro e w4 ⟨rfl, hb⟩; have hb' := below_then (show Below w3.heap.size w3 _ by (repeat (first | (with_reducible exact Below.refl _ _) | (with_reducible assumption) | (with_reducible refine below_alloc ?_ _) | (with_reducible refine below_drewN ?_ _) | (with_reducible refine Below.drew ?_) | (with_reducible refine below_then ?_ (by with_reducible assumption)) | (with_reducible refine Below.setCell ?_ (by go_size) _)))) hb; obtain ⟨hcx, _⟩ := bcell hb; have k0 : w4.cell? ⟨w3.heap.size, 0, none⟩ = some (.int .i64 N) := (hcx _ _ (by simp)).trans (by simp [go_sem]); have k1 : w4.cell? ⟨w3.heap.size, 1, none⟩ = some (.int .i64 (N + long)) := (hcx _ _ (by simp)).trans (by simp [go_sem]); (have HB := Lib.hid (below_then HB.out hb'); (try have HC := Lib.hid (HC.out.keep hb'))); clear hb hb' hcx; go_wp2_with fail; refine (HG.out _ HC.out).mono ?_; rintro e w5 ⟨rfl, hb⟩; (have HB := Lib.hid (below_then HB.out hb); (try have HC := Lib.hid (HC.out.keep hb))); clear hb; go_wp2_with fail)
      (go_returns; exact ⟨rfl, HB.out⟩)
    have d2 : decide (1099511627776 ≤ other) = false := decide_eq_false c2
    by_cases c3 : 1099511627776 - other < long
    · have d3 : decide (1099511627776 - other < long) = true := decide_eq_true c3
      (go_enter Try.func6, Try.ntmps6; go_wp2_with fail; refine (HAl.out _).mono ?_; rintro e w1 ⟨rfl, hb⟩; (have HB := Lib.hid (below_then HB.out hb); (try have HC := Lib.hid (HC.out.keep hb))); clear hb; go_wp2_with fail; refine (HN.out _ HC.out).mono ?_; rintro e w2 ⟨rfl, hb⟩; (have HB := Lib.hid (below_then HB.out hb); (try have HC := Lib.hid (HC.out.keep hb))); clear hb; go_wp2_with fail)
      (refine (HF.out _).mono ?_; rintro e w3 ⟨rfl, hb⟩; (have HB := Lib.hid (below_then HB.out hb); (try have HC := Lib.hid (HC.out.keep hb))); clear hb; go_wp2_with fail; refine (HL.out _).mono ?_; rintro e w4 ⟨rfl, hb⟩; have hb' := below_then (show Below w3.heap.size w3 _ by (repeat (first | (with_reducible exact Below.refl _ _) | (with_reducible assumption) | (with_reducible refine below_alloc ?_ _) | (with_reducible refine below_drewN ?_ _) | (with_reducible refine Below.drew ?_) | (with_reducible refine below_then ?_ (by with_reducible assumption)) | (with_reducible refine Below.setCell ?_ (by go_size) _)))) hb; obtain ⟨hcx, _⟩ := bcell hb; have k0 : w4.cell? ⟨w3.heap.size, 0, none⟩ = some (.int .i64 N) := (hcx _ _ (by simp)).trans (by simp [go_sem]); have k1 : w4.cell? ⟨w3.heap.size, 1, none⟩ = some (.int .i64 (N + long)) := (hcx _ _ (by simp)).trans (by simp [go_sem]); (have HB := Lib.hid (below_then HB.out hb'); (try have HC := Lib.hid (HC.out.keep hb'))); clear hb hb' hcx; go_wp2_with fail; refine (HG.out _ HC.out).mono ?_; rintro e w5 ⟨rfl, hb⟩; (have HB := Lib.hid (below_then HB.out hb); (try have HC := Lib.hid (HC.out.keep hb))); clear hb; go_wp2_with fail)
      (go_returns; exact ⟨rfl, HB.out⟩)
    have d3 : decide (1099511627776 - other < long) = false := decide_eq_false c3
    by_cases c4 : N ≤ other
    · have d4 : decide (N ≤ other) = true := decide_eq_true c4
      (go_enter Try.func6, Try.ntmps6; go_wp2_with fail; refine (HAl.out _).mono ?_; rintro e w1 ⟨rfl, hb⟩; (have HB := Lib.hid (below_then HB.out hb); (try have HC := Lib.hid (HC.out.keep hb))); clear hb; go_wp2_with fail; refine (HN.out _ HC.out).mono ?_; rintro e w2 ⟨rfl, hb⟩; (have HB := Lib.hid (below_then HB.out hb); (try have HC := Lib.hid (HC.out.keep hb))); clear hb; go_wp2_with fail)
      (refine (HF.out _).mono ?_; rintro e w3 ⟨rfl, hb⟩; (have HB := Lib.hid (below_then HB.out hb); (try have HC := Lib.hid (HC.out.keep hb))); clear hb; go_wp2_with fail; refine (HL.out _).mono ?_; rintro e w4 ⟨rfl, hb⟩; have hb' := below_then (show Below w3.heap.size w3 _ by (repeat (first | (with_reducible exact Below.refl _ _) | (with_reducible assumption) | (with_reducible refine below_alloc ?_ _) | (with_reducible refine below_drewN ?_ _) | (with_reducible refine Below.drew ?_) | (with_reducible refine below_then ?_ (by with_reducible assumption)) | (with_reducible refine Below.setCell ?_ (by go_size) _)))) hb; obtain ⟨hcx, _⟩ := bcell hb; have k0 : w4.cell? ⟨w3.heap.size, 0, none⟩ = some (.int .i64 N) := (hcx _ _ (by simp)).trans (by simp [go_sem]); have k1 : w4.cell? ⟨w3.heap.size, 1, none⟩ = some (.int .i64 (N + long)) := (hcx _ _ (by simp)).trans (by simp [go_sem]); (have HB := Lib.hid (below_then HB.out hb'); (try have HC := Lib.hid (HC.out.keep hb'))); clear hb hb' hcx; go_wp2_with fail; refine (HG.out _ HC.out).mono ?_; rintro e w5 ⟨rfl, hb⟩; (have HB := Lib.hid (below_then HB.out hb); (try have HC := Lib.hid (HC.out.keep hb))); clear hb; go_wp2_with fail)
      (go_returns; exact ⟨rfl, HB.out⟩)
    have d4 : decide (N ≤ other) = false := decide_eq_false c4
    have HO := Lib.hid (HO0.out (by omega) (by omega) (by omega) (by omega))
    (go_enter Try.func6, Try.ntmps6; go_wp2_with fail; refine (HAl.out _).mono ?_; rintro e w1 ⟨rfl, hb⟩; (have HB := Lib.hid (below_then HB.out hb); (try have HC := Lib.hid (HC.out.keep hb))); clear hb; go_wp2_with fail; refine (HN.out _ HC.out).mono ?_; rintro e w2 ⟨rfl, hb⟩; (have HB := Lib.hid (below_then HB.out hb); (try have HC := Lib.hid (HC.out.keep hb))); clear hb; go_wp2_with fail)
    (refine (HF.out _).mono ?_; rintro e w3 ⟨rfl, hb⟩; (have HB := Lib.hid (below_then HB.out hb); (try have HC := Lib.hid (HC.out.keep hb))); clear hb; go_wp2_with fail; refine (HL.out _).mono ?_; rintro e w4 ⟨rfl, hb⟩; have hb' := below_then (show Below w3.heap.size w3 _ by (repeat (first | (with_reducible exact Below.refl _ _) | (with_reducible assumption) | (with_reducible refine below_alloc ?_ _) | (with_reducible refine below_drewN ?_ _) | (with_reducible refine Below.drew ?_) | (with_reducible refine below_then ?_ (by with_reducible assumption)) | (with_reducible refine Below.setCell ?_ (by go_size) _)))) hb; obtain ⟨hcx, _⟩ := bcell hb; have k0 : w4.cell? ⟨w3.heap.size, 0, none⟩ = some (.int .i64 N) := (hcx _ _ (by simp)).trans (by simp [go_sem]); have k1 : w4.cell? ⟨w3.heap.size, 1, none⟩ = some (.int .i64 (N + long)) := (hcx _ _ (by simp)).trans (by simp [go_sem]); (have HB := Lib.hid (below_then HB.out hb'); (try have HC := Lib.hid (HC.out.keep hb'))); clear hb hb' hcx; go_wp2_with fail; refine (HG.out _ HC.out).mono ?_; rintro e w5 ⟨rfl, hb⟩; (have HB := Lib.hid (below_then HB.out hb); (try have HC := Lib.hid (HC.out.keep hb))); clear hb; go_wp2_with fail)
    (refine (HO.out _ HC.out).mono ?_; rintro e w6 ⟨rfl, hb⟩; (have HB := Lib.hid (below_then HB.out hb); (try have HC := Lib.hid (HC.out.keep hb))); clear hb; go_wp2_with fail; (go_returns; exact ⟨rfl, HB.out⟩))
  · obtain ⟨g1, g2, g3⟩ := next_good (calE_ok h0).1 (fr := fr) l1
    have HN := Lib.hid (fun W h => Calls.rb_eq (HN0.out W h) (show _ = Value.tuple #[.int .i64 0, .int .i64 6] by rw [e1, e2]))
    have HO0 := Lib.hid (fun (h1 : fr ≤ other) (h2 : other < 1099511627776) (h4 : long ≤ 1099511627776 - other) W h => Calls.rb_eq (HF0.out other (other + long) W h) (show _ = Value.tuple #[.bool false, .int .i64 0] by
      obtain ⟨q1, q2⟩ := free_at h0 (show spMay other (other + long) from ⟨⟨by omega, by omega⟩, by omega⟩)
      rw [q1, q2]
      cases hq : clearB c other (other + long)
      · rfl
      · have := g3 other h1 hq; omega))
    clear HN0 HF0 e1 e2 h0 g1 g2 g3 l2
    by_cases c1 : other < fr
    · have d1 : decide (other < fr) = true := decide_eq_true c1
      (go_enter Try.func6, Try.ntmps6; go_wp2_with fail; refine (HAl.out _).mono ?_; rintro e w1 ⟨rfl, hb⟩; (have HB := Lib.hid (below_then HB.out hb); (try have HC := Lib.hid (HC.out.keep hb))); clear hb; go_wp2_with fail; refine (HN.out _ HC.out).mono ?_; rintro e w2 ⟨rfl, hb⟩; (have HB := Lib.hid (below_then HB.out hb); (try have HC := Lib.hid (HC.out.keep hb))); clear hb; go_wp2_with fail)
      (go_returns; exact ⟨rfl, HB.out⟩)
    have d1 : decide (other < fr) = false := decide_eq_false c1
    by_cases c2 : 1099511627776 ≤ other
    · have d2 : decide (1099511627776 ≤ other) = true := decide_eq_true c2
      (go_enter Try.func6, Try.ntmps6; go_wp2_with fail; refine (HAl.out _).mono ?_; rintro e w1 ⟨rfl, hb⟩; (have HB := Lib.hid (below_then HB.out hb); (try have HC := Lib.hid (HC.out.keep hb))); clear hb; go_wp2_with fail; refine (HN.out _ HC.out).mono ?_; rintro e w2 ⟨rfl, hb⟩; (have HB := Lib.hid (below_then HB.out hb); (try have HC := Lib.hid (HC.out.keep hb))); clear hb; go_wp2_with fail)
      (go_returns; exact ⟨rfl, HB.out⟩)
    have d2 : decide (1099511627776 ≤ other) = false := decide_eq_false c2
    by_cases c3 : 1099511627776 - other < long
    · have d3 : decide (1099511627776 - other < long) = true := decide_eq_true c3
      (go_enter Try.func6, Try.ntmps6; go_wp2_with fail; refine (HAl.out _).mono ?_; rintro e w1 ⟨rfl, hb⟩; (have HB := Lib.hid (below_then HB.out hb); (try have HC := Lib.hid (HC.out.keep hb))); clear hb; go_wp2_with fail; refine (HN.out _ HC.out).mono ?_; rintro e w2 ⟨rfl, hb⟩; (have HB := Lib.hid (below_then HB.out hb); (try have HC := Lib.hid (HC.out.keep hb))); clear hb; go_wp2_with fail)
      (go_returns; exact ⟨rfl, HB.out⟩)
    have d3 : decide (1099511627776 - other < long) = false := decide_eq_false c3
    have HO := Lib.hid (HO0.out (by omega) (by omega) (by omega))
    (go_enter Try.func6, Try.ntmps6; go_wp2_with fail; refine (HAl.out _).mono ?_; rintro e w1 ⟨rfl, hb⟩; (have HB := Lib.hid (below_then HB.out hb); (try have HC := Lib.hid (HC.out.keep hb))); clear hb; go_wp2_with fail; refine (HN.out _ HC.out).mono ?_; rintro e w2 ⟨rfl, hb⟩; (have HB := Lib.hid (below_then HB.out hb); (try have HC := Lib.hid (HC.out.keep hb))); clear hb; go_wp2_with fail)
    (refine (HO.out _ HC.out).mono ?_; rintro e w6 ⟨rfl, hb⟩; (have HB := Lib.hid (below_then HB.out hb); (try have HC := Lib.hid (HC.out.keep hb))); clear hb; go_wp2_with fail; (go_returns; exact ⟨rfl, HB.out⟩))

set_option maxRecDepth 100000 in set_option maxHeartbeats 4000000 in
theorem law08_CalNext (ba : Option Addr) (ca : Nat) (c : List Sl) (fr long other : Int) (w : World) (hr : Rd w ba (slc c)) (hca : c.length ≤ ca) (hna : ba = none → c.length = 0 ∧ ca = 0) (h3 : long ≤ 9223372036854775807) :
    Calls Try.prog 6 #[.slice ba c.length ca, .int .i64 fr, .int .i64 long, .int .i64 other] w (RB w (.bool true)) := by
  by_cases hl : c.length ≤ 5000
  · exact core_CalNext ba ca c fr long other w (CS.mk1 ⟨hr, by omega⟩ hca hna) h3 hl
  · have HAl := Lib.hid (fun W => law08_alive W)
    have hd0 : 5000 < c.length := by omega
    clear hr hca hna hl
    go_enter Try.func6, Try.ntmps6
    go_wp2_with fail
    refine (HAl.out _).mono ?_
    rintro e w1 ⟨rfl, hb⟩
    go_wp2_with fail
    go_returns
    exact ⟨rfl, hb⟩

theorem int_top {H : Type} {enc : TypeId × Value → H} {P : Program} {W : World} {t : TypeId} {n : Int} {d : DataW H} {p : List MemPlace} (ht : P.underlying t = some (.int .i64)) (h : DataW.Trod enc P W 0 (fun _ => true) true t (.int .i64 n) d p) : n ≤ 9223372036854775807 := by
  obtain ⟨fuel, hf⟩ := h
  obtain ⟨m, e, _, hw⟩ := DataW.trod_int ht hf
  simp [Value.cells] at e
  subst e
  simp [Lit.wf, IntKind.max, IntKind.min, IntKind.signed, IntKind.bits] at hw
  omega
set_option maxRecDepth 100000 in set_option maxHeartbeats 4000000 in
theorem lift_calNext (os : Os) (started : os.Started) (H : Type) (enc : TypeId × Value → H) :
    ReturnsInHanded {} Try.checked os 6 .any (Rows.calNextSpec.pre6 enc Try.prog Try.f6 Rows.calNextRow.domain false) (Rows.calNextSpec.post enc Try.prog Try.f6 false true false false) := by
  refine returnsInHanded_of_change (C := Try.checked) ownKnob0 started (by kernel_rfl) Try.func6
    (ChangeSpec.witness6 (enc := enc) (C := Try.checked) false ⟨#[], #[.slice none 0 0, .int .i64 0, .int .i64 0, .int .i64 0], []⟩ 8 (by kernel_rfl) (by kernel_rfl) (by kernel_rfl) (by kernel_rfl)) ?_
  intro W base args ds gs before hval0 hW hcnd _
  have hval : ∀ (j : Nat) t v, Try.f6.params[j]? = some t → args[j]? = some v → Value.okWide Try.prog W .any base t v := hval0
  have hW' := hW
  obtain ⟨p, q, hA0, hV, rfl, hfz, hnd⟩ := hW
  have hA : DataW.TrodAll enc Try.prog W 0 (fun _ => true) true Try.f6.params.toList args.toList ds p := hA0
  rw [Try.params6] at hA hval
  have hK := hA
  obtain ⟨v0, vs0, d0, ds0, p0, q0, hargs, rfl, rfl, h0, r0⟩ := trodAll_cons hA
  obtain ⟨v1, vs1, d1, ds1, p1, q1, rfl, rfl, rfl, h1, r1⟩ := trodAll_cons r0
  obtain ⟨v2, vs2, d2, ds2, p2, q2, rfl, rfl, rfl, h2, r2⟩ := trodAll_cons r1
  obtain ⟨v3, vs3, d3, ds3, p3, q3, rfl, rfl, rfl, h3, r3⟩ := trodAll_cons r2
  obtain ⟨rfl, rfl, rfl⟩ := trodAll_nil r3
  obtain rfl : args = #[v0, v1, v2, v3] := by cases args; simp_all
  obtain ⟨ba, c, ca, rfl, hc, hca, hna⟩ := open_slots (hval 0 _ v0 rfl rfl) h0
  obtain ⟨fr, rfl⟩ := okWide_int Try.underlying3 (hval 1 _ v1 rfl rfl)
  obtain ⟨long, rfl⟩ := okWide_int Try.underlying3 (hval 2 _ v2 rfl rfl)
  obtain ⟨other, rfl⟩ := okWide_int Try.underlying3 (hval 3 _ v3 rfl rfl)
  have hlg : long ≤ 9223372036854775807 := int_top Try.underlying3 h2
  obtain ⟨rfl, rfl⟩ := trodVars_none hV
  clear hA0 hval0
  simp only [List.append_nil] at hW' hK
  refine (law08_CalNext ba ca c fr long other W hc hca hna hlg).mono fun e W' ⟨he, bel⟩ => ?_
  subst he
  refine ⟨_, rfl, _, _, _, [], _, [], hW', trodAll_mk1 (shut_bool Try.underlying4 _), trodAll_below bel _ _ _ _ ?_ hK, rfl, bel.frame _, fun h => by cases h⟩
  intro t ht
  simp at ht <;> (rcases ht with rfl | rfl | rfl | rfl <;> exact ⟨by kernel_rfl, of_decide_eq_true (by kernel_rfl)⟩)

theorem holds_calNext : Rows.calNextRow.holds Try.pinned (OpenSpec.ofChange Rows.calNextSpec) :=
  OpenClaim.holds_of_wide 6 Try.f6 rfl rfl rfl rfl rfl rfl rfl ⟨rfl, rfl, rfl, rfl, rfl⟩ rfl rfl rfl rfl rfl (by kernel_rfl) Try.func6 (by kernel_rfl)
    (of_decide_eq_true (by kernel_rfl)) (by unfold Func.isWrapper; first | (rw [if_pos (by decide +kernel)]; kernel_rfl) | (rw [if_neg (by decide +kernel)]; exact ⟨rfl, rfl⟩))
    (fun os started H enc _ => lift_calNext os started H enc)

theorem CalNext_holds : Rows.CalNextSaid := holds_calNext
end Go.Proofs.Ytfikgjcmnooglaa
