/- CAL: the first slot that ends behind a moment; whether a span is free. -/
import Derived.Test.YtfikgjcmnooglaaCal1
import Derived.IntWalk
namespace Go.Proofs.Ytfikgjcmnooglaa
open Go.RowKit Go.Shelf

theorem chain_next : ∀ {c : List Sl} {last : Int}, chain last c = true → ∀ {i j : Nat} (hj : j < c.length) (hi : i < c.length), i < j → c[i].t ≤ c[j].f
  | s :: c, last, h, i, j, hj, hi, hij => by
    simp only [chain, Bool.and_eq_true, decide_eq_true_eq] at h
    obtain ⟨hm, _, hc⟩ := h
    match j, hij with
    | j + 1, _ =>
      have hj' : j < c.length := by simpa using hj
      match i with
      | 0 =>
        simp only [List.getElem_cons_zero, List.getElem_cons_succ]
        exact chain_low hc hj'
      | i + 1 =>
        simp only [List.getElem_cons_succ]
        exact chain_next hc hj' (by simpa using hi) (by omega)
where chain_low : ∀ {c : List Sl} {last : Int}, chain last c = true → ∀ {j : Nat} (hj : j < c.length), last ≤ c[j].f
  | s :: c, last, h, 0, _ => by
    simp only [chain, Bool.and_eq_true, decide_eq_true_eq] at h
    exact h.2.1
  | s :: c, last, h, j + 1, hj => by
    simp only [chain, Bool.and_eq_true, decide_eq_true_eq] at h
    have := chain_low h.2.2 (j := j) (by simpa using hj)
    have := h.1.1.1
    simp only [List.getElem_cons_succ]
    omega
theorem chain_may : ∀ {c : List Sl} {last : Int}, chain last c = true → ∀ {j : Nat} (hj : j < c.length), c[j].may
  | s :: c, last, h, 0, _ => by
    simp only [chain, Bool.and_eq_true, decide_eq_true_eq] at h
    exact h.1
  | s :: c, last, h, j + 1, hj => by
    simp only [chain, Bool.and_eq_true, decide_eq_true_eq] at h
    simp only [List.getElem_cons_succ]
    exact chain_may h.2.2 (by simpa using hj)

/-- The place of the first slot that ends behind a moment. -/
def aft (c : List Sl) (at' : Int) : Nat := c.findIdx (fun s => decide (at' < s.t))
theorem aft_le (c : List Sl) (a : Int) : aft c a ≤ c.length := List.findIdx_le_length
theorem aft_iff {c : List Sl} (h : chain 0 c = true) (a : Int) {k : Nat} (hk : k < c.length) : c[k].t ≤ a ↔ k < aft c a := by
  constructor
  · intro hle
    by_cases e : k < aft c a
    · exact e
    · have h1 : aft c a < c.length := by omega
      have h2 : decide (a < c[aft c a].t) = true := List.findIdx_getElem (p := fun s : Sl => decide (a < s.t)) (xs := c) (w := h1)
      rw [decide_eq_true_iff] at h2
      rcases Nat.lt_or_ge (aft c a) k with h3 | h3
      · have h4 := chain_next h hk h1 h3
        have h5 := (chain_may h hk).1.1
        omega
      · have : k = aft c a := by omega
        subst this
        omega
  · intro hlt
    have h3 : ¬ decide (a < c[k].t) = true := by
      have := List.not_of_lt_findIdx (p := fun s : Sl => decide (a < s.t)) (xs := c) hlt
      simpa using this
    rw [decide_eq_true_iff] at h3
    omega

set_option maxRecDepth 100000 in set_option maxHeartbeats 4000000 in
theorem after_ask (s : Sl) (a : Int) (w : World) : Calls Try.prog 137 #[.agg #[.int .i64 s.f, .int .i64 s.t, .int .i64 s.o], .int .i64 a] w (RB w (.int .i64 (if s.t ≤ a then -1 else 1))) := by
  by_cases h : s.t ≤ a
  · rw [if_pos h]
    go_enter Try.func137, Try.ntmps137
    go_wp2
    go_returns
    exact ⟨rfl, by (repeat (first | (with_reducible exact Below.refl _ _) | (with_reducible assumption) | (with_reducible refine below_alloc ?_ _) | (with_reducible refine below_drewN ?_ _) | (with_reducible refine Below.drew ?_) | (with_reducible refine below_then ?_ (by with_reducible assumption)) | (with_reducible refine Below.setCell ?_ (by go_size) _)))⟩
  · rw [if_neg h]
    have h' : a < s.t := by omega
    go_enter Try.func137, Try.ntmps137
    go_wp2
    go_returns
    exact ⟨rfl, by (repeat (first | (with_reducible exact Below.refl _ _) | (with_reducible assumption) | (with_reducible refine below_alloc ?_ _) | (with_reducible refine below_drewN ?_ _) | (with_reducible refine Below.drew ?_) | (with_reducible refine below_then ?_ (by with_reducible assumption)) | (with_reducible refine Below.setCell ?_ (by go_size) _)))⟩

set_option maxRecDepth 100000 in set_option maxHeartbeats 4000000 in
theorem bsearch (base : Option Addr) (cap : Nat) (c : List Sl) (a : Int) (w : World) (hc : CIn w base c) (hch : chain 0 c = true) :
    Calls Try.prog 136 #[.slice base c.length cap, .int .i64 a, .func (.func 137) #[] #[]] w (RB w (.tuple #[.int .i64 (aft c a : Nat), .bool false])) := by
  have eg : ∀ args w, (callFunc 137 args).run Try.prog w = .ok (.enter 137 args) w := enters_of Try.func137 (by kernel_rfl) rfl
  have HC := Lib.hid hc
  have hlen := hc.len
  have HI := Lib.hid (fun (k : Nat) (hk : k < c.length) => aft_iff hch a hk)
  have hal := aft_le c a
  clear hc hch
  generalize aft c a = n at *
  go_enter Try.func136, Try.ntmps136
  go_wp2_with fail
  go_loopw [9, 10] (fun x y wr => ∃ i j : Nat, i ≤ n ∧ n ≤ j ∧ j ≤ c.length ∧ x = .int .i64 i ∧ y = .int .i64 j ∧ Below w.heap.size w wr) (fun x y _ => (intOf y).toNat - (intOf x).toNat)
  case atStart => exact ⟨0, c.length, by omega, by omega, by omega, rfl, rfl, Below.refl _ _⟩
  case round =>
    obtain ⟨i, j, h1, h2, h3, rfl, rfl, hbel⟩ := hrel
    have HB := Lib.hid hbel
    clear hbel
    by_cases hlt : i < j
    · obtain ⟨h, hh⟩ : ∃ h, h = (i + j) / 2 := ⟨_, rfl⟩
      have hk : h < c.length := by omega
      obtain ⟨b, off, rfl, c0, c1, c2, hbl⟩ := (HC.out.keep HB.out).at hk
      have hi := Lib.hid (HI.out h hk)
      have HM := Lib.hid (fun W => after_ask c[h] a W)
      obtain ⟨s, hsl⟩ : ∃ s, s = c[h] := ⟨_, rfl⟩
      rw [← hsl] at c0 c1 c2 hi HM
      clear hsl
      have e1 : ((i : Int) + (j : Int)) / 2 = ((h : Nat) : Int) := by omega
      by_cases hle : s.t ≤ a
      · have HM2 := Lib.hid (fun W => by have := HM.out W; rw [if_pos hle] at this; exact this)
        have hlt2 := hi.out.1 hle
        clear HM hi hle hh
        go_wp2_with ((with_reducible refine (HM2.out _).mono ?_); rintro e w1 ⟨rfl, hb1⟩; (obtain ⟨hc1, hf1⟩ := bcell hb1; have hz1 := hb1.size; (try simp at hz1)))
        go_roundw
        case rel => exact ⟨h + 1, j, by omega, by omega, by omega, by go_num, rfl, below_then HB.out hb1⟩
        case measure => simp [intOf]; omega
      · have HM2 := Lib.hid (fun W => by have := HM.out W; rw [if_neg hle] at this; exact this)
        have hge : n ≤ h := by
          rcases Nat.lt_or_ge h n with h5 | h5
          · exact absurd (hi.out.2 h5) hle
          · exact h5
        clear HM hi hle hh
        go_wp2_with ((with_reducible refine (HM2.out _).mono ?_); rintro e w1 ⟨rfl, hb1⟩; (obtain ⟨hc1, hf1⟩ := bcell hb1; have hz1 := hb1.size; (try simp at hz1)))
        go_roundw
        case rel => exact ⟨i, h, by omega, by omega, by omega, rfl, rfl, below_then HB.out hb1⟩
        case measure => simp [intOf]; omega
    · have hin : i = n := by omega
      subst hin
      have hij : i = j := by omega
      subst hij
      by_cases hend : i < c.length
      · obtain ⟨b, off, rfl, c0, c1, c2, hbl⟩ := (HC.out.keep HB.out).at hend
        have HM := Lib.hid (fun W => after_ask c[i] a W)
        have hne : ¬ c[i].t ≤ a := fun h5 => by have := (HI.out i hend).1 h5; omega
        have HM2 := Lib.hid (fun W => by have := HM.out W; rw [if_neg hne] at this; exact this)
        obtain ⟨s, hsl⟩ : ∃ s, s = c[i] := ⟨_, rfl⟩
        rw [← hsl] at c0 c1 c2 HM2
        clear hsl HM hne
        go_wp2_with ((with_reducible refine (HM2.out _).mono ?_); rintro e w1 ⟨rfl, hb1⟩; (obtain ⟨hc1, hf1⟩ := bcell hb1; have hz1 := hb1.size; (try simp at hz1)))
        go_returns
        exact ⟨rfl, below_then HB.out hb1⟩
      · go_wp2_with fail
        go_returns
        exact ⟨rfl, HB.out⟩

set_option maxRecDepth 100000 in set_option maxHeartbeats 4000000 in
theorem cal_after (base : Option Addr) (cap : Nat) (c : List Sl) (a : Int) (w : World) (hc : CIn w base c) (hch : chain 0 c = true) :
    Calls Try.prog 82 #[.slice base c.length cap, .int .i64 a] w (RB w (.int .i64 (aft c a : Nat))) := by
  have HM := Lib.hid (bsearch base cap c a w hc hch)
  clear hc hch
  generalize aft c a = n at *
  go_enter Try.func82, Try.ntmps82
  go_wp2_with fail
  refine HM.out.mono ?_
  rintro e w1 ⟨rfl, hb1⟩
  go_wp2_with fail
  go_returns
  exact ⟨rfl, hb1⟩

/-- Is a span nobody's? -/
def freeB (c : List Sl) (f t : Int) : Bool := decide (aft c f = c.length) || decide (t ≤ (c[aft c f]?.map Sl.f).getD 0)
set_option maxRecDepth 100000 in set_option maxHeartbeats 4000000 in
theorem cal_free (base : Option Addr) (cap : Nat) (c : List Sl) (f t : Int) (w : World) (hc : CIn w base c) (hch : chain 0 c = true) :
    Calls Try.prog 78 #[.slice base c.length cap, .agg #[.int .i64 f, .int .i64 t]] w (RB w (.bool (freeB c f t))) := by
  have HC := Lib.hid hc
  have hlen := hc.len
  have hal := aft_le c f
  have HM := Lib.hid (fun W (h : Below w.heap.size w W) => cal_after base cap c f W (HC.out.keep h) hch)
  by_cases he : aft c f = c.length
  · have HQ := Lib.hid (show freeB c f t = true by unfold freeB; rw [decide_eq_true he]; rfl)
    have hge : c.length ≤ aft c f := by omega
    clear hc hch he
    generalize aft c f = n at *
    have heq : ((n : Int) == (c.length : Int)) = true := by simp; omega
    go_enter Try.func78, Try.ntmps78
    go_wp2_with fail
    refine (HM.out _ (by (repeat (first | (with_reducible exact Below.refl _ _) | (with_reducible assumption) | (with_reducible refine below_alloc ?_ _) | (with_reducible refine below_drewN ?_ _) | (with_reducible refine Below.drew ?_) | (with_reducible refine below_then ?_ (by with_reducible assumption)) | (with_reducible refine Below.setCell ?_ (by go_size) _))))).mono ?_
    rintro e w1 ⟨rfl, hb1⟩
    (obtain ⟨hc1, hf1⟩ := bcell hb1; have hz1 := hb1.size; (try simp at hz1))
    have hzz : w.heap.size < w1.heap.size := by omega
    go_wp2_with (refine wp_region_quiet_lit (by kernel_rfl) (by kernel_rfl) ?_; (repeat (any_goals (first | go_big_quiet_step (fail) | quiet_step (fail) | (refine wpQuiet_step (fun K hK => ?_); go_simp; split <;> (refine hK _ ?_; clear hK K))))); all_goals (refine wpQuiet_nil ?_; intro _ hw'; obtain ⟨nq, hw''⟩ := hw'; subst hw''))
    all_goals
      go_returns
      exact ⟨by rw [HQ.out]; first | rfl | simp, by first | exact below_drewN (below_then (by (repeat (first | (with_reducible exact Below.refl _ _) | (with_reducible assumption) | (with_reducible refine below_alloc ?_ _) | (with_reducible refine below_drewN ?_ _) | (with_reducible refine Below.drew ?_) | (with_reducible refine below_then ?_ (by with_reducible assumption)) | (with_reducible refine Below.setCell ?_ (by go_size) _)))) hb1) _ | exact below_then (by (repeat (first | (with_reducible exact Below.refl _ _) | (with_reducible assumption) | (with_reducible refine below_alloc ?_ _) | (with_reducible refine below_drewN ?_ _) | (with_reducible refine Below.drew ?_) | (with_reducible refine below_then ?_ (by with_reducible assumption)) | (with_reducible refine Below.setCell ?_ (by go_size) _)))) hb1⟩
  · have hlt : aft c f < c.length := by omega
    have HQ := Lib.hid (show freeB c f t = decide (t ≤ c[aft c f].f) by unfold freeB; rw [decide_eq_false he]; simp [hlt])
    clear hc hch he
    generalize aft c f = n at *
    have heq : ((n : Int) == (c.length : Int)) = false := by simp; omega
    go_enter Try.func78, Try.ntmps78
    go_wp2_with fail
    refine (HM.out _ (by (repeat (first | (with_reducible exact Below.refl _ _) | (with_reducible assumption) | (with_reducible refine below_alloc ?_ _) | (with_reducible refine below_drewN ?_ _) | (with_reducible refine Below.drew ?_) | (with_reducible refine below_then ?_ (by with_reducible assumption)) | (with_reducible refine Below.setCell ?_ (by go_size) _))))).mono ?_
    rintro e w1 ⟨rfl, hb1⟩
    (obtain ⟨hc1, hf1⟩ := bcell hb1; have hz1 := hb1.size; (try simp at hz1))
    have hzz : w.heap.size < w1.heap.size := by omega
    have hB1 : Below w.heap.size w w1 := below_then (by (repeat (first | (with_reducible exact Below.refl _ _) | (with_reducible assumption) | (with_reducible refine below_alloc ?_ _) | (with_reducible refine below_drewN ?_ _) | (with_reducible refine Below.drew ?_) | (with_reducible refine below_then ?_ (by with_reducible assumption)) | (with_reducible refine Below.setCell ?_ (by go_size) _)))) hb1
    obtain ⟨b, off, rfl, c0, c1, c2, hbl⟩ := (HC.out.keep hB1).at hlt
    obtain ⟨s, hsl⟩ : ∃ s, s = c[n] := ⟨_, rfl⟩
    rw [← hsl] at c0 c1 c2 HQ
    clear hsl
    go_wp2_with (refine wp_region_quiet_lit (by kernel_rfl) (by kernel_rfl) ?_; (repeat (any_goals (first | go_big_quiet_step (fail) | quiet_step (fail) | (refine wpQuiet_step (fun K hK => ?_); go_simp; split <;> (refine hK _ ?_; clear hK K))))); all_goals (refine wpQuiet_nil ?_; intro _ hw'; obtain ⟨nq, hw''⟩ := hw'; subst hw''))
    all_goals
      go_returns
      exact ⟨by rw [HQ.out]; first | rfl | simp, by first | exact below_drewN hB1 _ | exact hB1⟩
end Go.Proofs.Ytfikgjcmnooglaa
