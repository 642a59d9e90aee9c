/- CAL: slots of a calendar: Free, At, Next, and what they ask. -/
import Derived.IntWalk
import Derived.Deep.DeepCutAuto
import Derived.Deep.CutBlock
import Derived.Test.YtofoenlhbmammaaGreatQ0Cal1F11
set_option linter.unusedVariables false
set_option linter.unusedSimpArgs false
namespace Go.Proofs.YtofoenlhbmammaaGreat

section
section
open Go.RowKit Go.Shelf

theorem chain_next : ∀ {c : List Sl} {last : Int}, chain last c = true → ∀ {i j : Nat} (hj : j < c.length) (hi : i < c.length), i < j → c[i].t ≤ c[j].f
  | s :: c, last, h, i, j, hj, hi, hij => by
    simp only [chain, Bool.and_eq_true, decide_eq_true_eq] at h
    obtain ⟨hm, _, hc⟩ := h
    match j, hij with
    | j + 1, _ =>
      have hj' : j < c.length := by simpa using hj
      match i with
      | 0 =>
        simp only [List.getElem_cons_zero, List.getElem_cons_succ]
        exact chain_low hc hj'
      | i + 1 =>
        simp only [List.getElem_cons_succ]
        exact chain_next hc hj' (by simpa using hi) (by omega)
where chain_low : ∀ {c : List Sl} {last : Int}, chain last c = true → ∀ {j : Nat} (hj : j < c.length), last ≤ c[j].f
  | s :: c, last, h, 0, _ => by
    simp only [chain, Bool.and_eq_true, decide_eq_true_eq] at h
    exact h.2.1
  | s :: c, last, h, j + 1, hj => by
    simp only [chain, Bool.and_eq_true, decide_eq_true_eq] at h
    have := chain_low h.2.2 (j := j) (by simpa using hj)
    have := h.1.1.1
    simp only [List.getElem_cons_succ]
    omega
theorem chain_may : ∀ {c : List Sl} {last : Int}, chain last c = true → ∀ {j : Nat} (hj : j < c.length), c[j].may
  | s :: c, last, h, 0, _ => by
    simp only [chain, Bool.and_eq_true, decide_eq_true_eq] at h
    exact h.1
  | s :: c, last, h, j + 1, hj => by
    simp only [chain, Bool.and_eq_true, decide_eq_true_eq] at h
    simp only [List.getElem_cons_succ]
    exact chain_may h.2.2 (by simpa using hj)

/-- The place of the first slot that ends behind a moment. -/
def aft (c : List Sl) (at' : Int) : Nat := c.findIdx (fun s => decide (at' < s.t))
theorem aft_le (c : List Sl) (a : Int) : aft c a ≤ c.length := List.findIdx_le_length
theorem aft_iff {c : List Sl} (h : chain 0 c = true) (a : Int) {k : Nat} (hk : k < c.length) : c[k].t ≤ a ↔ k < aft c a := by
  constructor
  · intro hle
    by_cases e : k < aft c a
    · exact e
    · have h1 : aft c a < c.length := by omega
      have h2 : decide (a < c[aft c a].t) = true := List.findIdx_getElem (p := fun s : Sl => decide (a < s.t)) (xs := c) (w := h1)
      rw [decide_eq_true_iff] at h2
      rcases Nat.lt_or_ge (aft c a) k with h3 | h3
      · have h4 := chain_next h hk h1 h3
        have h5 := (chain_may h hk).1.1
        omega
      · have : k = aft c a := by omega
        subst this
        omega
  · intro hlt
    have h3 : ¬ decide (a < c[k].t) = true := by
      have := List.not_of_lt_findIdx (p := fun s : Sl => decide (a < s.t)) (xs := c) hlt
      simpa using this
    rw [decide_eq_true_iff] at h3
    omega

set_option maxRecDepth 100000 in set_option maxHeartbeats 4000000 in
theorem after_ask (s : Sl) (a : Int) (w : World) : Calls Tryz.prog 125 #[.agg #[.int .i64 s.f, .int .i64 s.t, .int .i64 s.o], .int .i64 a] w (RB w (.int .i64 (if s.t ≤ a then -1 else 1))) := by
  by_cases h : s.t ≤ a
  · rw [if_pos h]
    go_enter Tryz.func125, Tryz.ntmps125
    go_wp2
    go_returns
    exact ⟨rfl, by (repeat (first | (with_reducible exact Below.refl _ _) | (with_reducible assumption) | (with_reducible refine below_alloc ?_ _) | (with_reducible refine below_drewN ?_ _) | (with_reducible refine Below.drew ?_) | (with_reducible refine below_then ?_ (by with_reducible assumption)) | (with_reducible refine Below.setCell ?_ (by go_size) _)))⟩
  · rw [if_neg h]
    have h' : a < s.t := by omega
    go_enter Tryz.func125, Tryz.ntmps125
    go_wp2
    go_returns
    exact ⟨rfl, by (repeat (first | (with_reducible exact Below.refl _ _) | (with_reducible assumption) | (with_reducible refine below_alloc ?_ _) | (with_reducible refine below_drewN ?_ _) | (with_reducible refine Below.drew ?_) | (with_reducible refine below_then ?_ (by with_reducible assumption)) | (with_reducible refine Below.setCell ?_ (by go_size) _)))⟩

set_option maxRecDepth 100000 in set_option maxHeartbeats 4000000 in
theorem bsearch (base : Option Addr) (cap : Nat) (c : List Sl) (a : Int) (w : World) (hc : CIn w base c) (hch : chain 0 c = true) :
    Calls Tryz.prog 124 #[.slice base c.length cap, .int .i64 a, .func (.func 125) #[] #[]] w (RB w (.tuple #[.int .i64 (aft c a : Nat), .bool false])) := by
  have eg : ∀ args w, (callFunc 125 args).run Tryz.prog w = .ok (.enter 125 args) w := enters_of Tryz.func125 (by kernel_rfl) rfl
  have HC := Lib.hid hc
  have hlen := hc.len
  have HI := Lib.hid (fun (k : Nat) (hk : k < c.length) => aft_iff hch a hk)
  have hal := aft_le c a
  clear hc hch
  generalize aft c a = n at *
  go_enter Tryz.func124, Tryz.ntmps124
  go_wp2_with fail
  go_loopw [9, 10] (fun x y wr => ∃ i j : Nat, i ≤ n ∧ n ≤ j ∧ j ≤ c.length ∧ x = .int .i64 i ∧ y = .int .i64 j ∧ Below w.heap.size w wr) (fun x y _ => (intOf y).toNat - (intOf x).toNat)
  case atStart => exact ⟨0, c.length, by omega, by omega, by omega, rfl, rfl, Below.refl _ _⟩
  case round =>
    obtain ⟨i, j, h1, h2, h3, rfl, rfl, hbel⟩ := hrel
    have HB := Lib.hid hbel
    clear hbel
    by_cases hlt : i < j
    · obtain ⟨h, hh⟩ : ∃ h, h = (i + j) / 2 := ⟨_, rfl⟩
      have hk : h < c.length := by omega
      obtain ⟨b, off, rfl, c0, c1, c2, hbl⟩ := (HC.out.keep HB.out).at hk
      have hi := Lib.hid (HI.out h hk)
      have HM := Lib.hid (fun W => after_ask c[h] a W)
      obtain ⟨s, hsl⟩ : ∃ s, s = c[h] := ⟨_, rfl⟩
      rw [← hsl] at c0 c1 c2 hi HM
      clear hsl
      have e1 : ((i : Int) + (j : Int)) / 2 = ((h : Nat) : Int) := by omega
      by_cases hle : s.t ≤ a
      · have HM2 := Lib.hid (fun W => by have := HM.out W; rw [if_pos hle] at this; exact this)
        have hlt2 := hi.out.1 hle
        clear HM hi hle hh
        go_wp2_with ((with_reducible refine (HM2.out _).mono ?_); rintro e w1 ⟨rfl, hb1⟩; (obtain ⟨hc1, hf1⟩ := bcell hb1; have hz1 := hb1.size; (try simp at hz1)))
        go_roundw
        case rel => exact ⟨h + 1, j, by omega, by omega, by omega, by go_num, rfl, below_then HB.out hb1⟩
        case measure => simp [intOf]; omega
      · have HM2 := Lib.hid (fun W => by have := HM.out W; rw [if_neg hle] at this; exact this)
        have hge : n ≤ h := by
          rcases Nat.lt_or_ge h n with h5 | h5
          · exact absurd (hi.out.2 h5) hle
          · exact h5
        clear HM hi hle hh
        go_wp2_with ((with_reducible refine (HM2.out _).mono ?_); rintro e w1 ⟨rfl, hb1⟩; (obtain ⟨hc1, hf1⟩ := bcell hb1; have hz1 := hb1.size; (try simp at hz1)))
        go_roundw
        case rel => exact ⟨i, h, by omega, by omega, by omega, rfl, rfl, below_then HB.out hb1⟩
        case measure => simp [intOf]; omega
    · have hin : i = n := by omega
      subst hin
      have hij : i = j := by omega
      subst hij
      by_cases hend : i < c.length
      · obtain ⟨b, off, rfl, c0, c1, c2, hbl⟩ := (HC.out.keep HB.out).at hend
        have HM := Lib.hid (fun W => after_ask c[i] a W)
        have hne : ¬ c[i].t ≤ a := fun h5 => by have := (HI.out i hend).1 h5; omega
        have HM2 := Lib.hid (fun W => by have := HM.out W; rw [if_neg hne] at this; exact this)
        obtain ⟨s, hsl⟩ : ∃ s, s = c[i] := ⟨_, rfl⟩
        rw [← hsl] at c0 c1 c2 HM2
        clear hsl HM hne
        go_wp2_with ((with_reducible refine (HM2.out _).mono ?_); rintro e w1 ⟨rfl, hb1⟩; (obtain ⟨hc1, hf1⟩ := bcell hb1; have hz1 := hb1.size; (try simp at hz1)))
        go_returns
        exact ⟨rfl, below_then HB.out hb1⟩
      · go_wp2_with fail
        go_returns
        exact ⟨rfl, HB.out⟩

set_option maxRecDepth 100000 in set_option maxHeartbeats 4000000 in
theorem cal_after (base : Option Addr) (cap : Nat) (c : List Sl) (a : Int) (w : World) (hc : CIn w base c) (hch : chain 0 c = true) :
    Calls Tryz.prog 107 #[.slice base c.length cap, .int .i64 a] w (RB w (.int .i64 (aft c a : Nat))) := by
  have HM := Lib.hid (bsearch base cap c a w hc hch)
  clear hc hch
  generalize aft c a = n at *
  go_enter Tryz.func107, Tryz.ntmps107
  go_wp2_with fail
  refine HM.out.mono ?_
  rintro e w1 ⟨rfl, hb1⟩
  go_wp2_with fail
  go_returns
  exact ⟨rfl, hb1⟩

/-- Is a span nobody's? -/
def freeB (c : List Sl) (f t : Int) : Bool := decide (aft c f = c.length) || decide (t ≤ (c[aft c f]?.map Sl.f).getD 0)
set_option maxRecDepth 100000 in set_option maxHeartbeats 4000000 in
theorem cal_free (base : Option Addr) (cap : Nat) (c : List Sl) (f t : Int) (w : World) (hc : CIn w base c) (hch : chain 0 c = true) :
    Calls Tryz.prog 88 #[.slice base c.length cap, .agg #[.int .i64 f, .int .i64 t]] w (RB w (.bool (freeB c f t))) := by
  have HC := Lib.hid hc
  have hlen := hc.len
  have hal := aft_le c f
  have HM := Lib.hid (fun W (h : Below w.heap.size w W) => cal_after base cap c f W (HC.out.keep h) hch)
  by_cases he : aft c f = c.length
  · have HQ := Lib.hid (show freeB c f t = true by unfold freeB; rw [decide_eq_true he]; rfl)
    have hge : c.length ≤ aft c f := by omega
    clear hc hch he
    generalize aft c f = n at *
    have heq : ((n : Int) == (c.length : Int)) = true := by simp; omega
    go_enter Tryz.func88, Tryz.ntmps88
    go_wp2_with fail
    refine (HM.out _ (by (repeat (first | (with_reducible exact Below.refl _ _) | (with_reducible assumption) | (with_reducible refine below_alloc ?_ _) | (with_reducible refine below_drewN ?_ _) | (with_reducible refine Below.drew ?_) | (with_reducible refine below_then ?_ (by with_reducible assumption)) | (with_reducible refine Below.setCell ?_ (by go_size) _))))).mono ?_
    rintro e w1 ⟨rfl, hb1⟩
    (obtain ⟨hc1, hf1⟩ := bcell hb1; have hz1 := hb1.size; (try simp at hz1))
    have hzz : w.heap.size < w1.heap.size := by omega
    go_wp2_with (refine wp_region_quiet_lit (by kernel_rfl) (by kernel_rfl) ?_; (repeat (any_goals (first | go_big_quiet_step (fail) | quiet_step (fail) | (refine wpQuiet_step (fun K hK => ?_); go_simp; split <;> (refine hK _ ?_; clear hK K))))); all_goals (refine wpQuiet_nil ?_; intro _ hw'; obtain ⟨nq, hw''⟩ := hw'; subst hw''))
    all_goals
      go_returns
      exact ⟨by rw [HQ.out]; first | rfl | simp, by first | exact below_drewN (below_then (by (repeat (first | (with_reducible exact Below.refl _ _) | (with_reducible assumption) | (with_reducible refine below_alloc ?_ _) | (with_reducible refine below_drewN ?_ _) | (with_reducible refine Below.drew ?_) | (with_reducible refine below_then ?_ (by with_reducible assumption)) | (with_reducible refine Below.setCell ?_ (by go_size) _)))) hb1) _ | exact below_then (by (repeat (first | (with_reducible exact Below.refl _ _) | (with_reducible assumption) | (with_reducible refine below_alloc ?_ _) | (with_reducible refine below_drewN ?_ _) | (with_reducible refine Below.drew ?_) | (with_reducible refine below_then ?_ (by with_reducible assumption)) | (with_reducible refine Below.setCell ?_ (by go_size) _)))) hb1⟩
  · have hlt : aft c f < c.length := by omega
    have HQ := Lib.hid (show freeB c f t = decide (t ≤ c[aft c f].f) by unfold freeB; rw [decide_eq_false he]; simp [hlt])
    clear hc hch he
    generalize aft c f = n at *
    have heq : ((n : Int) == (c.length : Int)) = false := by simp; omega
    go_enter Tryz.func88, Tryz.ntmps88
    go_wp2_with fail
    refine (HM.out _ (by (repeat (first | (with_reducible exact Below.refl _ _) | (with_reducible assumption) | (with_reducible refine below_alloc ?_ _) | (with_reducible refine below_drewN ?_ _) | (with_reducible refine Below.drew ?_) | (with_reducible refine below_then ?_ (by with_reducible assumption)) | (with_reducible refine Below.setCell ?_ (by go_size) _))))).mono ?_
    rintro e w1 ⟨rfl, hb1⟩
    (obtain ⟨hc1, hf1⟩ := bcell hb1; have hz1 := hb1.size; (try simp at hz1))
    have hzz : w.heap.size < w1.heap.size := by omega
    have hB1 : Below w.heap.size w w1 := below_then (by (repeat (first | (with_reducible exact Below.refl _ _) | (with_reducible assumption) | (with_reducible refine below_alloc ?_ _) | (with_reducible refine below_drewN ?_ _) | (with_reducible refine Below.drew ?_) | (with_reducible refine below_then ?_ (by with_reducible assumption)) | (with_reducible refine Below.setCell ?_ (by go_size) _)))) hb1
    obtain ⟨b, off, rfl, c0, c1, c2, hbl⟩ := (HC.out.keep hB1).at hlt
    obtain ⟨s, hsl⟩ : ∃ s, s = c[n] := ⟨_, rfl⟩
    rw [← hsl] at c0 c1 c2 HQ
    clear hsl
    go_wp2_with (refine wp_region_quiet_lit (by kernel_rfl) (by kernel_rfl) ?_; (repeat (any_goals (first | go_big_quiet_step (fail) | quiet_step (fail) | (refine wpQuiet_step (fun K hK => ?_); go_simp; split <;> (refine hK _ ?_; clear hK K))))); all_goals (refine wpQuiet_nil ?_; intro _ hw'; obtain ⟨nq, hw''⟩ := hw'; subst hw''))
    all_goals
      go_returns
      exact ⟨by rw [HQ.out]; first | rfl | simp, by first | exact below_drewN hB1 _ | exact hB1⟩
end

section
open Go.RowKit Go.Shelf

theorem calE_ok {c : List Sl} (h : calE c = 0) : chain 0 c = true ∧ c.length ≤ 4096 := by
  unfold calE calOk at h
  split at h
  · next e => simp only [Bool.and_eq_true, decide_eq_true_eq] at e; exact ⟨e.2, e.1⟩
  · omega

def freeE (c : List Sl) (f t : Int) : Int := if calE c = 0 then okIf (spMay f t) 2 else calE c
def freeV (c : List Sl) (f t : Int) : Bool := if freeE c f t = 0 then freeB c f t else false
set_option maxRecDepth 100000 in set_option maxHeartbeats 4000000 in
theorem cal_Free (base : Option Addr) (cap : Nat) (c : List Sl) (f t : Int) (w : World) (hc : CIn w base c) :
    Calls Tryz.prog 54 #[.slice base c.length cap, .agg #[.int .i64 f, .int .i64 t]] w (RB w (.tuple #[.bool (freeV c f t), .int .i64 (freeE c f t)])) := by
  have HC := Lib.hid hc
  have H1 := Lib.hid (fun W (h : Below w.heap.size w W) => cal_Check base cap c W (HC.out.keep h))
  by_cases he : calE c = 0
  · have H1' := Lib.hid (fun W h => by have := H1.out W h; rw [he] at this; exact this)
    have H2 := Lib.hid (fun W => time_Check f t W)
    by_cases hs : spMay f t
    · have e1 : freeE c f t = 0 := by rw [freeE, if_pos he, okIf_yes hs]
      have HQ := Lib.hid (show freeV c f t = freeB c f t by rw [freeV, if_pos e1])
      have HE := Lib.hid e1
      have H2' := Lib.hid (fun W => by have := H2.out W; rw [okIf_yes hs] at this; exact this)
      have H3 := Lib.hid (fun W (h : Below w.heap.size w W) => cal_free base cap c f t W (HC.out.keep h) (calE_ok he).1)
      clear hc H1 H2 he hs e1
      generalize freeB c f t = z at *
      go_enter Tryz.func54, Tryz.ntmps54
      go_wp2_with fail
      refine (H1'.out _ (by (repeat (first | (with_reducible exact Below.refl _ _) | (with_reducible assumption) | (with_reducible refine below_alloc ?_ _) | (with_reducible refine below_drewN ?_ _) | (with_reducible refine Below.drew ?_) | (with_reducible refine below_then ?_ (by with_reducible assumption)) | (with_reducible refine Below.setCell ?_ (by go_size) _))))).mono ?_
      rintro e w1 ⟨rfl, hb1⟩
      (obtain ⟨hc1, hf1⟩ := bcell hb1; have hz1 := hb1.size; (try simp at hz1); have hB : Below w.heap.size w w1 := (by (repeat (first | (with_reducible exact Below.refl _ _) | (with_reducible assumption) | (with_reducible refine below_alloc ?_ _) | (with_reducible refine below_drewN ?_ _) | (with_reducible refine Below.drew ?_) | (with_reducible refine below_then ?_ (by with_reducible assumption)) | (with_reducible refine Below.setCell ?_ (by go_size) _)))); obtain ⟨hcB, hfB⟩ := bcell hB; (try have z0 : w.heap.size < w1.heap.size := by omega); (try have z1 : w.heap.size + 1 < w1.heap.size := by omega); (try have z2 : w.heap.size + 2 < w1.heap.size := by omega); (try have z3 : w.heap.size + 3 < w1.heap.size := by omega))
      go_wp2_with fail
      refine (H2'.out _).mono ?_
      rintro e w2 ⟨rfl, hb2⟩
      have hB2 := below_then hB hb2
      have hb12 := below_then hb1 hb2
      obtain ⟨hc2, hf2⟩ := bcell hb12
      clear hc1 hf1 hcB hfB
      go_wp2_with fail
      refine (H3.out _ hB2).mono ?_
      rintro e w3 ⟨rfl, hb3⟩
      go_wp2_with fail
      go_returns
      exact ⟨by rw [HQ.out, HE.out]; rfl, below_then hB2 hb3⟩
    · have e1 : freeE c f t = 2 := by rw [freeE, if_pos he, okIf_no hs]
      have HQ := Lib.hid (show freeV c f t = false by rw [freeV, if_neg (by omega)])
      have HE := Lib.hid e1
      have H2' := Lib.hid (fun W => by have := H2.out W; rw [okIf_no hs] at this; exact this)
      clear hc H1 H2 he hs e1
      go_enter Tryz.func54, Tryz.ntmps54
      go_wp2_with fail
      refine (H1'.out _ (by (repeat (first | (with_reducible exact Below.refl _ _) | (with_reducible assumption) | (with_reducible refine below_alloc ?_ _) | (with_reducible refine below_drewN ?_ _) | (with_reducible refine Below.drew ?_) | (with_reducible refine below_then ?_ (by with_reducible assumption)) | (with_reducible refine Below.setCell ?_ (by go_size) _))))).mono ?_
      rintro e w1 ⟨rfl, hb1⟩
      (obtain ⟨hc1, hf1⟩ := bcell hb1; have hz1 := hb1.size; (try simp at hz1); have hB : Below w.heap.size w w1 := (by (repeat (first | (with_reducible exact Below.refl _ _) | (with_reducible assumption) | (with_reducible refine below_alloc ?_ _) | (with_reducible refine below_drewN ?_ _) | (with_reducible refine Below.drew ?_) | (with_reducible refine below_then ?_ (by with_reducible assumption)) | (with_reducible refine Below.setCell ?_ (by go_size) _)))); obtain ⟨hcB, hfB⟩ := bcell hB; (try have z0 : w.heap.size < w1.heap.size := by omega); (try have z1 : w.heap.size + 1 < w1.heap.size := by omega); (try have z2 : w.heap.size + 2 < w1.heap.size := by omega); (try have z3 : w.heap.size + 3 < w1.heap.size := by omega))
      go_wp2_with fail
      refine (H2'.out _).mono ?_
      rintro e w2 ⟨rfl, hb2⟩
      go_wp2_with fail
      go_returns
      exact ⟨by rw [HQ.out, HE.out]; rfl, below_then hB hb2⟩
  · have e1 : freeE c f t = calE c := by rw [freeE, if_neg he]
    have HQ := Lib.hid (show freeV c f t = false by rw [freeV, if_neg (by omega)])
    have HE := Lib.hid e1
    have hn : (calE c == 0) = false := by simpa using he
    have hm : (calE c != 0) = true := by simpa using he
    clear hc he e1
    generalize calE c = k0 at *
    go_enter Tryz.func54, Tryz.ntmps54
    go_wp2_with fail
    refine (H1.out _ (by (repeat (first | (with_reducible exact Below.refl _ _) | (with_reducible assumption) | (with_reducible refine below_alloc ?_ _) | (with_reducible refine below_drewN ?_ _) | (with_reducible refine Below.drew ?_) | (with_reducible refine below_then ?_ (by with_reducible assumption)) | (with_reducible refine Below.setCell ?_ (by go_size) _))))).mono ?_
    rintro e w1 ⟨rfl, hb1⟩
    (obtain ⟨hc1, hf1⟩ := bcell hb1; have hz1 := hb1.size; (try simp at hz1); have hB : Below w.heap.size w w1 := (by (repeat (first | (with_reducible exact Below.refl _ _) | (with_reducible assumption) | (with_reducible refine below_alloc ?_ _) | (with_reducible refine below_drewN ?_ _) | (with_reducible refine Below.drew ?_) | (with_reducible refine below_then ?_ (by with_reducible assumption)) | (with_reducible refine Below.setCell ?_ (by go_size) _)))); obtain ⟨hcB, hfB⟩ := bcell hB; (try have z0 : w.heap.size < w1.heap.size := by omega); (try have z1 : w.heap.size + 1 < w1.heap.size := by omega); (try have z2 : w.heap.size + 2 < w1.heap.size := by omega); (try have z3 : w.heap.size + 3 < w1.heap.size := by omega))
    go_wp2_with fail
    go_returns
    exact ⟨by rw [HQ.out, HE.out]; rfl, hB⟩

/-- The slot of a moment. -/
def hitAt (c : List Sl) (a : Int) : Option Sl := match c[aft c a]? with
  | some s => if s.f ≤ a then some s else none
  | none => none
def atE (c : List Sl) (a : Int) : Int := if calE c = 0 then if 0 ≤ a ∧ a < 1099511627776 then if (hitAt c a).isSome then 0 else 6 else 2 else calE c
def atO (c : List Sl) (a : Int) : Int := if atE c a = 0 then ((hitAt c a).map Sl.o).getD 0 else 0
end

section
open Go.RowKit Go.Shelf

def inB (f t a : Int) : Bool := decide (f ≤ a) && decide (a < t)
def meetsB (f t g u : Int) : Bool := inB f t g || inB g u f
set_option maxRecDepth 100000 in set_option maxHeartbeats 4000000 in
theorem ref07_In (f t a : Int) (w : World) : Calls Tryz.prog 136 #[.agg #[.int .i64 f, .int .i64 t], .int .i64 a] w (RB w (.bool (inB f t a))) := by
  unfold inB
  cases h : decide (f ≤ a)
  · have h' : ¬ f ≤ a := of_decide_eq_false h
    go_enter Tryz.func136, Tryz.ntmps136
    go_wp2
    go_returns
    exact ⟨rfl, by (repeat (first | (with_reducible exact Below.refl _ _) | (with_reducible assumption) | (with_reducible refine below_alloc ?_ _) | (with_reducible refine below_drewN ?_ _) | (with_reducible refine Below.drew ?_) | (with_reducible refine below_then ?_ (by with_reducible assumption)) | (with_reducible refine Below.setCell ?_ (by go_size) _)))⟩
  · have h' : f ≤ a := of_decide_eq_true h
    go_enter Tryz.func136, Tryz.ntmps136
    go_wp2
    go_returns
    exact ⟨rfl, by (repeat (first | (with_reducible exact Below.refl _ _) | (with_reducible assumption) | (with_reducible refine below_alloc ?_ _) | (with_reducible refine below_drewN ?_ _) | (with_reducible refine Below.drew ?_) | (with_reducible refine below_then ?_ (by with_reducible assumption)) | (with_reducible refine Below.setCell ?_ (by go_size) _)))⟩

set_option maxRecDepth 100000 in set_option maxHeartbeats 4000000 in
theorem ref07_Meets (f t g u : Int) (w : World) : Calls Tryz.prog 126 #[.agg #[.int .i64 f, .int .i64 t], .agg #[.int .i64 g, .int .i64 u]] w (RB w (.bool (meetsB f t g u))) := by
  have M1 := Lib.hid (fun W => ref07_In f t g W)
  have M2 := Lib.hid (fun W => ref07_In g u f W)
  have HQ := Lib.hid (show meetsB f t g u = (inB f t g || inB g u f) from rfl)
  generalize inB f t g = p at *
  generalize inB g u f = q at *
  cases p
  · go_enter Tryz.func126, Tryz.ntmps126
    go_wp2_with fail
    refine (M1.out _).mono ?_
    rintro e w1 ⟨rfl, hb1⟩
    (obtain ⟨hc1, hf1⟩ := bcell hb1; have hz1 := hb1.size; (try simp at hz1); have hB : Below w.heap.size w w1 := (by (repeat (first | (with_reducible exact Below.refl _ _) | (with_reducible assumption) | (with_reducible refine below_alloc ?_ _) | (with_reducible refine below_drewN ?_ _) | (with_reducible refine Below.drew ?_) | (with_reducible refine below_then ?_ (by with_reducible assumption)) | (with_reducible refine Below.setCell ?_ (by go_size) _)))); obtain ⟨hcB, hfB⟩ := bcell hB; (try have z0 : w.heap.size < w1.heap.size := by omega); (try have z1 : w.heap.size + 1 < w1.heap.size := by omega); (try have z2 : w.heap.size + 2 < w1.heap.size := by omega); (try have z3 : w.heap.size + 3 < w1.heap.size := by omega))
    go_wp2_with fail
    refine (M2.out _).mono ?_
    rintro e w2 ⟨rfl, hb2⟩
    go_wp2_with fail
    go_returns
    exact ⟨by rw [HQ.out]; rfl, below_then (by (repeat (first | (with_reducible exact Below.refl _ _) | (with_reducible assumption) | (with_reducible refine below_alloc ?_ _) | (with_reducible refine below_drewN ?_ _) | (with_reducible refine Below.drew ?_) | (with_reducible refine below_then ?_ (by with_reducible assumption)) | (with_reducible refine Below.setCell ?_ (by go_size) _)))) hb2⟩
  · go_enter Tryz.func126, Tryz.ntmps126
    go_wp2_with fail
    refine (M1.out _).mono ?_
    rintro e w1 ⟨rfl, hb1⟩
    (obtain ⟨hc1, hf1⟩ := bcell hb1; have hz1 := hb1.size; (try simp at hz1); have hB : Below w.heap.size w w1 := (by (repeat (first | (with_reducible exact Below.refl _ _) | (with_reducible assumption) | (with_reducible refine below_alloc ?_ _) | (with_reducible refine below_drewN ?_ _) | (with_reducible refine Below.drew ?_) | (with_reducible refine below_then ?_ (by with_reducible assumption)) | (with_reducible refine Below.setCell ?_ (by go_size) _)))); obtain ⟨hcB, hfB⟩ := bcell hB; (try have z0 : w.heap.size < w1.heap.size := by omega); (try have z1 : w.heap.size + 1 < w1.heap.size := by omega); (try have z2 : w.heap.size + 2 < w1.heap.size := by omega); (try have z3 : w.heap.size + 3 < w1.heap.size := by omega))
    go_wp2_with fail
    go_returns
    exact ⟨by rw [HQ.out]; rfl, by (repeat (first | (with_reducible exact Below.refl _ _) | (with_reducible assumption) | (with_reducible refine below_alloc ?_ _) | (with_reducible refine below_drewN ?_ _) | (with_reducible refine Below.drew ?_) | (with_reducible refine below_then ?_ (by with_reducible assumption)) | (with_reducible refine Below.setCell ?_ (by go_size) _)))⟩

/-- Is a span clear of all slots? -/
def clearB (c : List Sl) (f t : Int) : Bool := c.all (fun s => !meetsB s.f s.t f t)
theorem all_take_succ {α : Type} {l : List α} {p : α → Bool} {k : Nat} (hk : k < l.length) : (l.take (k + 1)).all p = ((l.take k).all p && p l[k]) := by
  rw [List.take_add_one, List.getElem?_eq_getElem hk, List.all_append]; simp only [Option.toList, List.all_cons, List.all_nil, Bool.and_true]
theorem all_no {α : Type} {l : List α} {p : α → Bool} {k : Nat} (hk : k < l.length) (h : p l[k] = false) : l.all p = false := by
  rw [Bool.eq_false_iff]; intro e; rw [List.all_eq_true] at e; have := e _ (List.getElem_mem hk); rw [h] at this; cases this

set_option maxRecDepth 100000 in set_option maxHeartbeats 4000000 in
theorem ref08_Clear (base : Option Addr) (cap : Nat) (c : List Sl) (f t : Int) (w : World) (hc : CIn w base c) :
    Calls Tryz.prog 109 #[.slice base c.length cap, .agg #[.int .i64 f, .int .i64 t]] w (RB w (.bool (clearB c f t))) := by
  have HC := Lib.hid hc
  have hlen := hc.len
  have HE := Lib.hid (show clearB c f t = c.all (fun s => !meetsB s.f s.t f t) from rfl)
  clear hc
  go_enter Tryz.func109, Tryz.ntmps109
  go_wp2_with fail
  go_loopw [5] (fun i wr => ∃ k : Nat, k ≤ c.length ∧ i = .int .i64 k ∧ (c.take k).all (fun s => !meetsB s.f s.t f t) = true ∧ Below w.heap.size w wr ∧ w.heap.size < wr.heap.size ∧ wr.cell? ⟨w.heap.size, 0, none⟩ = some (.int .i64 f) ∧ wr.cell? ⟨w.heap.size, 1, none⟩ = some (.int .i64 t)) (fun i _ => c.length - (intOf i).toNat)
  case atStart => exact ⟨0, Nat.zero_le _, rfl, by simp, by (repeat (first | (with_reducible exact Below.refl _ _) | (with_reducible assumption) | (with_reducible refine below_alloc ?_ _) | (with_reducible refine below_drewN ?_ _) | (with_reducible refine Below.drew ?_) | (with_reducible refine below_then ?_ (by with_reducible assumption)) | (with_reducible refine Below.setCell ?_ (by go_size) _))), by simp [go_sem], by simp [go_sem], by simp [go_sem]⟩
  case round =>
    obtain ⟨k, hk, rfl, hall, hbel, hsz, f0, f1⟩ := hrel
    have HB := Lib.hid hbel
    have HA := Lib.hid hall
    clear hbel hall
    by_cases hlt : k < c.length
    · obtain ⟨b, off, rfl, c0, c1, c2, hbl⟩ := (HC.out.keep HB.out).at hlt
      have hs := Lib.hid (all_take_succ (p := fun s : Sl => !meetsB s.f s.t f t) hlt)
      have hn := Lib.hid (all_no (p := fun s : Sl => !meetsB s.f s.t f t) hlt)
      have HM := Lib.hid (fun W => ref07_Meets c[k].f c[k].t f t W)
      obtain ⟨s, hsl⟩ : ∃ s, s = c[k] := ⟨_, rfl⟩
      rw [← hsl] at c0 c1 c2 hs hn HM
      clear hsl
      cases hm : meetsB s.f s.t f t
      · have HM2 := Lib.hid (fun (x : Aft wr) => Calls.aft_of (x := x) (Calls.rb_eq (HM.out x.to) (congrArg Value.bool hm)))
        have hyes := Lib.hid (hs.out.trans (show _ = true by rw [HA.out]; simp [hm]))
        clear HM hs hn
        go_wp2_with (refine wp_region_aft (by kernel_rfl) (by kernel_rfl) ?_; (repeat (any_goals (first | go_big_quiet_step ((go_at_call 126; with_reducible exact HM2.out _)) | quiet_step ((go_at_call 126; with_reducible exact HM2.out _)) | (refine wpQuiet_step (fun K hK => ?_); go_simp; split <;> (refine hK _ ?_; clear hK K))))); all_goals (refine wpQuiet_nil ?_; intro wq hw'; obtain ⟨x1, hx1⟩ := hw'; have hbq := x1.h; rw [← hx1] at hbq; clear hx1 x1))
        obtain ⟨hc1, hf1⟩ := bcell hbq
        have hz1 := hbq.size
        go_roundw
        case rel => exact ⟨k + 1, by omega, by go_num, hyes.out, below_then HB.out hbq, by omega, by rw [hc1 _ _ hsz]; exact f0, by rw [hc1 _ _ hsz]; exact f1⟩
        case measure => simp [intOf]; omega
      · have HM2 := Lib.hid (fun (x : Aft wr) => Calls.aft_of (x := x) (Calls.rb_eq (HM.out x.to) (congrArg Value.bool hm)))
        have hno := Lib.hid (hn.out (by simp [hm]))
        clear HM hs hn
        go_wp2_with (refine wp_region_aft (by kernel_rfl) (by kernel_rfl) ?_; (repeat (any_goals (first | go_big_quiet_step ((go_at_call 126; with_reducible exact HM2.out _)) | quiet_step ((go_at_call 126; with_reducible exact HM2.out _)) | (refine wpQuiet_step (fun K hK => ?_); go_simp; split <;> (refine hK _ ?_; clear hK K))))); all_goals (refine wpQuiet_nil ?_; intro wq hw'; obtain ⟨x1, hx1⟩ := hw'; have hbq := x1.h; rw [← hx1] at hbq; clear hx1 x1))
        go_returns
        exact ⟨by rw [HE.out, hno.out]; rfl, below_then HB.out hbq⟩
    · obtain rfl : k = c.length := by omega
      have hq := Lib.hid (HE.out.trans (show _ = true by have := HA.out; rw [List.take_length] at this; exact this))
      go_wp2_with fail
      go_returns
      exact ⟨by rw [hq.out]; rfl, HB.out⟩

def clearV (c : List Sl) (f t : Int) : Bool := if freeE c f t = 0 then clearB c f t else false
end

section
open Go.RowKit Go.Shelf

/-- The first slot that holds a moment, as the document looks for it. -/
def hitR (c : List Sl) (a : Int) : Option Sl := c.find? (fun s => inB s.f s.t a)
theorem hitR_at {c : List Sl} {a : Int} {k : Nat} (hk : k < c.length) (h : inB c[k].f c[k].t a = true) (ha : ∀ j (hj : j < c.length), j < k → inB c[j].f c[j].t a = false) : hitR c a = some c[k] := by
  unfold hitR
  rw [List.find?_eq_some_iff_getElem]
  exact ⟨h, k, hk, rfl, fun j hj => by rw [ha j (by omega) hj]; rfl⟩
theorem hitR_no {c : List Sl} {a : Int} (ha : ∀ j (hj : j < c.length), j < c.length → inB c[j].f c[j].t a = false) : hitR c a = none := by
  unfold hitR
  rw [List.find?_eq_none]
  intro s hs
  obtain ⟨j, hj, rfl⟩ := List.mem_iff_getElem.1 hs
  rw [ha j hj hj]; decide
theorem hitR_eq {c : List Sl} (hch : chain 0 c = true) (a : Int) : hitR c a = hitAt c a := by
  have hal := aft_le c a
  have hI := fun (k : Nat) (hk : k < c.length) => aft_iff hch a hk
  have hb : ∀ j (hj : j < c.length), j < aft c a → inB c[j].f c[j].t a = false := fun j hj hlt => by
    have := (hI j hj).2 hlt
    unfold inB
    rw [decide_eq_false (show ¬ a < c[j].t by omega), Bool.and_false]
  by_cases hlt : aft c a < c.length
  · have h1 : a < c[aft c a].t := by
      rcases Int.lt_or_le a c[aft c a].t with h | h
      · exact h
      · exact absurd ((hI _ hlt).1 h) (by omega)
    unfold hitAt
    rw [List.getElem?_eq_getElem hlt]
    simp only []
    by_cases hf : c[aft c a].f ≤ a
    · rw [if_pos hf]
      exact hitR_at hlt (by unfold inB; rw [decide_eq_true hf, decide_eq_true h1]; rfl) hb
    · rw [if_neg hf]
      refine hitR_no (fun j hj _ => ?_)
      rcases Nat.lt_trichotomy j (aft c a) with h | h | h
      · exact hb j hj h
      · subst h
        unfold inB
        rw [decide_eq_false hf]; rfl
      · have := chain_next hch hj hlt h
        unfold inB
        rw [decide_eq_false (show ¬ c[j].f ≤ a by omega)]; rfl
  · unfold hitAt
    rw [List.getElem?_eq_none (by omega)]
    exact hitR_no (fun j hj _ => hb j hj (by omega))

end

section
open Go.RowKit Go.Shelf

/-- The first moment from which something is free, slot after slot. -/
def nextF : List Sl → Int → Int → Int
  | [], fr, _ => fr
  | s :: r, fr, long => if long ≤ s.f - fr then fr else nextF r s.t long
def nextN (c : List Sl) (fr long : Int) : Int := nextF (c.drop (aft c fr)) fr long
def nextE (c : List Sl) (fr long : Int) : Int := if calE c = 0 then if (0 ≤ fr ∧ fr < 1099511627776) ∧ 1 ≤ long then if long ≤ 1099511627776 - nextN c fr long then 0 else 6 else 2 else calE c
def nextV (c : List Sl) (fr long : Int) : Int := if nextE c fr long = 0 then nextN c fr long else 0
theorem nextF_in : ∀ {l : List Sl} {fr long : Int}, (∀ s ∈ l, s.may) → 0 ≤ fr → fr ≤ 1099511627776 → 0 ≤ nextF l fr long ∧ nextF l fr long ≤ 1099511627776
  | [], _, _, _, h1, h2 => ⟨h1, h2⟩
  | s :: r, fr, long, h, h1, h2 => by
    unfold nextF
    split
    · exact ⟨h1, h2⟩
    · have hs := h s (List.mem_cons_self ..)
      exact nextF_in (fun x hx => h x (List.mem_cons_of_mem _ hx)) (by have := hs.1.1; omega) hs.1.2
theorem nextF_drop {l : List Sl} {k : Nat} (h : k < l.length) (fr long : Int) : nextF (l.drop k) fr long = if long ≤ l[k].f - fr then fr else nextF (l.drop (k + 1)) l[k].t long := by
  rw [List.drop_eq_getElem_cons h]; rfl

end

section
open Go.RowKit Go.Shelf

/-- The moments at which something may begin, in turn; the least so far. -/
def cand (c : List Sl) (fr : Int) (k : Nat) : Int := if k = 0 then fr else (c[k - 1]?.map Sl.t).getD 0
def stepB (c : List Sl) (fr long best at' : Int) : Int :=
  if at' < fr then best else if 1099511627776 - at' < long then best else if 0 ≤ best then (if best ≤ at' then best else if clearB c at' (at' + long) then at' else best) else if clearB c at' (at' + long) then at' else best
def bestTo (c : List Sl) (fr long : Int) : Nat → Int
  | 0 => -1
  | k + 1 => stepB c fr long (bestTo c fr long k) (cand c fr k)
def bestOf (c : List Sl) (fr long : Int) : Int := bestTo c fr long (c.length + 1)
def nrE (c : List Sl) (fr long : Int) : Int := if calOk c then if (0 ≤ fr ∧ fr < 1099511627776) ∧ 1 ≤ long then if bestOf c fr long < 0 then 6 else 0 else 2 else 8
def nrV (c : List Sl) (fr long : Int) : Int := if nrE c fr long = 0 then bestOf c fr long else 0

end
end
end Go.Proofs.YtofoenlhbmammaaGreat
