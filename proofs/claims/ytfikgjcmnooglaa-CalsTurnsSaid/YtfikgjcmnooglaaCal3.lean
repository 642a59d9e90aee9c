/- CAL: Free, At. -/
import Derived.Test.YtfikgjcmnooglaaCal2
namespace Go.Proofs.Ytfikgjcmnooglaa
open Go.RowKit Go.Shelf

theorem calE_ok {c : List Sl} (h : calE c = 0) : chain 0 c = true ∧ c.length ≤ 4096 := by
  unfold calE calOk at h
  split at h
  · next e => simp only [Bool.and_eq_true, decide_eq_true_eq] at e; exact ⟨e.2, e.1⟩
  · omega

def freeE (c : List Sl) (f t : Int) : Int := if calE c = 0 then okIf (spMay f t) 2 else calE c
def freeV (c : List Sl) (f t : Int) : Bool := if freeE c f t = 0 then freeB c f t else false
set_option maxRecDepth 100000 in set_option maxHeartbeats 4000000 in
theorem cal_Free (base : Option Addr) (cap : Nat) (c : List Sl) (f t : Int) (w : World) (hc : CIn w base c) :
    Calls Try.prog 19 #[.slice base c.length cap, .agg #[.int .i64 f, .int .i64 t]] w (RB w (.tuple #[.bool (freeV c f t), .int .i64 (freeE c f t)])) := by
  have HC := Lib.hid hc
  have H1 := Lib.hid (fun W (h : Below w.heap.size w W) => cal_Check base cap c W (HC.out.keep h))
  by_cases he : calE c = 0
  · have H1' := Lib.hid (fun W h => by have := H1.out W h; rw [he] at this; exact this)
    have H2 := Lib.hid (fun W => time_Check f t W)
    by_cases hs : spMay f t
    · have e1 : freeE c f t = 0 := by rw [freeE, if_pos he, okIf_yes hs]
      have HQ := Lib.hid (show freeV c f t = freeB c f t by rw [freeV, if_pos e1])
      have HE := Lib.hid e1
      have H2' := Lib.hid (fun W => by have := H2.out W; rw [okIf_yes hs] at this; exact this)
      have H3 := Lib.hid (fun W (h : Below w.heap.size w W) => cal_free base cap c f t W (HC.out.keep h) (calE_ok he).1)
      clear hc H1 H2 he hs e1
      generalize freeB c f t = z at *
      go_enter Try.func19, Try.ntmps19
      go_wp2_with fail
      refine (H1'.out _ (by (repeat (first | (with_reducible exact Below.refl _ _) | (with_reducible assumption) | (with_reducible refine below_alloc ?_ _) | (with_reducible refine below_drewN ?_ _) | (with_reducible refine Below.drew ?_) | (with_reducible refine below_then ?_ (by with_reducible assumption)) | (with_reducible refine Below.setCell ?_ (by go_size) _))))).mono ?_
      rintro e w1 ⟨rfl, hb1⟩
      (obtain ⟨hc1, hf1⟩ := bcell hb1; have hz1 := hb1.size; (try simp at hz1); have hB : Below w.heap.size w w1 := (by (repeat (first | (with_reducible exact Below.refl _ _) | (with_reducible assumption) | (with_reducible refine below_alloc ?_ _) | (with_reducible refine below_drewN ?_ _) | (with_reducible refine Below.drew ?_) | (with_reducible refine below_then ?_ (by with_reducible assumption)) | (with_reducible refine Below.setCell ?_ (by go_size) _)))); obtain ⟨hcB, hfB⟩ := bcell hB; (try have z0 : w.heap.size < w1.heap.size := by omega); (try have z1 : w.heap.size + 1 < w1.heap.size := by omega); (try have z2 : w.heap.size + 2 < w1.heap.size := by omega); (try have z3 : w.heap.size + 3 < w1.heap.size := by omega))
      go_wp2_with fail
      refine (H2'.out _).mono ?_
      rintro e w2 ⟨rfl, hb2⟩
      have hB2 := below_then hB hb2
      have hb12 := below_then hb1 hb2
      obtain ⟨hc2, hf2⟩ := bcell hb12
      clear hc1 hf1 hcB hfB
      go_wp2_with fail
      refine (H3.out _ hB2).mono ?_
      rintro e w3 ⟨rfl, hb3⟩
      go_wp2_with fail
      go_returns
      exact ⟨by rw [HQ.out, HE.out]; rfl, below_then hB2 hb3⟩
    · have e1 : freeE c f t = 2 := by rw [freeE, if_pos he, okIf_no hs]
      have HQ := Lib.hid (show freeV c f t = false by rw [freeV, if_neg (by omega)])
      have HE := Lib.hid e1
      have H2' := Lib.hid (fun W => by have := H2.out W; rw [okIf_no hs] at this; exact this)
      clear hc H1 H2 he hs e1
      go_enter Try.func19, Try.ntmps19
      go_wp2_with fail
      refine (H1'.out _ (by (repeat (first | (with_reducible exact Below.refl _ _) | (with_reducible assumption) | (with_reducible refine below_alloc ?_ _) | (with_reducible refine below_drewN ?_ _) | (with_reducible refine Below.drew ?_) | (with_reducible refine below_then ?_ (by with_reducible assumption)) | (with_reducible refine Below.setCell ?_ (by go_size) _))))).mono ?_
      rintro e w1 ⟨rfl, hb1⟩
      (obtain ⟨hc1, hf1⟩ := bcell hb1; have hz1 := hb1.size; (try simp at hz1); have hB : Below w.heap.size w w1 := (by (repeat (first | (with_reducible exact Below.refl _ _) | (with_reducible assumption) | (with_reducible refine below_alloc ?_ _) | (with_reducible refine below_drewN ?_ _) | (with_reducible refine Below.drew ?_) | (with_reducible refine below_then ?_ (by with_reducible assumption)) | (with_reducible refine Below.setCell ?_ (by go_size) _)))); obtain ⟨hcB, hfB⟩ := bcell hB; (try have z0 : w.heap.size < w1.heap.size := by omega); (try have z1 : w.heap.size + 1 < w1.heap.size := by omega); (try have z2 : w.heap.size + 2 < w1.heap.size := by omega); (try have z3 : w.heap.size + 3 < w1.heap.size := by omega))
      go_wp2_with fail
      refine (H2'.out _).mono ?_
      rintro e w2 ⟨rfl, hb2⟩
      go_wp2_with fail
      go_returns
      exact ⟨by rw [HQ.out, HE.out]; rfl, below_then hB hb2⟩
  · have e1 : freeE c f t = calE c := by rw [freeE, if_neg he]
    have HQ := Lib.hid (show freeV c f t = false by rw [freeV, if_neg (by omega)])
    have HE := Lib.hid e1
    have hn : (calE c == 0) = false := by simpa using he
    have hm : (calE c != 0) = true := by simpa using he
    clear hc he e1
    generalize calE c = k0 at *
    go_enter Try.func19, Try.ntmps19
    go_wp2_with fail
    refine (H1.out _ (by (repeat (first | (with_reducible exact Below.refl _ _) | (with_reducible assumption) | (with_reducible refine below_alloc ?_ _) | (with_reducible refine below_drewN ?_ _) | (with_reducible refine Below.drew ?_) | (with_reducible refine below_then ?_ (by with_reducible assumption)) | (with_reducible refine Below.setCell ?_ (by go_size) _))))).mono ?_
    rintro e w1 ⟨rfl, hb1⟩
    (obtain ⟨hc1, hf1⟩ := bcell hb1; have hz1 := hb1.size; (try simp at hz1); have hB : Below w.heap.size w w1 := (by (repeat (first | (with_reducible exact Below.refl _ _) | (with_reducible assumption) | (with_reducible refine below_alloc ?_ _) | (with_reducible refine below_drewN ?_ _) | (with_reducible refine Below.drew ?_) | (with_reducible refine below_then ?_ (by with_reducible assumption)) | (with_reducible refine Below.setCell ?_ (by go_size) _)))); obtain ⟨hcB, hfB⟩ := bcell hB; (try have z0 : w.heap.size < w1.heap.size := by omega); (try have z1 : w.heap.size + 1 < w1.heap.size := by omega); (try have z2 : w.heap.size + 2 < w1.heap.size := by omega); (try have z3 : w.heap.size + 3 < w1.heap.size := by omega))
    go_wp2_with fail
    go_returns
    exact ⟨by rw [HQ.out, HE.out]; rfl, hB⟩

/-- The slot of a moment. -/
def hitAt (c : List Sl) (a : Int) : Option Sl := match c[aft c a]? with
  | some s => if s.f ≤ a then some s else none
  | none => none
def atE (c : List Sl) (a : Int) : Int := if calE c = 0 then if 0 ≤ a ∧ a < 1099511627776 then if (hitAt c a).isSome then 0 else 6 else 2 else calE c
def atO (c : List Sl) (a : Int) : Int := if atE c a = 0 then ((hitAt c a).map Sl.o).getD 0 else 0
set_option maxRecDepth 100000 in set_option maxHeartbeats 4000000 in
theorem cal_At (base : Option Addr) (cap : Nat) (c : List Sl) (a : Int) (w : World) (hc : CIn w base c) :
    Calls Try.prog 21 #[.slice base c.length cap, .int .i64 a] w (RB w (.tuple #[.int .i64 (atO c a), .int .i64 (atE c a)])) := by
  have HC := Lib.hid hc
  have H1 := Lib.hid (cal_Check base cap c w hc)
  by_cases he : calE c = 0
  · have H1' := Lib.hid (by have := H1.out; rw [he] at this; exact this)
    obtain ⟨hch, hl⟩ := calE_ok he
    by_cases ha : 0 ≤ a ∧ a < 1099511627776
    · obtain ⟨a0, a1⟩ := ha
      have H3 := Lib.hid (fun W (h : Below w.heap.size w W) => cal_after base cap c a W (HC.out.keep h) hch)
      have hal := aft_le c a
      have e0 : atE c a = if (hitAt c a).isSome then 0 else 6 := by rw [atE, if_pos he, if_pos ⟨a0, a1⟩]
      by_cases hlt : aft c a < c.length
      · have eh : hitAt c a = if c[aft c a].f ≤ a then some c[aft c a] else none := by unfold hitAt; rw [List.getElem?_eq_getElem hlt]
        by_cases hf : c[aft c a].f ≤ a
        · rw [if_pos hf] at eh
          have HE := Lib.hid (show atE c a = 0 by rw [e0, eh]; rfl)
          have HQ := Lib.hid (show atO c a = c[aft c a].o by rw [atO, if_pos HE.out, eh]; rfl)
          clear hc H1 he hch e0 eh
          generalize aft c a = n at *
          have heq : ((n : Int) == (c.length : Int)) = false := by simp; omega
          go_enter Try.func21, Try.ntmps21
          go_wp2_with fail
          refine H1'.out.mono ?_
          rintro e w1 ⟨rfl, hb1⟩
          go_wp2_with fail
          refine (H3.out _ hb1).mono ?_
          rintro e w2 ⟨rfl, hb2⟩
          have hB2 := below_then hb1 hb2
          obtain ⟨b, off, rfl, c0, c1, c2, hbl⟩ := (HC.out.keep hB2).at hlt
          obtain ⟨s, hsl⟩ : ∃ s, s = c[n] := ⟨_, rfl⟩
          rw [← hsl] at c0 c1 c2 HQ hf
          have hd : decide (a < s.f) = false := by rw [decide_eq_false_iff_not]; omega
          clear hsl
          go_wp2_with fail
          go_returns
          exact ⟨by rw [HQ.out, HE.out]; rfl, hB2⟩
        · rw [if_neg hf] at eh
          have HE := Lib.hid (show atE c a = 6 by rw [e0, eh]; rfl)
          have HQ := Lib.hid (show atO c a = 0 by rw [atO, HE.out]; rfl)
          clear hc H1 he hch e0 eh
          generalize aft c a = n at *
          have heq : ((n : Int) == (c.length : Int)) = false := by simp; omega
          go_enter Try.func21, Try.ntmps21
          go_wp2_with fail
          refine H1'.out.mono ?_
          rintro e w1 ⟨rfl, hb1⟩
          go_wp2_with fail
          refine (H3.out _ hb1).mono ?_
          rintro e w2 ⟨rfl, hb2⟩
          have hB2 := below_then hb1 hb2
          obtain ⟨b, off, rfl, c0, c1, c2, hbl⟩ := (HC.out.keep hB2).at hlt
          obtain ⟨s, hsl⟩ : ∃ s, s = c[n] := ⟨_, rfl⟩
          rw [← hsl] at c0 c1 c2 hf
          have hd : decide (a < s.f) = true := by rw [decide_eq_true_iff]; omega
          clear hsl
          go_wp2_with fail
          go_returns
          exact ⟨by rw [HQ.out, HE.out]; rfl, hB2⟩
      · have eh : hitAt c a = none := by unfold hitAt; rw [List.getElem?_eq_none (by omega)]
        have HE := Lib.hid (show atE c a = 6 by rw [e0, eh]; rfl)
        have HQ := Lib.hid (show atO c a = 0 by rw [atO, HE.out]; rfl)
        clear hc H1 he hch e0 eh
        generalize aft c a = n at *
        have heq : ((n : Int) == (c.length : Int)) = true := by simp; omega
        go_enter Try.func21, Try.ntmps21
        go_wp2_with fail
        refine H1'.out.mono ?_
        rintro e w1 ⟨rfl, hb1⟩
        go_wp2_with fail
        refine (H3.out _ hb1).mono ?_
        rintro e w2 ⟨rfl, hb2⟩
        have hB2 := below_then hb1 hb2
        go_wp2_with fail
        go_returns
        exact ⟨by rw [HQ.out, HE.out]; rfl, hB2⟩
    · have HE := Lib.hid (show atE c a = 2 by rw [atE, if_pos he, if_neg ha])
      have HQ := Lib.hid (show atO c a = 0 by rw [atO, HE.out]; rfl)
      clear hc H1 he hch
      by_cases h0 : a < 0
      · have hd : decide (a < 0) = true := decide_eq_true h0
        go_enter Try.func21, Try.ntmps21
        go_wp2_with fail
        refine H1'.out.mono ?_
        rintro e w1 ⟨rfl, hb1⟩
        go_wp2_with fail
        go_returns
        exact ⟨by rw [HQ.out, HE.out]; rfl, hb1⟩
      · have hd : decide (a < 0) = false := decide_eq_false h0
        have hd2 : 1099511627776 ≤ a := by omega
        go_enter Try.func21, Try.ntmps21
        go_wp2_with fail
        refine H1'.out.mono ?_
        rintro e w1 ⟨rfl, hb1⟩
        go_wp2_with fail
        go_returns
        exact ⟨by rw [HQ.out, HE.out]; rfl, hb1⟩
  · have e1 : atE c a = calE c := by rw [atE, if_neg he]
    have HQ := Lib.hid (show atO c a = 0 by rw [atO, if_neg (by omega)])
    have HE := Lib.hid e1
    have hn : (calE c == 0) = false := by simpa using he
    have hm : (calE c != 0) = true := by simpa using he
    clear hc he e1
    generalize calE c = k0 at *
    go_enter Try.func21, Try.ntmps21
    go_wp2_with fail
    refine H1.out.mono ?_
    rintro e w1 ⟨rfl, hb1⟩
    go_wp2_with fail
    go_returns
    exact ⟨by rw [HQ.out, HE.out]; rfl, hb1⟩
end Go.Proofs.Ytfikgjcmnooglaa
