/- YARDS: the code's Check, Busy and Owned. -/
import Derived.Test.YtofoenlhbmammaaGreatQ0CalAF11
import Derived.Test.YtofoenlhbmammaaGreatQ0YardIF11
import Derived.Test.YtofoenlhbmammaaGreatQ0YardNF11
set_option linter.unusedVariables false
set_option linter.unusedSimpArgs false
namespace Go.Proofs.YtofoenlhbmammaaGreat

section
section
open Go.RowKit Go.Shelf

set_option maxRecDepth 100000 in set_option maxHeartbeats 4000000 in
theorem cals_odd (b : Option Addr) (cap : Nat) (c : List Sl) (w : World) (hc : CIn w b c) : Calls Tryz.prog 71 #[.slice b c.length cap] w (RB w (.bool (!calOk c))) := by
  have H := Lib.hid (cal_Check b cap c w hc)
  cases h : calOk c with
  | true =>
    have H := Lib.hid (Calls.rb_eq H.out (show Value.int .i64 (calE c) = .int .i64 0 by unfold calE; rw [h]; rfl))
    clear hc h
    go_enter Tryz.func71, Tryz.ntmps71
    go_wp2_with ((with_reducible refine (H.out).mono ?_); rintro e w1 ⟨rfl, hb1⟩; (obtain ⟨hc1, hf1⟩ := bcell hb1; have hz1 := hb1.size; (try simp at hz1)))
    go_returns
    exact ⟨rfl, hb1⟩
  | false =>
    have H := Lib.hid (Calls.rb_eq H.out (show Value.int .i64 (calE c) = .int .i64 8 by unfold calE; rw [h]; rfl))
    clear hc h
    go_enter Tryz.func71, Tryz.ntmps71
    go_wp2_with ((with_reducible refine (H.out).mono ?_); rintro e w1 ⟨rfl, hb1⟩; (obtain ⟨hc1, hf1⟩ := bcell hb1; have hz1 := hb1.size; (try simp at hz1)))
    go_returns
    exact ⟨rfl, hb1⟩
/-- Where the first odd one is. -/
def RIo (w : World) (ok : Bool) : Ending → World → Prop := fun e w' => (∃ r : Int, e = .returned (.int .i64 r) ∧ (ok = true → r = -1) ∧ (ok = false → 0 ≤ r)) ∧ Below w.heap.size w w'
set_option maxRecDepth 100000 in set_option maxHeartbeats 4000000 in
theorem cals_index (bn : Option Addr) (cn : Nat) (ns : List (List Sl)) (w : World) (hn : CC w bn ns) :
    Calls Tryz.prog 100 #[.slice bn ns.length cn, .func (.func 71) #[] #[]] w (RIo w (ns.all calOk)) := by
  have eg : ∀ args w, (callFunc 71 args).run Tryz.prog w = .ok (.enter 71 args) w := enters_of Tryz.func71 (by kernel_rfl) rfl
  have HN := Lib.hid hn
  have hm := hn.many
  clear hn
  go_enter Tryz.func100, Tryz.ntmps100
  go_wp2_with fail
  go_loopw [8] (fun i wr => ∃ k : Nat, k ≤ ns.length ∧ i = .int .i64 k ∧ (ns.take k).all calOk = true ∧ Below w.heap.size w wr) (fun i _ => ns.length - (intOf i).toNat)
  case atStart => exact ⟨0, Nat.zero_le _, rfl, by simp, Below.refl _ _⟩
  case round =>
    obtain ⟨k, hk, rfl, h0, hbel⟩ := hrel
    have H0 := Lib.hid h0
    have HB := Lib.hid hbel
    clear h0 hbel
    by_cases hlt : k < ns.length
    · obtain ⟨c, hc⟩ : ∃ c, ns[k]? = some c := ⟨_, List.getElem?_eq_getElem hlt⟩
      obtain ⟨g, o, b, cap, e, hcell, hgl, hcs, _⟩ := (HN.out.keep HB.out).at hc
      subst e
      have hck : ns[k] = c := by rw [List.getElem?_eq_getElem hlt] at hc; exact Option.some.inj hc
      cases hok : calOk c with
      | true =>
        have HM := Lib.hid (Calls.rb_eq (cals_odd b cap c wr hcs) (show Value.bool (!calOk c) = .bool false by rw [hok]; rfl))
        have H1 := Lib.hid (all_takes hlt H0.out (by rw [hck]; exact hok))
        clear hcs hc hck hok
        go_wp2_with ((with_reducible refine (HM.out).mono ?_); rintro e w1 ⟨rfl, hb1⟩; (obtain ⟨hc1, hf1⟩ := bcell hb1; have hz1 := hb1.size; (try simp at hz1)))
        go_roundw
        case rel => exact ⟨k + 1, by omega, by go_num, H1.out, below_then HB.out hb1⟩
        case measure => (simp [intOf] <;> omega)
      | false =>
        have HM := Lib.hid (Calls.rb_eq (cals_odd b cap c wr hcs) (show Value.bool (!calOk c) = .bool true by rw [hok]; rfl))
        have HNo := Lib.hid (show ns.all calOk = false by rw [List.all_eq_false]; exact ⟨c, List.mem_of_getElem? hc, by rw [hok]; decide⟩)
        clear hcs hc hck hok
        go_wp2_with ((with_reducible refine (HM.out).mono ?_); rintro e w1 ⟨rfl, hb1⟩; (obtain ⟨hc1, hf1⟩ := bcell hb1; have hz1 := hb1.size; (try simp at hz1)))
        go_returns
        exact ⟨⟨k, rfl, fun h => (by rw [HNo.out] at h; cases h), fun _ => by omega⟩, below_then HB.out hb1⟩
    · obtain rfl : k = ns.length := by omega
      have HY := Lib.hid (show ns.all calOk = true by have := H0.out; rw [List.take_length] at this; exact this)
      go_wp2_with fail
      go_returns
      exact ⟨⟨-1, rfl, fun _ => rfl, fun h => (by rw [HY.out] at h; cases h)⟩, HB.out⟩
set_option maxRecDepth 100000 in set_option maxHeartbeats 4000000 in
theorem cals_contains (bn : Option Addr) (cn : Nat) (ns : List (List Sl)) (w : World) (hn : CC w bn ns) :
    Calls Tryz.prog 73 #[.slice bn ns.length cn, .func (.func 71) #[] #[]] w (RB w (.bool (!ns.all calOk))) := by
  have H := Lib.hid (cals_index bn cn ns w hn)
  clear hn
  cases hm : ns.all calOk with
  | true =>
    rw [hm] at H
    go_enter Tryz.func73, Tryz.ntmps73
    go_wp2_with fail
    refine H.out.mono ?_
    rintro e w1 ⟨⟨r, rfl, h1, h2⟩, hb1⟩
    obtain rfl := h1 rfl
    go_wp2_with fail
    go_returns
    exact ⟨rfl, hb1⟩
  | false =>
    rw [hm] at H
    go_enter Tryz.func73, Tryz.ntmps73
    go_wp2_with fail
    refine H.out.mono ?_
    rintro e w1 ⟨⟨r, rfl, h1, h2⟩, hb1⟩
    have h3 := h2 rfl
    go_wp2_with fail
    go_returns
    exact ⟨rfl, hb1⟩
def Yd.chk (y : Yd) : Int := if y.okB then 0 else 8
set_option maxRecDepth 100000 in set_option maxHeartbeats 4000000 in
theorem cals_Check (d : V3) (bn bl : Option Addr) (cn cl : Nat) (ns ls : List (List Sl)) (w : World) (hn : CC w bn ns) (hl : CC w bl ls) :
    Calls Tryz.prog 38 #[.agg #[.int .i64 d.x, .int .i64 d.y, .int .i64 d.z, (.slice bn ns.length cn), (.slice bl ls.length cl)]] w (RB w (.int .i64 (Yd.chk ⟨d, ns, ls⟩))) := by
  have h9 := hn.many
  have h8 := hl.many
  have M3 := Lib.hid (fun W (h : Below w.heap.size w W) => cals_contains bn cn ns W (hn.keep h))
  have M4 := Lib.hid (fun W (h : Below w.heap.size w W) => cals_contains bl cl ls W (hl.keep h))
  have M1 := Lib.hid (fun W => pos_Many d W)
  clear hn hl
  by_cases h1 : d.may
  · have hM1 := decide_eq_true h1
    rw [V3.many_ok h1, V3.err_ok h1] at M1
    obtain ⟨hn0, hn1⟩ := V3.n_le h1
    obtain ⟨q, hq⟩ : ∃ q, q = d.n := ⟨_, rfl⟩
    rw [← hq] at M1 hn0 hn1
    by_cases h2 : (ns.length : Int) = q
    · have e2 : ((ns.length : Int) == q) = true := by simpa using h2
      have e2' : ((ns.length : Int) != q) = false := by simpa using h2
      by_cases h3 : (ls.length : Int) = 3 * q
      · have e3 : ((ls.length : Int) == 3 * q) = true := by simpa using h3
        have e3' : ((ls.length : Int) != 3 * q) = false := by simpa using h3
        cases h4 : ns.all calOk with
        | true =>
          cases h5 : ls.all calOk with
          | true =>
            have HR := Lib.hid (show Yd.chk ⟨d, ns, ls⟩ = 0 by unfold Yd.chk Yd.okB; simp only; rw [hM1, ← hq, decide_eq_true h2, decide_eq_true h3, h4, h5]; rfl)
            rw [h4] at M3
            rw [h5] at M4
            clear h1 h2 h3 h4 h5 hM1 hq
            (go_enter Tryz.func38, Tryz.ntmps38; go_wp2_with (first | ((with_reducible refine (M1.out _).mono ?_); rintro e w1 ⟨rfl, hb1⟩; (obtain ⟨hc1, hf1⟩ := bcell hb1; have hz1 := hb1.size; (try simp at hz1); have hB : Below w.heap.size w w1 := (by (repeat (first | (with_reducible exact Below.refl _ _) | (with_reducible assumption) | (with_reducible refine below_alloc ?_ _) | (with_reducible refine below_drewN ?_ _) | (with_reducible refine Below.drew ?_) | (with_reducible refine below_then ?_ (by with_reducible assumption)) | (with_reducible refine Below.setCell ?_ (by go_size) _)))); obtain ⟨hcB, hfB⟩ := bcell hB; (try have z0 : w.heap.size < w1.heap.size := by omega); (try have z1 : w.heap.size + 1 < w1.heap.size := by omega); (try have z2 : w.heap.size + 2 < w1.heap.size := by omega); (try have z3 : w.heap.size + 3 < w1.heap.size := by omega))) | ((with_reducible refine (M3.out _ (by (repeat (first | (with_reducible exact Below.refl _ _) | (with_reducible assumption) | (with_reducible refine below_alloc ?_ _) | (with_reducible refine below_drewN ?_ _) | (with_reducible refine Below.drew ?_) | (with_reducible refine below_then ?_ (by with_reducible assumption)) | (with_reducible refine Below.setCell ?_ (by go_size) _))))).mono ?_); rintro e w1 ⟨rfl, hb1⟩; (obtain ⟨hc1, hf1⟩ := bcell hb1; have hz1 := hb1.size; (try simp at hz1); have hB : Below w.heap.size w w1 := (by (repeat (first | (with_reducible exact Below.refl _ _) | (with_reducible assumption) | (with_reducible refine below_alloc ?_ _) | (with_reducible refine below_drewN ?_ _) | (with_reducible refine Below.drew ?_) | (with_reducible refine below_then ?_ (by with_reducible assumption)) | (with_reducible refine Below.setCell ?_ (by go_size) _)))); obtain ⟨hcB, hfB⟩ := bcell hB; (try have z0 : w.heap.size < w1.heap.size := by omega); (try have z1 : w.heap.size + 1 < w1.heap.size := by omega); (try have z2 : w.heap.size + 2 < w1.heap.size := by omega); (try have z3 : w.heap.size + 3 < w1.heap.size := by omega))) | ((with_reducible refine (M4.out _ (by (repeat (first | (with_reducible exact Below.refl _ _) | (with_reducible assumption) | (with_reducible refine below_alloc ?_ _) | (with_reducible refine below_drewN ?_ _) | (with_reducible refine Below.drew ?_) | (with_reducible refine below_then ?_ (by with_reducible assumption)) | (with_reducible refine Below.setCell ?_ (by go_size) _))))).mono ?_); rintro e w1 ⟨rfl, hb1⟩; (obtain ⟨hc1, hf1⟩ := bcell hb1; have hz1 := hb1.size; (try simp at hz1); have hB : Below w.heap.size w w1 := (by (repeat (first | (with_reducible exact Below.refl _ _) | (with_reducible assumption) | (with_reducible refine below_alloc ?_ _) | (with_reducible refine below_drewN ?_ _) | (with_reducible refine Below.drew ?_) | (with_reducible refine below_then ?_ (by with_reducible assumption)) | (with_reducible refine Below.setCell ?_ (by go_size) _)))); obtain ⟨hcB, hfB⟩ := bcell hB; (try have z0 : w.heap.size < w1.heap.size := by omega); (try have z1 : w.heap.size + 1 < w1.heap.size := by omega); (try have z2 : w.heap.size + 2 < w1.heap.size := by omega); (try have z3 : w.heap.size + 3 < w1.heap.size := by omega)))); go_returns; exact ⟨by (first | (rw [HR.out]; done) | (rw [HR.out]; rfl) | (rw [HR.out]; simp; done)), by (repeat (first | (with_reducible exact Below.refl _ _) | (with_reducible assumption) | (with_reducible refine below_alloc ?_ _) | (with_reducible refine below_drewN ?_ _) | (with_reducible refine Below.drew ?_) | (with_reducible refine below_then ?_ (by with_reducible assumption)) | (with_reducible refine Below.setCell ?_ (by go_size) _)))⟩)
          | false =>
            have HR := Lib.hid (show Yd.chk ⟨d, ns, ls⟩ = 8 by unfold Yd.chk Yd.okB; simp only; rw [h5]; simp)
            rw [h4] at M3
            rw [h5] at M4
            clear h1 h2 h3 h4 h5 hM1 hq
            (go_enter Tryz.func38, Tryz.ntmps38; go_wp2_with (first | ((with_reducible refine (M1.out _).mono ?_); rintro e w1 ⟨rfl, hb1⟩; (obtain ⟨hc1, hf1⟩ := bcell hb1; have hz1 := hb1.size; (try simp at hz1); have hB : Below w.heap.size w w1 := (by (repeat (first | (with_reducible exact Below.refl _ _) | (with_reducible assumption) | (with_reducible refine below_alloc ?_ _) | (with_reducible refine below_drewN ?_ _) | (with_reducible refine Below.drew ?_) | (with_reducible refine below_then ?_ (by with_reducible assumption)) | (with_reducible refine Below.setCell ?_ (by go_size) _)))); obtain ⟨hcB, hfB⟩ := bcell hB; (try have z0 : w.heap.size < w1.heap.size := by omega); (try have z1 : w.heap.size + 1 < w1.heap.size := by omega); (try have z2 : w.heap.size + 2 < w1.heap.size := by omega); (try have z3 : w.heap.size + 3 < w1.heap.size := by omega))) | ((with_reducible refine (M3.out _ (by (repeat (first | (with_reducible exact Below.refl _ _) | (with_reducible assumption) | (with_reducible refine below_alloc ?_ _) | (with_reducible refine below_drewN ?_ _) | (with_reducible refine Below.drew ?_) | (with_reducible refine below_then ?_ (by with_reducible assumption)) | (with_reducible refine Below.setCell ?_ (by go_size) _))))).mono ?_); rintro e w1 ⟨rfl, hb1⟩; (obtain ⟨hc1, hf1⟩ := bcell hb1; have hz1 := hb1.size; (try simp at hz1); have hB : Below w.heap.size w w1 := (by (repeat (first | (with_reducible exact Below.refl _ _) | (with_reducible assumption) | (with_reducible refine below_alloc ?_ _) | (with_reducible refine below_drewN ?_ _) | (with_reducible refine Below.drew ?_) | (with_reducible refine below_then ?_ (by with_reducible assumption)) | (with_reducible refine Below.setCell ?_ (by go_size) _)))); obtain ⟨hcB, hfB⟩ := bcell hB; (try have z0 : w.heap.size < w1.heap.size := by omega); (try have z1 : w.heap.size + 1 < w1.heap.size := by omega); (try have z2 : w.heap.size + 2 < w1.heap.size := by omega); (try have z3 : w.heap.size + 3 < w1.heap.size := by omega))) | ((with_reducible refine (M4.out _ (by (repeat (first | (with_reducible exact Below.refl _ _) | (with_reducible assumption) | (with_reducible refine below_alloc ?_ _) | (with_reducible refine below_drewN ?_ _) | (with_reducible refine Below.drew ?_) | (with_reducible refine below_then ?_ (by with_reducible assumption)) | (with_reducible refine Below.setCell ?_ (by go_size) _))))).mono ?_); rintro e w1 ⟨rfl, hb1⟩; (obtain ⟨hc1, hf1⟩ := bcell hb1; have hz1 := hb1.size; (try simp at hz1); have hB : Below w.heap.size w w1 := (by (repeat (first | (with_reducible exact Below.refl _ _) | (with_reducible assumption) | (with_reducible refine below_alloc ?_ _) | (with_reducible refine below_drewN ?_ _) | (with_reducible refine Below.drew ?_) | (with_reducible refine below_then ?_ (by with_reducible assumption)) | (with_reducible refine Below.setCell ?_ (by go_size) _)))); obtain ⟨hcB, hfB⟩ := bcell hB; (try have z0 : w.heap.size < w1.heap.size := by omega); (try have z1 : w.heap.size + 1 < w1.heap.size := by omega); (try have z2 : w.heap.size + 2 < w1.heap.size := by omega); (try have z3 : w.heap.size + 3 < w1.heap.size := by omega)))); go_returns; exact ⟨by (first | (rw [HR.out]; done) | (rw [HR.out]; rfl) | (rw [HR.out]; simp; done)), by (repeat (first | (with_reducible exact Below.refl _ _) | (with_reducible assumption) | (with_reducible refine below_alloc ?_ _) | (with_reducible refine below_drewN ?_ _) | (with_reducible refine Below.drew ?_) | (with_reducible refine below_then ?_ (by with_reducible assumption)) | (with_reducible refine Below.setCell ?_ (by go_size) _)))⟩)
        | false =>
          have HR := Lib.hid (show Yd.chk ⟨d, ns, ls⟩ = 8 by unfold Yd.chk Yd.okB; simp only; rw [h4]; simp)
          rw [h4] at M3
          clear h1 h2 h3 h4 hM1 hq
          (go_enter Tryz.func38, Tryz.ntmps38; go_wp2_with (first | ((with_reducible refine (M1.out _).mono ?_); rintro e w1 ⟨rfl, hb1⟩; (obtain ⟨hc1, hf1⟩ := bcell hb1; have hz1 := hb1.size; (try simp at hz1); have hB : Below w.heap.size w w1 := (by (repeat (first | (with_reducible exact Below.refl _ _) | (with_reducible assumption) | (with_reducible refine below_alloc ?_ _) | (with_reducible refine below_drewN ?_ _) | (with_reducible refine Below.drew ?_) | (with_reducible refine below_then ?_ (by with_reducible assumption)) | (with_reducible refine Below.setCell ?_ (by go_size) _)))); obtain ⟨hcB, hfB⟩ := bcell hB; (try have z0 : w.heap.size < w1.heap.size := by omega); (try have z1 : w.heap.size + 1 < w1.heap.size := by omega); (try have z2 : w.heap.size + 2 < w1.heap.size := by omega); (try have z3 : w.heap.size + 3 < w1.heap.size := by omega))) | ((with_reducible refine (M3.out _ (by (repeat (first | (with_reducible exact Below.refl _ _) | (with_reducible assumption) | (with_reducible refine below_alloc ?_ _) | (with_reducible refine below_drewN ?_ _) | (with_reducible refine Below.drew ?_) | (with_reducible refine below_then ?_ (by with_reducible assumption)) | (with_reducible refine Below.setCell ?_ (by go_size) _))))).mono ?_); rintro e w1 ⟨rfl, hb1⟩; (obtain ⟨hc1, hf1⟩ := bcell hb1; have hz1 := hb1.size; (try simp at hz1); have hB : Below w.heap.size w w1 := (by (repeat (first | (with_reducible exact Below.refl _ _) | (with_reducible assumption) | (with_reducible refine below_alloc ?_ _) | (with_reducible refine below_drewN ?_ _) | (with_reducible refine Below.drew ?_) | (with_reducible refine below_then ?_ (by with_reducible assumption)) | (with_reducible refine Below.setCell ?_ (by go_size) _)))); obtain ⟨hcB, hfB⟩ := bcell hB; (try have z0 : w.heap.size < w1.heap.size := by omega); (try have z1 : w.heap.size + 1 < w1.heap.size := by omega); (try have z2 : w.heap.size + 2 < w1.heap.size := by omega); (try have z3 : w.heap.size + 3 < w1.heap.size := by omega))) | ((with_reducible refine (M4.out _ (by (repeat (first | (with_reducible exact Below.refl _ _) | (with_reducible assumption) | (with_reducible refine below_alloc ?_ _) | (with_reducible refine below_drewN ?_ _) | (with_reducible refine Below.drew ?_) | (with_reducible refine below_then ?_ (by with_reducible assumption)) | (with_reducible refine Below.setCell ?_ (by go_size) _))))).mono ?_); rintro e w1 ⟨rfl, hb1⟩; (obtain ⟨hc1, hf1⟩ := bcell hb1; have hz1 := hb1.size; (try simp at hz1); have hB : Below w.heap.size w w1 := (by (repeat (first | (with_reducible exact Below.refl _ _) | (with_reducible assumption) | (with_reducible refine below_alloc ?_ _) | (with_reducible refine below_drewN ?_ _) | (with_reducible refine Below.drew ?_) | (with_reducible refine below_then ?_ (by with_reducible assumption)) | (with_reducible refine Below.setCell ?_ (by go_size) _)))); obtain ⟨hcB, hfB⟩ := bcell hB; (try have z0 : w.heap.size < w1.heap.size := by omega); (try have z1 : w.heap.size + 1 < w1.heap.size := by omega); (try have z2 : w.heap.size + 2 < w1.heap.size := by omega); (try have z3 : w.heap.size + 3 < w1.heap.size := by omega)))); go_returns; exact ⟨by (first | (rw [HR.out]; done) | (rw [HR.out]; rfl) | (rw [HR.out]; simp; done)), by (repeat (first | (with_reducible exact Below.refl _ _) | (with_reducible assumption) | (with_reducible refine below_alloc ?_ _) | (with_reducible refine below_drewN ?_ _) | (with_reducible refine Below.drew ?_) | (with_reducible refine below_then ?_ (by with_reducible assumption)) | (with_reducible refine Below.setCell ?_ (by go_size) _)))⟩)
      · have e3 : ((ls.length : Int) == 3 * q) = false := by simpa using h3
        have e3' : ((ls.length : Int) != 3 * q) = true := by simpa using h3
        have HR := Lib.hid (show Yd.chk ⟨d, ns, ls⟩ = 8 by unfold Yd.chk Yd.okB; simp only; rw [← hq, decide_eq_false h3]; simp)
        clear h1 h2 h3 hM1 hq
        (go_enter Tryz.func38, Tryz.ntmps38; go_wp2_with (first | ((with_reducible refine (M1.out _).mono ?_); rintro e w1 ⟨rfl, hb1⟩; (obtain ⟨hc1, hf1⟩ := bcell hb1; have hz1 := hb1.size; (try simp at hz1); have hB : Below w.heap.size w w1 := (by (repeat (first | (with_reducible exact Below.refl _ _) | (with_reducible assumption) | (with_reducible refine below_alloc ?_ _) | (with_reducible refine below_drewN ?_ _) | (with_reducible refine Below.drew ?_) | (with_reducible refine below_then ?_ (by with_reducible assumption)) | (with_reducible refine Below.setCell ?_ (by go_size) _)))); obtain ⟨hcB, hfB⟩ := bcell hB; (try have z0 : w.heap.size < w1.heap.size := by omega); (try have z1 : w.heap.size + 1 < w1.heap.size := by omega); (try have z2 : w.heap.size + 2 < w1.heap.size := by omega); (try have z3 : w.heap.size + 3 < w1.heap.size := by omega))) | ((with_reducible refine (M3.out _ (by (repeat (first | (with_reducible exact Below.refl _ _) | (with_reducible assumption) | (with_reducible refine below_alloc ?_ _) | (with_reducible refine below_drewN ?_ _) | (with_reducible refine Below.drew ?_) | (with_reducible refine below_then ?_ (by with_reducible assumption)) | (with_reducible refine Below.setCell ?_ (by go_size) _))))).mono ?_); rintro e w1 ⟨rfl, hb1⟩; (obtain ⟨hc1, hf1⟩ := bcell hb1; have hz1 := hb1.size; (try simp at hz1); have hB : Below w.heap.size w w1 := (by (repeat (first | (with_reducible exact Below.refl _ _) | (with_reducible assumption) | (with_reducible refine below_alloc ?_ _) | (with_reducible refine below_drewN ?_ _) | (with_reducible refine Below.drew ?_) | (with_reducible refine below_then ?_ (by with_reducible assumption)) | (with_reducible refine Below.setCell ?_ (by go_size) _)))); obtain ⟨hcB, hfB⟩ := bcell hB; (try have z0 : w.heap.size < w1.heap.size := by omega); (try have z1 : w.heap.size + 1 < w1.heap.size := by omega); (try have z2 : w.heap.size + 2 < w1.heap.size := by omega); (try have z3 : w.heap.size + 3 < w1.heap.size := by omega))) | ((with_reducible refine (M4.out _ (by (repeat (first | (with_reducible exact Below.refl _ _) | (with_reducible assumption) | (with_reducible refine below_alloc ?_ _) | (with_reducible refine below_drewN ?_ _) | (with_reducible refine Below.drew ?_) | (with_reducible refine below_then ?_ (by with_reducible assumption)) | (with_reducible refine Below.setCell ?_ (by go_size) _))))).mono ?_); rintro e w1 ⟨rfl, hb1⟩; (obtain ⟨hc1, hf1⟩ := bcell hb1; have hz1 := hb1.size; (try simp at hz1); have hB : Below w.heap.size w w1 := (by (repeat (first | (with_reducible exact Below.refl _ _) | (with_reducible assumption) | (with_reducible refine below_alloc ?_ _) | (with_reducible refine below_drewN ?_ _) | (with_reducible refine Below.drew ?_) | (with_reducible refine below_then ?_ (by with_reducible assumption)) | (with_reducible refine Below.setCell ?_ (by go_size) _)))); obtain ⟨hcB, hfB⟩ := bcell hB; (try have z0 : w.heap.size < w1.heap.size := by omega); (try have z1 : w.heap.size + 1 < w1.heap.size := by omega); (try have z2 : w.heap.size + 2 < w1.heap.size := by omega); (try have z3 : w.heap.size + 3 < w1.heap.size := by omega)))); go_returns; exact ⟨by (first | (rw [HR.out]; done) | (rw [HR.out]; rfl) | (rw [HR.out]; simp; done)), by (repeat (first | (with_reducible exact Below.refl _ _) | (with_reducible assumption) | (with_reducible refine below_alloc ?_ _) | (with_reducible refine below_drewN ?_ _) | (with_reducible refine Below.drew ?_) | (with_reducible refine below_then ?_ (by with_reducible assumption)) | (with_reducible refine Below.setCell ?_ (by go_size) _)))⟩)
    · have e2 : ((ns.length : Int) == q) = false := by simpa using h2
      have e2' : ((ns.length : Int) != q) = true := by simpa using h2
      have HR := Lib.hid (show Yd.chk ⟨d, ns, ls⟩ = 8 by unfold Yd.chk Yd.okB; simp only; rw [← hq, decide_eq_false h2]; simp)
      clear h1 h2 hM1 hq
      (go_enter Tryz.func38, Tryz.ntmps38; go_wp2_with (first | ((with_reducible refine (M1.out _).mono ?_); rintro e w1 ⟨rfl, hb1⟩; (obtain ⟨hc1, hf1⟩ := bcell hb1; have hz1 := hb1.size; (try simp at hz1); have hB : Below w.heap.size w w1 := (by (repeat (first | (with_reducible exact Below.refl _ _) | (with_reducible assumption) | (with_reducible refine below_alloc ?_ _) | (with_reducible refine below_drewN ?_ _) | (with_reducible refine Below.drew ?_) | (with_reducible refine below_then ?_ (by with_reducible assumption)) | (with_reducible refine Below.setCell ?_ (by go_size) _)))); obtain ⟨hcB, hfB⟩ := bcell hB; (try have z0 : w.heap.size < w1.heap.size := by omega); (try have z1 : w.heap.size + 1 < w1.heap.size := by omega); (try have z2 : w.heap.size + 2 < w1.heap.size := by omega); (try have z3 : w.heap.size + 3 < w1.heap.size := by omega))) | ((with_reducible refine (M3.out _ (by (repeat (first | (with_reducible exact Below.refl _ _) | (with_reducible assumption) | (with_reducible refine below_alloc ?_ _) | (with_reducible refine below_drewN ?_ _) | (with_reducible refine Below.drew ?_) | (with_reducible refine below_then ?_ (by with_reducible assumption)) | (with_reducible refine Below.setCell ?_ (by go_size) _))))).mono ?_); rintro e w1 ⟨rfl, hb1⟩; (obtain ⟨hc1, hf1⟩ := bcell hb1; have hz1 := hb1.size; (try simp at hz1); have hB : Below w.heap.size w w1 := (by (repeat (first | (with_reducible exact Below.refl _ _) | (with_reducible assumption) | (with_reducible refine below_alloc ?_ _) | (with_reducible refine below_drewN ?_ _) | (with_reducible refine Below.drew ?_) | (with_reducible refine below_then ?_ (by with_reducible assumption)) | (with_reducible refine Below.setCell ?_ (by go_size) _)))); obtain ⟨hcB, hfB⟩ := bcell hB; (try have z0 : w.heap.size < w1.heap.size := by omega); (try have z1 : w.heap.size + 1 < w1.heap.size := by omega); (try have z2 : w.heap.size + 2 < w1.heap.size := by omega); (try have z3 : w.heap.size + 3 < w1.heap.size := by omega))) | ((with_reducible refine (M4.out _ (by (repeat (first | (with_reducible exact Below.refl _ _) | (with_reducible assumption) | (with_reducible refine below_alloc ?_ _) | (with_reducible refine below_drewN ?_ _) | (with_reducible refine Below.drew ?_) | (with_reducible refine below_then ?_ (by with_reducible assumption)) | (with_reducible refine Below.setCell ?_ (by go_size) _))))).mono ?_); rintro e w1 ⟨rfl, hb1⟩; (obtain ⟨hc1, hf1⟩ := bcell hb1; have hz1 := hb1.size; (try simp at hz1); have hB : Below w.heap.size w w1 := (by (repeat (first | (with_reducible exact Below.refl _ _) | (with_reducible assumption) | (with_reducible refine below_alloc ?_ _) | (with_reducible refine below_drewN ?_ _) | (with_reducible refine Below.drew ?_) | (with_reducible refine below_then ?_ (by with_reducible assumption)) | (with_reducible refine Below.setCell ?_ (by go_size) _)))); obtain ⟨hcB, hfB⟩ := bcell hB; (try have z0 : w.heap.size < w1.heap.size := by omega); (try have z1 : w.heap.size + 1 < w1.heap.size := by omega); (try have z2 : w.heap.size + 2 < w1.heap.size := by omega); (try have z3 : w.heap.size + 3 < w1.heap.size := by omega)))); go_returns; exact ⟨by (first | (rw [HR.out]; done) | (rw [HR.out]; rfl) | (rw [HR.out]; simp; done)), by (repeat (first | (with_reducible exact Below.refl _ _) | (with_reducible assumption) | (with_reducible refine below_alloc ?_ _) | (with_reducible refine below_drewN ?_ _) | (with_reducible refine Below.drew ?_) | (with_reducible refine below_then ?_ (by with_reducible assumption)) | (with_reducible refine Below.setCell ?_ (by go_size) _)))⟩)
  · have hM1 := decide_eq_false h1
    rw [V3.many_no h1, V3.err_no h1] at M1
    have HR := Lib.hid (show Yd.chk ⟨d, ns, ls⟩ = 8 by unfold Yd.chk Yd.okB; simp only; rw [hM1]; rfl)
    clear h1 hM1
    (go_enter Tryz.func38, Tryz.ntmps38; go_wp2_with ((with_reducible refine (M1.out _).mono ?_); rintro e w1 ⟨rfl, hb1⟩; (obtain ⟨hc1, hf1⟩ := bcell hb1; have hz1 := hb1.size; (try simp at hz1); have hB : Below w.heap.size w w1 := (by (repeat (first | (with_reducible exact Below.refl _ _) | (with_reducible assumption) | (with_reducible refine below_alloc ?_ _) | (with_reducible refine below_drewN ?_ _) | (with_reducible refine Below.drew ?_) | (with_reducible refine below_then ?_ (by with_reducible assumption)) | (with_reducible refine Below.setCell ?_ (by go_size) _)))); obtain ⟨hcB, hfB⟩ := bcell hB; (try have z0 : w.heap.size < w1.heap.size := by omega); (try have z1 : w.heap.size + 1 < w1.heap.size := by omega); (try have z2 : w.heap.size + 2 < w1.heap.size := by omega); (try have z3 : w.heap.size + 3 < w1.heap.size := by omega))); go_returns; exact ⟨by (first | (rw [HR.out]; done) | (rw [HR.out]; rfl) | (rw [HR.out]; simp; done)), by (repeat (first | (with_reducible exact Below.refl _ _) | (with_reducible assumption) | (with_reducible refine below_alloc ?_ _) | (with_reducible refine below_drewN ?_ _) | (with_reducible refine Below.drew ?_) | (with_reducible refine below_then ?_ (by with_reducible assumption)) | (with_reducible refine Below.setCell ?_ (by go_size) _)))⟩)
end

section
open Go.RowKit Go.Shelf

set_option maxRecDepth 100000 in set_option maxHeartbeats 4000000 in
theorem cals_each (g : Nat) (lb : Array Value) (Y : Nat) (bn bl : Option Addr) (cn cl n m : Nat) (I J : Nat → World → Prop) (w : World) (eg : ∀ args w, (callFunc g args).run Tryz.prog w = .ok (.enter g args) w)
    (hn9 : n ≤ 1000) (hm9 : m ≤ 1000)
    (hI : ∀ k W, I k W → W.cell? ⟨Y, 3, none⟩ = some (.slice bn n cn)) (hJ : ∀ k W, J k W → W.cell? ⟨Y, 4, none⟩ = some (.slice bl m cl))
    (hN : ∀ k W, k < n → I k W → ∃ G o, bn = some ⟨G, o, none⟩ ∧ Calls Tryz.prog g (#[.bool false, .int .i64 (k : Int), .pointer (some ⟨G, o + k, none⟩)] ++ lb) W (fun e W' => e = .returned (.tuple #[]) ∧ I (k + 1) W'))
    (hIJ : ∀ W, I n W → J 0 W)
    (hL : ∀ k W, k < m → J k W → ∃ G o, bl = some ⟨G, o, none⟩ ∧ Calls Tryz.prog g (#[.bool true, .int .i64 (k : Int), .pointer (some ⟨G, o + k, none⟩)] ++ lb) W (fun e W' => e = .returned (.tuple #[]) ∧ J (k + 1) W'))
    (h0 : I 0 w) :
    Calls Tryz.prog 82 #[.pointer (some ⟨Y, 0, none⟩), .func (.func g) #[] lb] w (fun e W' => e = .returned (.tuple #[]) ∧ J m W') := by
  have HI := Lib.hid hI
  have HJ := Lib.hid hJ
  have HN := Lib.hid hN
  have HIJ := Lib.hid hIJ
  have HL := Lib.hid hL
  have H0 := Lib.hid h0
  have y3 := hI 0 w h0
  clear hI hJ hN hIJ hL h0
  go_enter Tryz.func82, Tryz.ntmps82
  go_wp2_with fail
  clear y3
  go_loopw [11] (fun i wr => ∃ k : Nat, k ≤ n ∧ i = .int .i64 k ∧ I k wr) (fun i _ => n - (intOf i).toNat)
  case atStart => exact ⟨0, Nat.zero_le _, rfl, H0.out⟩
  case round =>
    obtain ⟨k, hk, rfl, hi⟩ := hrel
    have HK := Lib.hid hi
    have y3 := HI.out k _ hi
    clear hi
    by_cases hlt : k < n
    · obtain ⟨G, o, e, hc⟩ := HN.out k _ hlt HK.out
      subst e
      have HC := Lib.hid hc
      clear hc
      go_wp2_with ((with_reducible refine HC.out.mono ?_); rintro e w1 ⟨rfl, hi1⟩; have HK1 := Lib.hid hi1; clear hi1)
      go_roundw
      case rel => exact ⟨k + 1, by omega, by go_num, HK1.out⟩
      case measure => (simp [intOf] <;> omega)
    · obtain rfl : k = n := by omega
      have HK0 := Lib.hid (HIJ.out _ HK.out)
      have y4 := HJ.out 0 _ HK0.out
      go_wp2_with fail
      clear y3 y4
      go_loopw [29] (fun i wr => ∃ j : Nat, j ≤ m ∧ i = .int .i64 j ∧ J j wr) (fun i _ => m - (intOf i).toNat)
      case atStart => exact ⟨0, Nat.zero_le _, rfl, HK0.out⟩
      case round =>
        clear HK HK0
        obtain ⟨j, hj, rfl, hi⟩ := hrel
        have HK := Lib.hid hi
        have y4 := HJ.out j _ hi
        clear hi
        by_cases hltj : j < m
        · obtain ⟨G, o, e, hc⟩ := HL.out j _ hltj HK.out
          subst e
          have HC := Lib.hid hc
          clear hc
          go_wp2_with ((with_reducible refine HC.out.mono ?_); rintro e w1 ⟨rfl, hi1⟩; have HK1 := Lib.hid hi1; clear hi1)
          go_roundw
          case rel => exact ⟨j + 1, by omega, by go_num, HK1.out⟩
          case measure => (simp [intOf] <;> omega)
        · obtain rfl : j = m := by omega
          go_wp2_with fail
          go_returns
          exact ⟨rfl, HK.out⟩
end

section
open Go.RowKit Go.Shelf

/-- What is known behind an append onto the list of one kind. -/
def Laid (w : World) (B Lb k : Nat) (v : Value) (l : List Int) (W' : World) : Prop :=
  ∃ W1 W2 v', Below w.heap.size w W1 ∧ W1.grownBy W2 v.ownBlock ∧ W2.ownsRow B 3 1 v' l.length (l.map (Value.int .i64)) ∧ W' = W2.setCell ⟨Lb, k, none⟩ v'
set_option maxRecDepth 100000 in set_option maxHeartbeats 4000000 in
theorem cals_those1_no (kk : Bool) (h : Nat) (cb : Array Value) (P Lb G off i : Nat) (tP : TypeId) (b : Option Addr) (cap : Nat) (c : List Sl) (w : World) (eg : ∀ args w, (callFunc h args).run Tryz.prog w = .ok (.enter h args) w)
    (hp : Blk w P tP #[.func (.func h) #[] cb]) (hcell : w.cell? ⟨G, off, none⟩ = some (.slice b c.length cap))
    (hask : ∀ W, Below w.heap.size w W → Calls Tryz.prog h (#[.slice b c.length cap] ++ cb) W (RB W (.bool false))) :
    Calls Tryz.prog 87 #[.bool kk, .int .i64 (i : Int), .pointer (some ⟨G, off, none⟩), .pointer (some ⟨P, 0, none⟩), .pointer (some ⟨Lb, 0, none⟩)] w (fun e W' => e = .returned (.tuple #[]) ∧ Below w.heap.size w W') := by
  have p0 := hp.cell 0 _ rfl
  have HM := Lib.hid (fun (x : Aft w) => Calls.aft_of (x := x) (hask x.to x.h))
  have hG := World.block_lt_of_cell? w _ hcell
  have hP := hp.lt
  clear hp hask
  cases kk <;>
  · go_enter Tryz.func87, Tryz.ntmps87
    go_wp2_with (refine wp_region_aft (by kernel_rfl) (by kernel_rfl) ?_; (repeat (any_goals (first | go_big_quiet_step (with_reducible exact HM.out _) | quiet_step (with_reducible exact HM.out _) | (refine wpQuiet_step (fun K hK => ?_); go_simp; split <;> (refine hK _ ?_; clear hK K))))); all_goals (refine wpQuiet_nil ?_; intro wq hw'; obtain ⟨x1, hx1⟩ := hw'; have hbq := x1.h; rw [← hx1] at hbq; clear hx1 x1))
    go_returns
    exact ⟨rfl, hbq⟩
set_option maxRecDepth 100000 in set_option maxHeartbeats 4000000 in
theorem cals_those1_yes (kk : Bool) (h : Nat) (cb : Array Value) (P Lb G off i B : Nat) (tP tL : TypeId) (v0 v1 : Value) (b : Option Addr) (cap : Nat) (c : List Sl) (l : List Int) (w : World) (eg : ∀ args w, (callFunc h args).run Tryz.prog w = .ok (.enter h args) w)
    (hp : Blk w P tP #[.func (.func h) #[] cb]) (hL : Blk w Lb tL #[v0, v1]) (hcell : w.cell? ⟨G, off, none⟩ = some (.slice b c.length cap))
    (hask : ∀ W, Below w.heap.size w W → Calls Tryz.prog h (#[.slice b c.length cap] ++ cb) W (RB W (.bool true)))
    (own : w.ownsRow B 3 1 (if kk then v1 else v0) l.length (l.map (Value.int .i64))) (hB : Lb < B) (hBw : B ≤ w.heap.size) (hl : l.length ≤ 4096) :
    Calls Tryz.prog 87 #[.bool kk, .int .i64 (i : Int), .pointer (some ⟨G, off, none⟩), .pointer (some ⟨P, 0, none⟩), .pointer (some ⟨Lb, 0, none⟩)] w (fun e W' => e = .returned (.tuple #[]) ∧ Laid w B Lb kk.toNat (if kk then v1 else v0) (l ++ [(i : Int)]) W') := by
  obtain ⟨i0, hi, iz0, iz1, iz2⟩ := info_parts infoInt
  have p0 := hp.cell 0 _ rfl
  have HM := Lib.hid (fun (x : Aft w) => Calls.aft_of (x := x) (hask x.to x.h))
  have hG := World.block_lt_of_cell? w _ hcell
  have hP := hp.lt
  have hLl := hL.lt
  have HL := Lib.hid hL
  have HO := Lib.hid own
  clear hp hask hL own
  cases kk with
  | false =>
    rw [if_neg (by decide)] at HO
    rw [if_neg (by decide)]
    go_enter Tryz.func87, Tryz.ntmps87
    go_upto_region 4 with (refine wp_region_aft (by kernel_rfl) (by kernel_rfl) ?_; (repeat (any_goals (first | go_big_quiet_step (with_reducible exact HM.out _) | quiet_step (with_reducible exact HM.out _) | (refine wpQuiet_step (fun K hK => ?_); go_simp; split <;> (refine hK _ ?_; clear hK K))))); all_goals (refine wpQuiet_nil ?_; intro wq hw'; obtain ⟨x1, hx1⟩ := hw'; have hbq := x1.h; rw [← hx1] at hbq; clear hx1 x1))
    have HL := Lib.hid (HL.out.below hbq)
    have HO := Lib.hid (own_keep HO.out hbq)
    have HB := Lib.hid hbq
    have hzq := hbq.size
    have l0 := HL.out.cell 0 _ rfl
    clear hbq p0 hcell
    go_wp2_with (at_builtin; refine wpList_append_own _ rfl _ _ 83 rfl (B) 3 i0 (.int .i64 0) 1 8 Tryz.underlying83 hi iz0 iz1 iz2 rfl (by decide) _ _ _ rfl ((HO.out).alloc _) ⟨_, 0, none⟩ 1 1 [.int .i64 ((i : Int))] rfl rfl (cell_new1 _ _ _) (by simp [Value.oneCell']) ?ap3 ?ap4 ?ap5 ?_)
    case ap3 => unfold maxLen; omega
    case ap4 => omega
    case ap5 => first | omega | (simp; omega)
    intro v' w3 o3 hg3 _
    obtain ⟨xb, xc, rfl, _⟩ := own_rd o3
    have HL3 := Lib.hid ((HL.out.alloc (.cells #[.int .i64 (i : Int)] 3)).kept hg3 (fun e => by have := (HO.out.lt _ e.symm).1; omega))
    have HG3 := Lib.hid hg3
    have HO3 := Lib.hid o3
    have l0 := HL3.out.cell 0 _ rfl
    have f0 := HL3.out.frozen 0
    clear hg3 o3
    go_wp2_with fail
    go_returns
    exact ⟨rfl, _, _, _, below_alloc HB.out _, HG3.out, by rw [List.map_append, List.length_append]; exact HO3.out, rfl⟩
  | true =>
    rw [if_pos rfl] at HO
    rw [if_pos rfl]
    go_enter Tryz.func87, Tryz.ntmps87
    go_upto_region 4 with (refine wp_region_aft (by kernel_rfl) (by kernel_rfl) ?_; (repeat (any_goals (first | go_big_quiet_step (with_reducible exact HM.out _) | quiet_step (with_reducible exact HM.out _) | (refine wpQuiet_step (fun K hK => ?_); go_simp; split <;> (refine hK _ ?_; clear hK K))))); all_goals (refine wpQuiet_nil ?_; intro wq hw'; obtain ⟨x1, hx1⟩ := hw'; have hbq := x1.h; rw [← hx1] at hbq; clear hx1 x1))
    have HL := Lib.hid (HL.out.below hbq)
    have HO := Lib.hid (own_keep HO.out hbq)
    have HB := Lib.hid hbq
    have hzq := hbq.size
    have l0 := HL.out.cell 1 _ rfl
    clear hbq p0 hcell
    go_wp2_with (at_builtin; refine wpList_append_own _ rfl _ _ 83 rfl (B) 3 i0 (.int .i64 0) 1 8 Tryz.underlying83 hi iz0 iz1 iz2 rfl (by decide) _ _ _ rfl ((HO.out).alloc _) ⟨_, 0, none⟩ 1 1 [.int .i64 ((i : Int))] rfl rfl (cell_new1 _ _ _) (by simp [Value.oneCell']) ?_ ?_ ?_ ?_)
    all_goals try (first | omega | (unfold maxLen; omega) | (simp; omega))
    intro v' w3 o3 hg3 _
    obtain ⟨xb, xc, rfl, _⟩ := own_rd o3
    have HL3 := Lib.hid ((HL.out.alloc (.cells #[.int .i64 (i : Int)] 3)).kept hg3 (fun e => by have := (HO.out.lt _ e.symm).1; omega))
    have HG3 := Lib.hid hg3
    have HO3 := Lib.hid o3
    have l0 := HL3.out.cell 1 _ rfl
    have f0 := HL3.out.frozen 1
    clear hg3 o3
    go_wp2_with fail
    go_returns
    exact ⟨rfl, _, _, _, below_alloc HB.out _, HG3.out, by rw [List.map_append, List.length_append]; exact HO3.out, rfl⟩
end

section
open Go.RowKit Go.Shelf

theorem of_wh (p : List Sl → Bool) (ns : List (List Sl)) (hm : nMay ns.length) : ofSet ns.length (whTo p ns ns.length) = whS p ns := by
  have h1 := whTo_len p ns ns.length
  have h2 := whTo_in p ns (k := ns.length) ns.length (Int.le_refl _)
  have h3 : ofErr ns.length (whTo p ns ns.length) = 0 := by
    unfold ofErr
    unfold nMay at hm
    rw [if_pos (by unfold nMay; exact hm), if_neg (by omega), if_pos h2]
  unfold ofSet whS
  rw [if_pos h3]

/-- Behind the first k midplanes; behind the first k cables. -/
def Ith (p : List Sl → Bool) (ns : List (List Sl)) (w : World) (S Y P Lb : Nat) (tY tP tL : TypeId) (yv : Array Value) (pv : Value) (k : Nat) (W : World) : Prop :=
  ∃ v, Blk W Lb tL #[v, .slice none 0 0] ∧ W.ownsRow S 3 1 v (whTo p ns k).length ((whTo p ns k).map (Value.int .i64)) ∧ Blk W Y tY yv ∧ Blk W P tP #[pv] ∧ Below w.heap.size w W ∧ S ≤ W.heap.size
def Jth (p : List Sl → Bool) (ns ls : List (List Sl)) (w : World) (S Y P Lb : Nat) (tY tP tL : TypeId) (yv : Array Value) (pv : Value) (k : Nat) (W : World) : Prop :=
  ∃ v u B, Blk W Lb tL #[v, u] ∧ W.ownsRow S 3 1 v (whTo p ns ns.length).length ((whTo p ns ns.length).map (Value.int .i64)) ∧ W.ownsRow B 3 1 u (whTo p ls k).length ((whTo p ls k).map (Value.int .i64)) ∧
    (∀ b, v.ownBlock = some b → b < B) ∧ S ≤ B ∧ B ≤ W.heap.size ∧ Blk W Y tY yv ∧ Blk W P tP #[pv] ∧ Below w.heap.size w W
theorem ith_jth {p : List Sl → Bool} {ns ls : List (List Sl)} {w : World} {S Y P Lb : Nat} {tY tP tL : TypeId} {yv : Array Value} {pv : Value} {W : World} (h : Ith p ns w S Y P Lb tY tP tL yv pv ns.length W) : Jth p ns ls w S Y P Lb tY tP tL yv pv 0 W := by
  obtain ⟨v, h1, h2, h3, h4, h5, h6⟩ := h
  exact ⟨v, _, W.heap.size, h1, h2, World.ownsRow_nil _ _ _ _, fun b hb => (h2.lt b hb).2, h6, Nat.le_refl _, h3, h4, h5⟩
theorem ith_no {p : List Sl → Bool} {ns : List (List Sl)} {w : World} {S Y P Lb : Nat} {tY tP tL : TypeId} {yv : Array Value} {pv : Value} {k : Nat} {c : List Sl} {W W' : World} (h : Ith p ns w S Y P Lb tY tP tL yv pv k W) (hc : ns[k]? = some c) (hp : p c = false) (hb : Below W.heap.size W W') :
    Ith p ns w S Y P Lb tY tP tL yv pv (k + 1) W' := by
  obtain ⟨v, h1, h2, h3, h4, h5, h6⟩ := h
  exact ⟨v, h1.below hb, by rw [whTo_no hc hp]; exact own_keep h2 hb, h3.below hb, h4.below hb, below_then h5 hb, Nat.le_trans h6 hb.size⟩
theorem jth_no {p : List Sl → Bool} {ns ls : List (List Sl)} {w : World} {S Y P Lb : Nat} {tY tP tL : TypeId} {yv : Array Value} {pv : Value} {k : Nat} {c : List Sl} {W W' : World} (h : Jth p ns ls w S Y P Lb tY tP tL yv pv k W) (hc : ls[k]? = some c) (hp : p c = false) (hb : Below W.heap.size W W') :
    Jth p ns ls w S Y P Lb tY tP tL yv pv (k + 1) W' := by
  obtain ⟨v, u, B, h1, h2, h3, h4, h5, h6, h7, h8, h9⟩ := h
  exact ⟨v, u, B, h1.below hb, own_keep h2 hb, by rw [whTo_no hc hp]; exact own_keep h3 hb, h4, h5, Nat.le_trans h6 hb.size, h7.below hb, h8.below hb, below_then h9 hb⟩
theorem laid_blk {w W' : World} {B Lb k : Nat} {v : Value} {l : List Int} {n : Nat} {xs : List Value} (h : Laid w B Lb k v l W') (ho : w.ownsRow B 3 1 v n xs) {X : Nat} {t : TypeId} {cs : Array Value} (hx : Blk w X t cs) (hXB : X < B) (hne : X ≠ Lb) : Blk W' X t cs := by
  obtain ⟨W1, W2, v', h1, h2, h3, rfl⟩ := h
  refine ((hx.below h1).kept h2 (fun e => ?_)).other Lb k v' hne
  have := (ho.lt _ e.symm).1
  omega
theorem laid_below {w0 w W' : World} {B Lb k N : Nat} {v : Value} {l : List Int} {n : Nat} {xs : List Value} (h : Laid w B Lb k v l W') (ho : w.ownsRow B 3 1 v n xs) (hb : Below N w0 w) (hN : N ≤ w.heap.size) (hNL : N ≤ Lb) (hNB : N ≤ B) : Below N w0 W' := by
  obtain ⟨W1, W2, v', h1, h2, h3, rfl⟩ := h
  have q := hb.trans (h1.mono hN)
  exact (q.grown h2 (Nat.le_trans hN h1.size) (fun k e => Nat.le_trans hNB (ho.lt k e).1)).setCell hNL _
theorem laid_size {w W' : World} {B Lb k : Nat} {v : Value} {l : List Int} (h : Laid w B Lb k v l W') : w.heap.size ≤ W'.heap.size := by
  obtain ⟨W1, W2, v', h1, h2, h3, rfl⟩ := h
  have q := ((Below.refl 0 w).trans (h1.mono (Nat.zero_le _))).grown h2 (Nat.zero_le _) (fun _ _ => Nat.zero_le _)
  exact (q.setCell (Nat.zero_le Lb) (p := ⟨Lb, k, none⟩) v').size
theorem ith_yes {p : List Sl → Bool} {ns : List (List Sl)} {w : World} {S Y P Lb : Nat} {tY tP tL : TypeId} {yv : Array Value} {pv v : Value} {k : Nat} {c : List Sl} {W W' : World} (hc : ns[k]? = some c) (hp : p c = true)
    (h1 : Blk W Lb tL #[v, .slice none 0 0]) (h2 : W.ownsRow S 3 1 v (whTo p ns k).length ((whTo p ns k).map (Value.int .i64))) (h3 : Blk W Y tY yv) (h4 : Blk W P tP #[pv]) (h5 : Below w.heap.size w W) (h6 : S ≤ W.heap.size)
    (hl : Laid W S Lb 0 v (whTo p ns k ++ [(k : Int)]) W') (hY : Y < S ∧ Y ≠ Lb) (hP : P < S ∧ P ≠ Lb) (hL : Lb < S ∧ w.heap.size ≤ Lb) :
    Ith p ns w S Y P Lb tY tP tL yv pv (k + 1) W' := by
  have a3 := laid_blk hl h2 h3 hY.1 hY.2
  have a4 := laid_blk hl h2 h4 hP.1 hP.2
  have a5 := laid_below hl h2 h5 h5.size hL.2 (by omega)
  have a6 := laid_size hl
  obtain ⟨W1, W2, v', b1, b2, b3, rfl⟩ := hl
  refine ⟨v', ?_, by rw [whTo_yes hc hp]; exact own_set b3 Lb 0 v' hL.1, a3, a4, a5, by omega⟩
  exact ((h1.below b1).kept b2 (fun e => by have := (h2.lt _ e.symm).1; omega)).set 0 v'
theorem jth_yes {p : List Sl → Bool} {ns ls : List (List Sl)} {w : World} {S Y P Lb B : Nat} {tY tP tL : TypeId} {yv : Array Value} {pv v u : Value} {k : Nat} {c : List Sl} {W W' : World} (hc : ls[k]? = some c) (hp : p c = true)
    (h1 : Blk W Lb tL #[v, u]) (h2 : W.ownsRow S 3 1 v (whTo p ns ns.length).length ((whTo p ns ns.length).map (Value.int .i64))) (h3 : W.ownsRow B 3 1 u (whTo p ls k).length ((whTo p ls k).map (Value.int .i64)))
    (hv : ∀ b, v.ownBlock = some b → b < B) (hSB : S ≤ B) (h6 : B ≤ W.heap.size) (h7 : Blk W Y tY yv) (h8 : Blk W P tP #[pv]) (h9 : Below w.heap.size w W)
    (hl : Laid W B Lb 1 u (whTo p ls k ++ [(k : Int)]) W') (hY : Y < S ∧ Y ≠ Lb) (hP : P < S ∧ P ≠ Lb) (hL : Lb < S ∧ w.heap.size ≤ Lb) :
    Jth p ns ls w S Y P Lb tY tP tL yv pv (k + 1) W' := by
  have a3 := laid_blk hl h3 h7 (by omega) hY.2
  have a4 := laid_blk hl h3 h8 (by omega) hP.2
  have a5 := laid_below hl h3 h9 h9.size hL.2 (by omega)
  have a6 := laid_size hl
  obtain ⟨W1, W2, u', b1, b2, b3, rfl⟩ := hl
  refine ⟨v, u', B, ?_, ?_, by rw [whTo_yes hc hp]; exact own_set b3 Lb 1 u' (by omega), hv, hSB, by omega, a3, a4, a5⟩
  · exact ((h1.below b1).kept b2 (fun e => by have := (h3.lt _ e.symm).1; omega)).set 1 u'
  · refine own_set ((own_keep h2 b1).kept b2 ?_) Lb 1 u' hL.1
    cases hvb : v.ownBlock with
    | none => exact .inl rfl
    | some b =>
      refine .inr fun e => ?_
      have q1 := hv b hvb
      have q2 := (h3.lt b e.symm).1
      omega
end

section
open Go.RowKit Go.Shelf

/-- A closure that is asked of calendars answers p. -/
def AskedC (h : Nat) (cb : Array Value) (p : List Sl → Bool) (ns ls : List (List Sl)) (w : World) : Prop :=
  ∀ (b : Option Addr) (cap : Nat) (c : List Sl) (W : World), (c ∈ ns ∨ c ∈ ls) → CIn W b c → Below w.heap.size w W → Calls Tryz.prog h (#[.slice b c.length cap] ++ cb) W (RB W (.bool (p c)))
theorem those_each (d : V3) (bn bl : Option Addr) (cn cl : Nat) (ns ls : List (List Sl)) (h : Nat) (cb : Array Value) (p : List Sl → Bool) (w W : World) (eg : ∀ args w, (callFunc h args).run Tryz.prog w = .ok (.enter h args) w)
    (hn : CC w bn ns) (hl : CC w bl ls) (hask : AskedC h cb p ns ls w) (h0 : Ith p ns w w.heap.size.succ.succ.succ w.heap.size (w.heap.size + 1) (w.heap.size + 2) 26 99 132 #[.int .i64 d.x, .int .i64 d.y, .int .i64 d.z, (.slice bn ns.length cn), (.slice bl ls.length cl)] (.func (.func h) #[] cb) 0 W) :
    Calls Tryz.prog 82 #[.pointer (some ⟨w.heap.size, 0, none⟩), .func (.func 87) #[] #[.pointer (some ⟨w.heap.size + 1, 0, none⟩), .pointer (some ⟨w.heap.size + 2, 0, none⟩)]] W (fun e W' => e = .returned (.tuple #[]) ∧ Jth p ns ls w w.heap.size.succ.succ.succ w.heap.size (w.heap.size + 1) (w.heap.size + 2) 26 99 132 #[.int .i64 d.x, .int .i64 d.y, .int .i64 d.z, (.slice bn ns.length cn), (.slice bl ls.length cl)] (.func (.func h) #[] cb) ls.length W') := by
  have eg1 : ∀ args w, (callFunc 87 args).run Tryz.prog w = .ok (.enter 87 args) w := enters_of Tryz.func87 (by kernel_rfl) rfl
  refine cals_each 87 #[.pointer (some ⟨w.heap.size + 1, 0, none⟩), .pointer (some ⟨w.heap.size + 2, 0, none⟩)] w.heap.size bn bl cn cl ns.length ls.length (Ith p ns w w.heap.size.succ.succ.succ w.heap.size (w.heap.size + 1) (w.heap.size + 2) 26 99 132 #[.int .i64 d.x, .int .i64 d.y, .int .i64 d.z, (.slice bn ns.length cn), (.slice bl ls.length cl)] (.func (.func h) #[] cb)) (Jth p ns ls w w.heap.size.succ.succ.succ w.heap.size (w.heap.size + 1) (w.heap.size + 2) 26 99 132 #[.int .i64 d.x, .int .i64 d.y, .int .i64 d.z, (.slice bn ns.length cn), (.slice bl ls.length cl)] (.func (.func h) #[] cb)) W eg1 hn.many hl.many ?_ ?_ ?_ ?_ ?_ h0
  · rintro k W ⟨v, h1, h2, h3, h4, h5, h6⟩
    exact h3.cell 3 _ rfl
  · rintro k W ⟨v, u, B, h1, h2, h3, h4, h5, h6, h7, h8, h9⟩
    exact h7.cell 4 _ rfl
  · intro k W hk hI
    obtain ⟨v, h1, h2, h3, h4, h5, h6⟩ := hI
    obtain ⟨c, hc⟩ : ∃ c, ns[k]? = some c := ⟨_, List.getElem?_eq_getElem hk⟩
    obtain ⟨G, o, b, cap, e, hcell, hgl, hcs, _⟩ := (hn.keep h5).at hc
    refine ⟨G, o, e, ?_⟩
    have ha := fun W' (hb : Below W.heap.size W W') => hask b cap c W' (.inl (List.mem_of_getElem? hc)) (hcs.keep hb) (below_then h5 hb)
    cases hp : p c with
    | false =>
      rw [hp] at ha
      refine (cals_those1_no false h cb (w.heap.size + 1) (w.heap.size + 2) G (o + k) k _ b cap c W eg h4 hcell ha).mono ?_
      rintro e w1 ⟨rfl, hb1⟩
      exact ⟨rfl, ith_no ⟨v, h1, h2, h3, h4, h5, h6⟩ hc hp hb1⟩
    | true =>
      rw [hp] at ha
      have hl4 := whTo_len p ns k
      have h9 := hn.many
      refine (cals_those1_yes false h cb (w.heap.size + 1) (w.heap.size + 2) G (o + k) k w.heap.size.succ.succ.succ _ _ v (.slice none 0 0) b cap c (whTo p ns k) W eg h4 h1 hcell ha h2 (by omega) h6 (by omega)).mono ?_
      rintro e w1 ⟨rfl, hl⟩
      exact ⟨rfl, ith_yes hc hp h1 h2 h3 h4 h5 h6 hl ⟨by omega, by omega⟩ ⟨by omega, by omega⟩ ⟨by omega, by omega⟩⟩
  · intro W hI
    exact ith_jth hI
  · intro k W hk hJ
    obtain ⟨v, u, B, h1, h2, h3, hv, hSB, h6, h7, h8, h9⟩ := hJ
    obtain ⟨c, hc⟩ : ∃ c, ls[k]? = some c := ⟨_, List.getElem?_eq_getElem hk⟩
    obtain ⟨G, o, b, cap, e, hcell, hgl, hcs, _⟩ := (hl.keep h9).at hc
    refine ⟨G, o, e, ?_⟩
    have ha := fun W' (hb : Below W.heap.size W W') => hask b cap c W' (.inr (List.mem_of_getElem? hc)) (hcs.keep hb) (below_then h9 hb)
    cases hp : p c with
    | false =>
      rw [hp] at ha
      refine (cals_those1_no true h cb (w.heap.size + 1) (w.heap.size + 2) G (o + k) k _ b cap c W eg h8 hcell ha).mono ?_
      rintro e w1 ⟨rfl, hb1⟩
      exact ⟨rfl, jth_no ⟨v, u, B, h1, h2, h3, hv, hSB, h6, h7, h8, h9⟩ hc hp hb1⟩
    | true =>
      rw [hp] at ha
      have hl4 := whTo_len p ls k
      have h99 := hl.many
      refine (cals_those1_yes true h cb (w.heap.size + 1) (w.heap.size + 2) G (o + k) k B _ _ v u b cap c (whTo p ls k) W eg h8 h1 hcell ha h3 (by omega) h6 (by omega)).mono ?_
      rintro e w1 ⟨rfl, hl⟩
      exact ⟨rfl, jth_yes hc hp h1 h2 h3 hv hSB h6 h7 h8 h9 hl ⟨by omega, by omega⟩ ⟨by omega, by omega⟩ ⟨by omega, by omega⟩⟩
set_option maxRecDepth 100000 in set_option maxHeartbeats 4000000 in
theorem cals_those (d : V3) (bn bl : Option Addr) (cn cl : Nat) (ns ls : List (List Sl)) (h : Nat) (cb : Array Value) (p : List Sl → Bool) (w : World) (eg : ∀ args w, (callFunc h args).run Tryz.prog w = .ok (.enter h args) w)
    (hn : CC w bn ns) (hl : CC w bl ls) (mn : nMay ns.length) (ml : nMay ls.length) (h3 : (ls.length : Int) = 3 * ns.length) (hask : AskedC h cb p ns ls w) :
    Calls Tryz.prog 52 #[.agg #[.int .i64 d.x, .int .i64 d.y, .int .i64 d.z, (.slice bn ns.length cn), (.slice bl ls.length cl)], .func (.func h) #[] cb] w (RU2E w (whS p ns) (whS p ls) 0) := by
  obtain ⟨W0, hW0⟩ : ∃ W0, W0 = ((w.alloc (.cells #[.int .i64 d.x, .int .i64 d.y, .int .i64 d.z, (.slice bn ns.length cn), (.slice bl ls.length cl)] 26)).alloc (.cells #[.func (.func h) #[] cb] 99)).alloc (.cells #[.slice none 0 0, .slice none 0 0] 132) := ⟨_, rfl⟩
  have hb0 : Below w.heap.size w W0 := by rw [hW0]; (repeat (first | (with_reducible exact Below.refl _ _) | (with_reducible assumption) | (with_reducible refine below_alloc ?_ _) | (with_reducible refine below_drewN ?_ _) | (with_reducible refine Below.drew ?_) | (with_reducible refine below_then ?_ (by with_reducible assumption)) | (with_reducible refine Below.setCell ?_ (by go_size) _)))
  have e1 : w.heap.size + 1 = (w.alloc (.cells #[.int .i64 d.x, .int .i64 d.y, .int .i64 d.z, (.slice bn ns.length cn), (.slice bl ls.length cl)] 26)).heap.size := by simp
  have e2 : w.heap.size + 2 = ((w.alloc (.cells #[.int .i64 d.x, .int .i64 d.y, .int .i64 d.z, (.slice bn ns.length cn), (.slice bl ls.length cl)] 26)).alloc (.cells #[.func (.func h) #[] cb] 99)).heap.size := by simp
  have e3 : w.heap.size.succ.succ.succ = W0.heap.size := by rw [hW0]; simp
  have YB := Lib.hid (show Blk W0 w.heap.size 26 #[.int .i64 d.x, .int .i64 d.y, .int .i64 d.z, (.slice bn ns.length cn), (.slice bl ls.length cl)] by rw [hW0]; exact ((Blk.new ..).alloc _).alloc _)
  have PB := Lib.hid (show Blk W0 (w.heap.size + 1) 99 #[.func (.func h) #[] cb] by rw [hW0, e1]; exact (Blk.new ..).alloc _)
  have LB := Lib.hid (show Blk W0 (w.heap.size + 2) 132 #[.slice none 0 0, .slice none 0 0] by rw [hW0, e2]; exact Blk.new ..)
  have H0 := Lib.hid (show Ith p ns w w.heap.size.succ.succ.succ w.heap.size (w.heap.size + 1) (w.heap.size + 2) 26 99 132 #[.int .i64 d.x, .int .i64 d.y, .int .i64 d.z, (.slice bn ns.length cn), (.slice bl ls.length cl)] (.func (.func h) #[] cb) 0 W0 from ⟨_, LB.out, World.ownsRow_nil _ _ _ _, YB.out, PB.out, hb0, by rw [e3]; exact Nat.le_refl _⟩)
  have HE := Lib.hid (those_each d bn bl cn cl ns ls h cb p w W0 eg hn hl hask H0.out)
  have H1 := Lib.hid (of_wh p ns mn)
  have H2 := Lib.hid (of_wh p ls ml)
  have HW := Lib.hid hW0
  have h9 := hn.many
  have h8 := hl.many
  have hll1 := whTo_len p ns ns.length
  have hll2 := whTo_len p ls ls.length
  have E3 := Lib.hid h3
  clear hn hl mn ml hask hW0 e1 e2 e3 hb0 H0 LB PB YB h3
  go_enter Tryz.func52, Tryz.ntmps52
  go_wp2_with fail
  rw [← HW.out]
  refine HE.out.mono ?_
  rintro e w1 ⟨rfl, v, u, B, k1, k2, k3, hv, hSB, k6, k7, k8, k9⟩
  obtain ⟨vb, vc, rfl, hv1, _⟩ := list_of_own k2 (by omega)
  obtain ⟨ub, uc, rfl, hu1, _⟩ := list_of_own k3 (by omega)
  have KL := Lib.hid k1
  have KY := Lib.hid k7
  have HB := Lib.hid k9
  have HV := Lib.hid (fun W (h : Below w1.heap.size w1 W) => set_Of ns.length vb vc _ W (hv1.keep h))
  have HU := Lib.hid (fun W (h : Below w1.heap.size w1 W) => set_Of (3 * (ns.length : Int)) ub uc _ W (hu1.keep h))
  have HZ := k9.size
  have y3 := k7.cell 3 _ rfl
  have l0 := k1.cell 0 _ rfl
  clear hv hSB k1 k2 k3 k6 k7 k8 k9 hv1 hu1 hll1 hll2 HE
  go_upto_region 5 with ((with_reducible refine (HV.out _ (by (repeat (first | (with_reducible exact Below.refl _ _) | (with_reducible assumption) | (with_reducible refine below_alloc ?_ _) | (with_reducible refine below_drewN ?_ _) | (with_reducible refine Below.drew ?_) | (with_reducible refine below_then ?_ (by with_reducible assumption)) | (with_reducible refine Below.setCell ?_ (by go_size) _))))).mono ?_); rintro e w2 ⟨va, rfl, hoa, hb2⟩)
  have KL := Lib.hid (KL.out.below hb2)
  have HB2 := Lib.hid (below_then HB.out hb2)
  have HU := Lib.hid (HU.out w2 hb2)
  have HA := Lib.hid hoa
  have hz2 := hb2.size
  have l1 : w2.cell? ⟨w.heap.size + 1 + 1, 1, none⟩ = some (.slice ub (whTo p ls ls.length).length uc) := KL.out.cell 1 _ rfl
  clear hoa hb2 y3 l0
  go_wp2_with ((with_reducible refine HU.out.mono ?_); rintro e w3 ⟨vb2, rfl, hob, hb3⟩)
  go_returns
  rw [← E3.out, H2.out] at hob
  have hoa := HA.out
  rw [H1.out] at hoa
  exact ⟨_, _, rfl, own_mono (own_keep hoa hb3) (by omega), own_mono hob (by omega), below_then HB2.out hb3⟩
end

section
open Go.RowKit Go.Shelf

theorem whTo_congr {p q : List Sl → Bool} {ns : List (List Sl)} (h : ∀ c ∈ ns, p c = q c) : ∀ k, whTo p ns k = whTo q ns k
  | 0 => rfl
  | k + 1 => by
    rw [whTo, whTo, whTo_congr h k]
    congr 1
    cases hc : ns[k]? with
    | none => rfl
    | some c => simp only; rw [h c (List.mem_of_getElem? hc)]
theorem whS_congr {p q : List Sl → Bool} {ns : List (List Sl)} (h : ∀ c ∈ ns, p c = q c) : whS p ns = whS q ns := by unfold whS; rw [whTo_congr h]
set_option maxRecDepth 100000 in set_option maxHeartbeats 4000000 in
theorem busy_ask (b : Option Addr) (cap : Nat) (c : List Sl) (f t : Int) (S : Nat) (w : World) (hc : CIn w b c) (h0 : w.cell? ⟨S, 0, none⟩ = some (.int .i64 f)) (h1 : w.cell? ⟨S, 1, none⟩ = some (.int .i64 t)) :
    Calls Tryz.prog 53 #[.slice b c.length cap, .pointer (some ⟨S, 0, none⟩)] w (RB w (.bool (!freeV c f t))) := by
  have H := Lib.hid (cal_Free b cap c f t w hc)
  clear hc
  generalize freeV c f t = x at *
  generalize freeE c f t = y at *
  go_enter Tryz.func53, Tryz.ntmps53
  go_wp2_with ((with_reducible refine (H.out).mono ?_); rintro e w1 ⟨rfl, hb1⟩; (obtain ⟨hc1, hf1⟩ := bcell hb1; have hz1 := hb1.size; (try simp at hz1)))
  go_returns
  exact ⟨rfl, hb1⟩
theorem Yd.ok_len {y : Yd} (h : y.okB = true) : (y.ls.length : Int) = 3 * y.ns.length := by
  unfold Yd.okB at h
  simp only [Bool.and_eq_true, decide_eq_true_eq] at h
  obtain ⟨h1, h2, h3, _⟩ := h
  omega
set_option maxRecDepth 100000 in set_option maxHeartbeats 4000000 in
theorem cals_Busy (d : V3) (bn bl : Option Addr) (cn cl : Nat) (ns ls : List (List Sl)) (f t : Int) (w : World) (hn : CC w bn ns) (hl : CC w bl ls) :
    Calls Tryz.prog 25 #[.agg #[.int .i64 d.x, .int .i64 d.y, .int .i64 d.z, (.slice bn ns.length cn), (.slice bl ls.length cl)], .agg #[.int .i64 f, .int .i64 t]] w (RU2E w (busyV ⟨d, ns, ls⟩ f t).1 (busyV ⟨d, ns, ls⟩ f t).2 (busyE ⟨d, ns, ls⟩ f t)) := by
  have eg : ∀ args w, (callFunc 53 args).run Tryz.prog w = .ok (.enter 53 args) w := enters_of Tryz.func53 (by kernel_rfl) rfl
  have M1 := Lib.hid (fun W (h : Below w.heap.size w W) => cals_Check d bn bl cn cl ns ls W (hn.keep h) (hl.keep h))
  have M2 := Lib.hid (fun W => time_Check f t W)
  cases hok : Yd.okB ⟨d, ns, ls⟩ with
  | false =>
    have hE : busyE ⟨d, ns, ls⟩ f t = 8 := by unfold busyE; rw [hok]; rfl
    have hV : busyV ⟨d, ns, ls⟩ f t = ([], []) := by unfold busyV; rw [hE]; rfl
    rw [hE, hV]
    rw [show Yd.chk ⟨d, ns, ls⟩ = 8 by unfold Yd.chk; rw [hok]; rfl] at M1
    clear hE hV hn hl hok eg
    go_enter Tryz.func25, Tryz.ntmps25
    go_wp2_with (first | ((with_reducible refine (M1.out _ (by (repeat (first | (with_reducible exact Below.refl _ _) | (with_reducible assumption) | (with_reducible refine below_alloc ?_ _) | (with_reducible refine below_drewN ?_ _) | (with_reducible refine Below.drew ?_) | (with_reducible refine below_then ?_ (by with_reducible assumption)) | (with_reducible refine Below.setCell ?_ (by go_size) _))))).mono ?_); rintro e w1 ⟨rfl, hb1⟩; (obtain ⟨hc1, hf1⟩ := bcell hb1; have hz1 := hb1.size; (try simp at hz1); have hB : Below w.heap.size w w1 := (by (repeat (first | (with_reducible exact Below.refl _ _) | (with_reducible assumption) | (with_reducible refine below_alloc ?_ _) | (with_reducible refine below_drewN ?_ _) | (with_reducible refine Below.drew ?_) | (with_reducible refine below_then ?_ (by with_reducible assumption)) | (with_reducible refine Below.setCell ?_ (by go_size) _)))); obtain ⟨hcB, hfB⟩ := bcell hB; (try have z0 : w.heap.size < w1.heap.size := by omega); (try have z1 : w.heap.size + 1 < w1.heap.size := by omega); (try have z2 : w.heap.size + 2 < w1.heap.size := by omega); (try have z3 : w.heap.size + 3 < w1.heap.size := by omega))))
    go_returns
    exact RU2E.nil _ _ _ (by (repeat (first | (with_reducible exact Below.refl _ _) | (with_reducible assumption) | (with_reducible refine below_alloc ?_ _) | (with_reducible refine below_drewN ?_ _) | (with_reducible refine Below.drew ?_) | (with_reducible refine below_then ?_ (by with_reducible assumption)) | (with_reducible refine Below.setCell ?_ (by go_size) _))))
  | true =>
    have hm := Yd.ok_many hok
    rw [show Yd.chk ⟨d, ns, ls⟩ = 0 by unfold Yd.chk; rw [hok]; rfl] at M1
    by_cases hs : spMay f t
    · rw [okIf_yes hs] at M2
      have hE : busyE ⟨d, ns, ls⟩ f t = 0 := by unfold busyE; rw [hok, if_pos rfl, okIf_yes hs]
      have hV : busyV ⟨d, ns, ls⟩ f t = busySets ⟨d, ns, ls⟩ f t := by unfold busyV; rw [if_pos hE]
      rw [hE, hV]
      have hall := Yd.ok_all hok
      have hc1 : whS (fun c => !freeV c f t) ns = whS (fun c => !clearB c f t) ns := whS_congr (fun c hc => by rw [free_busy (hall.1 c hc) hs])
      have hc2 : whS (fun c => !freeV c f t) ls = whS (fun c => !clearB c f t) ls := whS_congr (fun c hc => by rw [free_busy (hall.2 c hc) hs])
      have M3 := Lib.hid (fun W (h : Below w.heap.size w W) (s0 : W.cell? ⟨w.heap.size + 1, 0, none⟩ = some (.int .i64 f)) (s1 : W.cell? ⟨w.heap.size + 1, 1, none⟩ = some (.int .i64 t)) =>
        cals_those d bn bl cn cl ns ls 53 #[.pointer (some ⟨w.heap.size + 1, 0, none⟩)] (fun c => !freeV c f t) W eg (hn.keep h) (hl.keep h) hm.1 hm.2 (Yd.ok_len hok)
          (fun b cap c W' _ hcin hb => busy_ask b cap c f t (w.heap.size + 1) W' hcin ((hb.cell (p := ⟨w.heap.size + 1, 0, none⟩) (World.block_lt_of_cell? W _ s0)).trans s0) ((hb.cell (p := ⟨w.heap.size + 1, 1, none⟩) (World.block_lt_of_cell? W _ s1)).trans s1)))
      rw [hc1, hc2] at M3
      unfold busySets
      simp only
      generalize whS (fun c => !clearB c f t) ns = sn at *
      generalize whS (fun c => !clearB c f t) ls = sl at *
      clear hE hV hn hl hok hm hs hc1 hc2 hall eg
      go_enter Tryz.func25, Tryz.ntmps25
      go_upto_region 6 with (first | ((with_reducible refine (M1.out _ (by (repeat (first | (with_reducible exact Below.refl _ _) | (with_reducible assumption) | (with_reducible refine below_alloc ?_ _) | (with_reducible refine below_drewN ?_ _) | (with_reducible refine Below.drew ?_) | (with_reducible refine below_then ?_ (by with_reducible assumption)) | (with_reducible refine Below.setCell ?_ (by go_size) _))))).mono ?_); rintro e w1 ⟨rfl, hb1⟩; (obtain ⟨hc1, hf1⟩ := bcell hb1; have hz1 := hb1.size; (try simp at hz1); have hB : Below w.heap.size w w1 := (by (repeat (first | (with_reducible exact Below.refl _ _) | (with_reducible assumption) | (with_reducible refine below_alloc ?_ _) | (with_reducible refine below_drewN ?_ _) | (with_reducible refine Below.drew ?_) | (with_reducible refine below_then ?_ (by with_reducible assumption)) | (with_reducible refine Below.setCell ?_ (by go_size) _)))); obtain ⟨hcB, hfB⟩ := bcell hB; (try have z0 : w.heap.size < w1.heap.size := by omega); (try have z1 : w.heap.size + 1 < w1.heap.size := by omega); (try have z2 : w.heap.size + 2 < w1.heap.size := by omega); (try have z3 : w.heap.size + 3 < w1.heap.size := by omega))) | ((with_reducible refine (M2.out _).mono ?_); rintro e w1 ⟨rfl, hb1⟩; (obtain ⟨hc1, hf1⟩ := bcell hb1; have hz1 := hb1.size; (try simp at hz1); have hB : Below w.heap.size w w1 := (by (repeat (first | (with_reducible exact Below.refl _ _) | (with_reducible assumption) | (with_reducible refine below_alloc ?_ _) | (with_reducible refine below_drewN ?_ _) | (with_reducible refine Below.drew ?_) | (with_reducible refine below_then ?_ (by with_reducible assumption)) | (with_reducible refine Below.setCell ?_ (by go_size) _)))); obtain ⟨hcB, hfB⟩ := bcell hB; (try have z0 : w.heap.size < w1.heap.size := by omega); (try have z1 : w.heap.size + 1 < w1.heap.size := by omega); (try have z2 : w.heap.size + 2 < w1.heap.size := by omega); (try have z3 : w.heap.size + 3 < w1.heap.size := by omega))))
      have HM := Lib.hid (M3.out w1 (by (repeat (first | (with_reducible exact Below.refl _ _) | (with_reducible assumption) | (with_reducible refine below_alloc ?_ _) | (with_reducible refine below_drewN ?_ _) | (with_reducible refine Below.drew ?_) | (with_reducible refine below_then ?_ (by with_reducible assumption)) | (with_reducible refine Below.setCell ?_ (by go_size) _)))) (by simp [hc1, *, go_sem]) (by simp [hc1, *, go_sem]))
      go_wp2_with ((with_reducible refine HM.out.mono ?_); rintro e w1 ⟨va, vb, rfl, hoa, hob, hb1⟩; (obtain ⟨hc1, hf1⟩ := bcell hb1; have hz1 := hb1.size; (try simp at hz1); have hB : Below w.heap.size w w1 := (by (repeat (first | (with_reducible exact Below.refl _ _) | (with_reducible assumption) | (with_reducible refine below_alloc ?_ _) | (with_reducible refine below_drewN ?_ _) | (with_reducible refine Below.drew ?_) | (with_reducible refine below_then ?_ (by with_reducible assumption)) | (with_reducible refine Below.setCell ?_ (by go_size) _)))); obtain ⟨hcB, hfB⟩ := bcell hB; (try have z0 : w.heap.size < w1.heap.size := by omega); (try have z1 : w.heap.size + 1 < w1.heap.size := by omega); (try have z2 : w.heap.size + 2 < w1.heap.size := by omega); (try have z3 : w.heap.size + 3 < w1.heap.size := by omega)))
      go_returns
      exact ⟨_, _, rfl, own_mono hoa (by omega), own_mono hob (by omega), by (repeat (first | (with_reducible exact Below.refl _ _) | (with_reducible assumption) | (with_reducible refine below_alloc ?_ _) | (with_reducible refine below_drewN ?_ _) | (with_reducible refine Below.drew ?_) | (with_reducible refine below_then ?_ (by with_reducible assumption)) | (with_reducible refine Below.setCell ?_ (by go_size) _)))⟩
    · rw [okIf_no hs] at M2
      have hE : busyE ⟨d, ns, ls⟩ f t = 2 := by unfold busyE; rw [hok, if_pos rfl, okIf_no hs]
      have hV : busyV ⟨d, ns, ls⟩ f t = ([], []) := by unfold busyV; rw [hE]; rfl
      rw [hE, hV]
      clear hE hV hn hl hok hm hs eg
      go_enter Tryz.func25, Tryz.ntmps25
      go_wp2_with (first | ((with_reducible refine (M1.out _ (by (repeat (first | (with_reducible exact Below.refl _ _) | (with_reducible assumption) | (with_reducible refine below_alloc ?_ _) | (with_reducible refine below_drewN ?_ _) | (with_reducible refine Below.drew ?_) | (with_reducible refine below_then ?_ (by with_reducible assumption)) | (with_reducible refine Below.setCell ?_ (by go_size) _))))).mono ?_); rintro e w1 ⟨rfl, hb1⟩; (obtain ⟨hc1, hf1⟩ := bcell hb1; have hz1 := hb1.size; (try simp at hz1); have hB : Below w.heap.size w w1 := (by (repeat (first | (with_reducible exact Below.refl _ _) | (with_reducible assumption) | (with_reducible refine below_alloc ?_ _) | (with_reducible refine below_drewN ?_ _) | (with_reducible refine Below.drew ?_) | (with_reducible refine below_then ?_ (by with_reducible assumption)) | (with_reducible refine Below.setCell ?_ (by go_size) _)))); obtain ⟨hcB, hfB⟩ := bcell hB; (try have z0 : w.heap.size < w1.heap.size := by omega); (try have z1 : w.heap.size + 1 < w1.heap.size := by omega); (try have z2 : w.heap.size + 2 < w1.heap.size := by omega); (try have z3 : w.heap.size + 3 < w1.heap.size := by omega))) | ((with_reducible refine (M2.out _).mono ?_); rintro e w1 ⟨rfl, hb1⟩; (obtain ⟨hc1, hf1⟩ := bcell hb1; have hz1 := hb1.size; (try simp at hz1); have hB : Below w.heap.size w w1 := (by (repeat (first | (with_reducible exact Below.refl _ _) | (with_reducible assumption) | (with_reducible refine below_alloc ?_ _) | (with_reducible refine below_drewN ?_ _) | (with_reducible refine Below.drew ?_) | (with_reducible refine below_then ?_ (by with_reducible assumption)) | (with_reducible refine Below.setCell ?_ (by go_size) _)))); obtain ⟨hcB, hfB⟩ := bcell hB; (try have z0 : w.heap.size < w1.heap.size := by omega); (try have z1 : w.heap.size + 1 < w1.heap.size := by omega); (try have z2 : w.heap.size + 2 < w1.heap.size := by omega); (try have z3 : w.heap.size + 3 < w1.heap.size := by omega))))
      go_returns
      exact RU2E.nil _ _ _ (by (repeat (first | (with_reducible exact Below.refl _ _) | (with_reducible assumption) | (with_reducible refine below_alloc ?_ _) | (with_reducible refine below_drewN ?_ _) | (with_reducible refine Below.drew ?_) | (with_reducible refine below_then ?_ (by with_reducible assumption)) | (with_reducible refine Below.setCell ?_ (by go_size) _))))
end
end
end Go.Proofs.YtofoenlhbmammaaGreat
