/- CAL: calendars of the call's own; Next whole; spans of a length; the chapter's C; the chapter's first examples. -/
import Derived.Test.YtfikgjcmnooglaaRefPut
import Derived.Test.YtfikgjcmnooglaaCalA
import Derived.Test.YtfikgjcmnooglaaCal8
namespace Go.Proofs.Ytfikgjcmnooglaa
open Go.RowKit Go.Shelf

/-- A calendar's slice, whole. -/
structure CS (W : World) (v : Value) (c : List Sl) : Prop where
  ex : ∃ base cap, v = .slice base c.length cap ∧ CIn W base c ∧ c.length ≤ cap ∧ (base = none → cap = 0)
theorem CS.keep {w W : World} {v : Value} {c : List Sl} (h : CS w v c) (hb : Below w.heap.size w W) : CS W v c := by
  obtain ⟨base, cap, e, h1, h2⟩ := h.ex
  exact ⟨base, cap, e, h1.keep hb, h2⟩
theorem cal_of_own {W : World} {B : Nat} {v : Value} {c : List Sl} (h : W.ownsRow B 57 3 v c.length (slc c)) (hl : c.length ≤ 1000000) : CS W v c := by
  have h' := h
  rcases h.2 with ⟨rfl, hz⟩ | ⟨g, cap, cur, rfl, _⟩
  · obtain ⟨base, cap, e, rd, hc⟩ := own_rd h'
    obtain rfl : c = [] := List.eq_nil_of_length_eq_zero hz
    cases e
    exact ⟨none, 0, rfl, ⟨rd, hl⟩, Nat.le_refl _, fun _ => rfl⟩
  · obtain ⟨base, cap', e, rd, hc⟩ := own_rd h'
    cases e
    exact ⟨_, cap, rfl, ⟨rd, hl⟩, hc, fun h => by cases h⟩
theorem CS.mk1 {W : World} {ba : Option Addr} {c : List Sl} {ca : Nat} (hr : CIn W ba c) (hca : c.length ≤ ca) (hna : ba = none → c.length = 0 ∧ ca = 0) : CS W (.slice ba c.length ca) c := ⟨ba, ca, rfl, hr, hca, fun h => (hna h).2⟩

theorem cal_Next (base : Option Addr) (cap : Nat) (c : List Sl) (fr long : Int) (w : World) (hc : CIn w base c) (hcap : c.length ≤ cap) (hb0 : base = none → cap = 0) (h3 : long ≤ 9223372036854775807) :
    Calls Try.prog 23 #[.slice base c.length cap, .int .i64 fr, .int .i64 long] w (RB w (.tuple #[.int .i64 (nextV c fr long), .int .i64 (nextE c fr long)])) := by
  by_cases he : calE c = 0
  · by_cases ha : (0 ≤ fr ∧ fr < 1099511627776) ∧ 1 ≤ long
    · have hal := aft_le c fr
      by_cases hlt : aft c fr < c.length
      · obtain ⟨b, off, rfl, _⟩ := hc.at hlt
        exact cal_Next_in b off cap c fr long w hc hcap he ha.1.1 ha.1.2 ha.2 h3 hlt
      · exact cal_Next_end base cap c fr long w hc hcap hb0 he ha.1.1 ha.1.2 ha.2 h3 (by omega)
    · exact cal_Next_arg base cap c fr long w hc he ha
  · exact cal_Next_bad base cap c fr long w hc he

/-! ### every function at a calendar's slice -/
section
variable {w : World} {v u : Value} {c d : List Sl} (h : CS w v c) (hd : CS w u d)
include h
theorem s_Put (s : Sl) : Calls Try.prog 34 #[v, .agg #[.int .i64 s.f, .int .i64 s.t, .int .i64 s.o]] w (RSE w (putV c s) (putE c s)) := by
  obtain ⟨base, cap, rfl, h1, h2, h3⟩ := h.ex
  exact cal_Put base cap c s w h1 (fun e => by have := h3 e; omega)
theorem s_RPut (s : Sl) : Calls Try.prog 35 #[v, .agg #[.int .i64 s.f, .int .i64 s.t, .int .i64 s.o]] w (RSE w (putV c s) (putE c s)) := by
  obtain ⟨base, cap, rfl, h1, h2, h3⟩ := h.ex
  exact ref08_Put base cap c s w h1
theorem s_Take (ow : Int) : Calls Try.prog 36 #[v, .int .i64 ow] w (RSE w (cutV ow 0 c) (calE c)) := by
  obtain ⟨base, cap, rfl, h1, h2, h3⟩ := h.ex
  exact cal_Take base cap c ow w h1
theorem s_RTake (ow : Int) : Calls Try.prog 37 #[v, .int .i64 ow] w (RSE w (cutV ow 0 c) (calE c)) := by
  obtain ⟨base, cap, rfl, h1, h2, h3⟩ := h.ex
  exact ref08_Take base cap c ow w h1
theorem s_Cut (ow tm : Int) : Calls Try.prog 38 #[v, .int .i64 ow, .int .i64 tm] w (RSE w (cutV ow tm c) (calE c)) := by
  obtain ⟨base, cap, rfl, h1, h2, h3⟩ := h.ex
  exact cal_Cut base cap c ow tm w h1
theorem s_RCut (ow tm : Int) : Calls Try.prog 39 #[v, .int .i64 ow, .int .i64 tm] w (RSE w (cutV ow tm c) (calE c)) := by
  obtain ⟨base, cap, rfl, h1, h2, h3⟩ := h.ex
  exact ref08_Cut base cap c ow tm w h1
theorem s_Check : Calls Try.prog 40 #[v] w (RB w (.int .i64 (calE c))) := by
  obtain ⟨base, cap, rfl, h1, h2, h3⟩ := h.ex
  exact cal_Check base cap c w h1
theorem s_RCheck : Calls Try.prog 41 #[v] w (RB w (.int .i64 (calE c))) := by
  obtain ⟨base, cap, rfl, h1, h2, h3⟩ := h.ex
  exact ref08_Check base cap c w h1
theorem s_Free (f t : Int) : Calls Try.prog 19 #[v, .agg #[.int .i64 f, .int .i64 t]] w (RB w (.tuple #[.bool (freeV c f t), .int .i64 (freeE c f t)])) := by
  obtain ⟨base, cap, rfl, h1, h2, h3⟩ := h.ex
  exact cal_Free base cap c f t w h1
theorem s_At (a : Int) : Calls Try.prog 21 #[v, .int .i64 a] w (RB w (.tuple #[.int .i64 (atO c a), .int .i64 (atE c a)])) := by
  obtain ⟨base, cap, rfl, h1, h2, h3⟩ := h.ex
  exact cal_At base cap c a w h1
theorem s_Next (fr long : Int) (h3 : long ≤ 9223372036854775807) : Calls Try.prog 23 #[v, .int .i64 fr, .int .i64 long] w (RB w (.tuple #[.int .i64 (nextV c fr long), .int .i64 (nextE c fr long)])) := by
  obtain ⟨base, cap, rfl, h1, h2, h4⟩ := h.ex
  exact cal_Next base cap c fr long w h1 h2 h4 h3
include hd
theorem s_Same : Calls Try.prog 25 #[v, u] w (RB w (.bool (decide (c = d)))) := by
  obtain ⟨base, cap, rfl, h1, h2, h3⟩ := h.ex
  obtain ⟨base', cap', rfl, h1', h2', h3'⟩ := hd.ex
  exact ref08_Same base base' cap cap' c d w h1 h1'
end
theorem putV_len (c : List Sl) (s : Sl) : (putV c s).length ≤ c.length + 1 := by
  unfold putV
  split
  · rw [putL_len]; exact Nat.le_refl _
  · exact Nat.zero_le _
theorem cutV_len (ow tm : Int) (c : List Sl) : (cutV ow tm c).length ≤ c.length := by
  unfold cutV
  split
  · exact cutL_len ow tm c
  · exact Nat.zero_le _

/-! ### spans of a length -/
set_option maxRecDepth 100000 in set_option maxHeartbeats 4000000 in
theorem time_within (n lo hi : Int) (w : World) : Calls Try.prog 146 #[.int .i64 n, .int .i64 lo, .int .i64 hi] w (RB w (.int .i64 (min (max n lo) hi))) := by
  by_cases h1 : n ≤ lo
  · by_cases h2 : lo ≤ hi
    · rw [show min (max n lo) hi = lo by omega]
      go_enter Try.func146, Try.ntmps146
      go_wp2
      all_goals
        go_returns
        exact ⟨by first | rfl | exact ret_int (by omega), by (repeat (first | (with_reducible exact Below.refl _ _) | (with_reducible assumption) | (with_reducible refine below_alloc ?_ _) | (with_reducible refine below_drewN ?_ _) | (with_reducible refine Below.drew ?_) | (with_reducible refine below_then ?_ (by with_reducible assumption)) | (with_reducible refine Below.setCell ?_ (by go_size) _)))⟩
    · rw [show min (max n lo) hi = hi by omega]
      go_enter Try.func146, Try.ntmps146
      go_wp2
      all_goals
        go_returns
        exact ⟨by first | rfl | exact ret_int (by omega), by (repeat (first | (with_reducible exact Below.refl _ _) | (with_reducible assumption) | (with_reducible refine below_alloc ?_ _) | (with_reducible refine below_drewN ?_ _) | (with_reducible refine Below.drew ?_) | (with_reducible refine below_then ?_ (by with_reducible assumption)) | (with_reducible refine Below.setCell ?_ (by go_size) _)))⟩
  · by_cases h2 : n ≤ hi
    · rw [show min (max n lo) hi = n by omega]
      go_enter Try.func146, Try.ntmps146
      go_wp2
      all_goals
        go_returns
        exact ⟨by first | rfl | exact ret_int (by omega), by (repeat (first | (with_reducible exact Below.refl _ _) | (with_reducible assumption) | (with_reducible refine below_alloc ?_ _) | (with_reducible refine below_drewN ?_ _) | (with_reducible refine Below.drew ?_) | (with_reducible refine below_then ?_ (by with_reducible assumption)) | (with_reducible refine Below.setCell ?_ (by go_size) _)))⟩
    · rw [show min (max n lo) hi = hi by omega]
      go_enter Try.func146, Try.ntmps146
      go_wp2
      all_goals
        go_returns
        exact ⟨by first | rfl | exact ret_int (by omega), by (repeat (first | (with_reducible exact Below.refl _ _) | (with_reducible assumption) | (with_reducible refine below_alloc ?_ _) | (with_reducible refine below_drewN ?_ _) | (with_reducible refine Below.drew ?_) | (with_reducible refine below_then ?_ (by with_reducible assumption)) | (with_reducible refine Below.setCell ?_ (by go_size) _)))⟩
def plusT (a b : Int) : Int := min (min (max a 0) 1099511627776 + min (max b 0) 1099511627776) 1099511627776
set_option maxRecDepth 100000 in set_option maxHeartbeats 4000000 in
theorem time_Plus (a b : Int) (w : World) : Calls Try.prog 101 #[.int .i64 a, .int .i64 b] w (RB w (.int .i64 (plusT a b))) := by
  have H1 := Lib.hid (fun W => time_within a 0 1099511627776 W)
  have H2 := Lib.hid (fun W => time_within b 0 1099511627776 W)
  have H3 := Lib.hid (fun n W => time_within n 0 1099511627776 W)
  have HE := Lib.hid (show plusT a b = min (min (max a 0) 1099511627776 + min (max b 0) 1099511627776) 1099511627776 from rfl)
  have g1 : 0 ≤ min (max a 0) 1099511627776 ∧ min (max a 0) 1099511627776 ≤ 1099511627776 := by omega
  have g2 : 0 ≤ min (max b 0) 1099511627776 ∧ min (max b 0) 1099511627776 ≤ 1099511627776 := by omega
  generalize min (max a 0) 1099511627776 = p at *
  generalize min (max b 0) 1099511627776 = q at *
  go_enter Try.func101, Try.ntmps101
  go_wp2_with fail
  refine (H1.out _).mono ?_
  rintro e w1 ⟨rfl, hb1⟩
  go_wp2_with fail
  refine (H2.out _).mono ?_
  rintro e w2 ⟨rfl, hb2⟩
  go_wp2_with fail
  refine (H3.out _ _).mono ?_
  rintro e w3 ⟨rfl, hb3⟩
  go_wp2_with fail
  go_returns
  exact ⟨ret_int (by rw [HE.out]; omega), below_then (below_then hb1 hb2) hb3⟩
set_option maxRecDepth 100000 in set_option maxHeartbeats 4000000 in
theorem time_From (a long : Int) (w : World) (h0 : 0 ≤ a) (h1 : a < 1099511627776) (h2 : 1 ≤ long) (h3 : long ≤ 1099511627776 - a) : Calls Try.prog 43 #[.int .i64 a, .int .i64 long] w (RB w (.tuple #[.agg #[.int .i64 a, .int .i64 (a + long)], .int .i64 0])) := by
  have H1 := Lib.hid (fun W => Calls.rb_eq (time_Plus a long W) (show Value.int .i64 (plusT a long) = .int .i64 (a + long) by congr 1; unfold plusT; omega))
  go_enter Try.func43, Try.ntmps43
  go_wp2_with fail
  refine (H1.out _).mono ?_
  rintro e w1 ⟨rfl, hb1⟩
  (obtain ⟨hc1, hf1⟩ := bcell hb1; have hz1 := hb1.size; (try simp at hz1); have hB : Below w.heap.size w w1 := (by (repeat (first | (with_reducible exact Below.refl _ _) | (with_reducible assumption) | (with_reducible refine below_alloc ?_ _) | (with_reducible refine below_drewN ?_ _) | (with_reducible refine Below.drew ?_) | (with_reducible refine below_then ?_ (by with_reducible assumption)) | (with_reducible refine Below.setCell ?_ (by go_size) _)))); obtain ⟨hcB, hfB⟩ := bcell hB; (try have z0 : w.heap.size < w1.heap.size := by omega); (try have z1 : w.heap.size + 1 < w1.heap.size := by omega); (try have z2 : w.heap.size + 2 < w1.heap.size := by omega); (try have z3 : w.heap.size + 3 < w1.heap.size := by omega))
  have k0 : w1.cell? ⟨w.heap.size, 0, none⟩ = some (.int .i64 0) := (hc1 _ _ (by simp)).trans (by simp [go_sem])
  have k1 : w1.cell? ⟨w.heap.size, 1, none⟩ = some (.int .i64 0) := (hc1 _ _ (by simp)).trans (by simp [go_sem])
  have hs1 : w.heap.size ≤ w1.heap.size := hB.size
  go_wp2_with fail
  exact bodyPost_ret (v := .tuple #[.agg #[.int .i64 a, .int .i64 (a + long)], .int .i64 0]) (by simp [results, Try.f43, go_sem, k0, k1]) rfl ⟨rfl, (hB.setCell (by simp) _).setCell (by simp) _⟩
set_option maxRecDepth 100000 in set_option maxHeartbeats 4000000 in
theorem time_Long (f t : Int) (w : World) (h : spMay f t) : Calls Try.prog 44 #[.agg #[.int .i64 f, .int .i64 t]] w (RB w (.tuple #[.int .i64 (t - f), .int .i64 0])) := by
  have H1 := Lib.hid (fun W => Calls.rb_eq (time_Check f t W) (show Value.int .i64 (okIf (spMay f t) 2) = .int .i64 0 by rw [okIf_yes h]))
  have hh := h.1
  have h2 := h.2
  clear h
  go_enter Try.func44, Try.ntmps44
  go_wp2_with fail
  refine (H1.out _).mono ?_
  rintro e w1 ⟨rfl, hb1⟩
  (obtain ⟨hc1, hf1⟩ := bcell hb1; have hz1 := hb1.size; (try simp at hz1); have hB : Below w.heap.size w w1 := (by (repeat (first | (with_reducible exact Below.refl _ _) | (with_reducible assumption) | (with_reducible refine below_alloc ?_ _) | (with_reducible refine below_drewN ?_ _) | (with_reducible refine Below.drew ?_) | (with_reducible refine below_then ?_ (by with_reducible assumption)) | (with_reducible refine Below.setCell ?_ (by go_size) _)))); obtain ⟨hcB, hfB⟩ := bcell hB; (try have z0 : w.heap.size < w1.heap.size := by omega); (try have z1 : w.heap.size + 1 < w1.heap.size := by omega); (try have z2 : w.heap.size + 2 < w1.heap.size := by omega); (try have z3 : w.heap.size + 3 < w1.heap.size := by omega))
  go_wp2_with fail
  all_goals
    go_returns
    exact ⟨rfl, by first | exact below_drewN hB _ | exact hB⟩
end Go.Proofs.Ytfikgjcmnooglaa
