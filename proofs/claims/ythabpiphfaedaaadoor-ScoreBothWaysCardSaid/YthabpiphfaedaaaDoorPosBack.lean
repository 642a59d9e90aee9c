/- POS: one step back. -/
import Derived.Test.YthabpiphfaedaaaDoorWire3
namespace Go.Proofs.YthabpiphfaedaaaDoor
open Go.RowKit Go.Shelf

set_option maxRecDepth 100000 in set_option maxHeartbeats 4000000 in
theorem pos_Back0 (d p : V3) (m r : Int) (w : World) (hn : 2 ≤ d.x ∧ d.x ≤ 16) (px : 0 ≤ p.x ∧ p.x < d.x)
    (HO : RowKit.Hid (∀ W, Calls Tryd.prog 82 #[.agg #[.int .i64 d.x, .int .i64 d.y, .int .i64 d.z], .int .i64 m] W (RB W (.tuple #[.agg #[.int .i64 p.x, .int .i64 p.y, .int .i64 p.z], .int .i64 0]))))
    (HA : RowKit.Hid (∀ W, Calls Tryd.prog 47 #[.agg #[.int .i64 d.x, .int .i64 d.y, .int .i64 d.z], .agg #[.int .i64 ((p.x + -1) % d.x), .int .i64 p.y, .int .i64 p.z]] W (RB W (.tuple #[.int .i64 r, .int .i64 0])))) :
    Calls Tryd.prog 55 #[.agg #[.int .i64 d.x, .int .i64 d.y, .int .i64 d.z], .int .i64 m, .int .i64 0, .int .i64 (-1)] w (RB w (.tuple #[.int .i64 r, .int .i64 0])) := by
  have hm : Int.tmod (-1) d.x = -1 := by rw [Int.neg_tmod, Int.tmod_eq_of_lt (by omega) (by omega)]
  have hz : d.x ≠ 0 := by omega
  go_enter Tryd.func55, Tryd.ntmps55
  go_wp2_with fail
  refine (HO.out _).mono ?_
  rintro e w1 ⟨rfl, hb1⟩
  (obtain ⟨hc1, hf1⟩ := bcell hb1; have hz1 := hb1.size; (try simp at hz1); have hB : Below w.heap.size w w1 := (by (repeat (first | (with_reducible exact Below.refl _ _) | (with_reducible assumption) | (with_reducible refine below_alloc ?_ _) | (with_reducible refine below_drewN ?_ _) | (with_reducible refine Below.drew ?_) | (with_reducible refine below_then ?_ (by with_reducible assumption)) | (with_reducible refine Below.setCell ?_ (by go_size) _)))); obtain ⟨hcB, hfB⟩ := bcell hB; (try have z0 : w.heap.size < w1.heap.size := by omega); (try have z1 : w.heap.size + 1 < w1.heap.size := by omega); (try have z2 : w.heap.size + 2 < w1.heap.size := by omega); (try have z3 : w.heap.size + 3 < w1.heap.size := by omega))
  go_wp2_with fail
  go_region
  all_goals
    go_wp2_with fail
    refine (HA.out _).mono ?_
    rintro e w2 ⟨rfl, hb2⟩
    have hBB := below_then (show Below w.heap.size w _ by (repeat (first | (with_reducible exact Below.refl _ _) | (with_reducible assumption) | (with_reducible refine below_alloc ?_ _) | (with_reducible refine below_drewN ?_ _) | (with_reducible refine Below.drew ?_) | (with_reducible refine below_then ?_ (by with_reducible assumption)) | (with_reducible refine Below.setCell ?_ (by go_size) _)))) hb2
    go_wp2_with fail
    go_returns
    exact ⟨rfl, hBB⟩
set_option maxRecDepth 100000 in set_option maxHeartbeats 4000000 in
theorem pos_Back1 (d p : V3) (m r : Int) (w : World) (hn : 2 ≤ d.y ∧ d.y ≤ 16) (px : 0 ≤ p.y ∧ p.y < d.y)
    (HO : RowKit.Hid (∀ W, Calls Tryd.prog 82 #[.agg #[.int .i64 d.x, .int .i64 d.y, .int .i64 d.z], .int .i64 m] W (RB W (.tuple #[.agg #[.int .i64 p.x, .int .i64 p.y, .int .i64 p.z], .int .i64 0]))))
    (HA : RowKit.Hid (∀ W, Calls Tryd.prog 47 #[.agg #[.int .i64 d.x, .int .i64 d.y, .int .i64 d.z], .agg #[.int .i64 p.x, .int .i64 ((p.y + -1) % d.y), .int .i64 p.z]] W (RB W (.tuple #[.int .i64 r, .int .i64 0])))) :
    Calls Tryd.prog 55 #[.agg #[.int .i64 d.x, .int .i64 d.y, .int .i64 d.z], .int .i64 m, .int .i64 1, .int .i64 (-1)] w (RB w (.tuple #[.int .i64 r, .int .i64 0])) := by
  have hm : Int.tmod (-1) d.y = -1 := by rw [Int.neg_tmod, Int.tmod_eq_of_lt (by omega) (by omega)]
  have hz : d.y ≠ 0 := by omega
  go_enter Tryd.func55, Tryd.ntmps55
  go_wp2_with fail
  refine (HO.out _).mono ?_
  rintro e w1 ⟨rfl, hb1⟩
  (obtain ⟨hc1, hf1⟩ := bcell hb1; have hz1 := hb1.size; (try simp at hz1); have hB : Below w.heap.size w w1 := (by (repeat (first | (with_reducible exact Below.refl _ _) | (with_reducible assumption) | (with_reducible refine below_alloc ?_ _) | (with_reducible refine below_drewN ?_ _) | (with_reducible refine Below.drew ?_) | (with_reducible refine below_then ?_ (by with_reducible assumption)) | (with_reducible refine Below.setCell ?_ (by go_size) _)))); obtain ⟨hcB, hfB⟩ := bcell hB; (try have z0 : w.heap.size < w1.heap.size := by omega); (try have z1 : w.heap.size + 1 < w1.heap.size := by omega); (try have z2 : w.heap.size + 2 < w1.heap.size := by omega); (try have z3 : w.heap.size + 3 < w1.heap.size := by omega))
  go_wp2_with fail
  go_region
  all_goals
    go_wp2_with fail
    refine (HA.out _).mono ?_
    rintro e w2 ⟨rfl, hb2⟩
    have hBB := below_then (show Below w.heap.size w _ by (repeat (first | (with_reducible exact Below.refl _ _) | (with_reducible assumption) | (with_reducible refine below_alloc ?_ _) | (with_reducible refine below_drewN ?_ _) | (with_reducible refine Below.drew ?_) | (with_reducible refine below_then ?_ (by with_reducible assumption)) | (with_reducible refine Below.setCell ?_ (by go_size) _)))) hb2
    go_wp2_with fail
    go_returns
    exact ⟨rfl, hBB⟩
set_option maxRecDepth 100000 in set_option maxHeartbeats 4000000 in
theorem pos_Back2 (d p : V3) (m r : Int) (w : World) (hn : 2 ≤ d.z ∧ d.z ≤ 16) (px : 0 ≤ p.z ∧ p.z < d.z)
    (HO : RowKit.Hid (∀ W, Calls Tryd.prog 82 #[.agg #[.int .i64 d.x, .int .i64 d.y, .int .i64 d.z], .int .i64 m] W (RB W (.tuple #[.agg #[.int .i64 p.x, .int .i64 p.y, .int .i64 p.z], .int .i64 0]))))
    (HA : RowKit.Hid (∀ W, Calls Tryd.prog 47 #[.agg #[.int .i64 d.x, .int .i64 d.y, .int .i64 d.z], .agg #[.int .i64 p.x, .int .i64 p.y, .int .i64 ((p.z + -1) % d.z)]] W (RB W (.tuple #[.int .i64 r, .int .i64 0])))) :
    Calls Tryd.prog 55 #[.agg #[.int .i64 d.x, .int .i64 d.y, .int .i64 d.z], .int .i64 m, .int .i64 2, .int .i64 (-1)] w (RB w (.tuple #[.int .i64 r, .int .i64 0])) := by
  have hm : Int.tmod (-1) d.z = -1 := by rw [Int.neg_tmod, Int.tmod_eq_of_lt (by omega) (by omega)]
  have hz : d.z ≠ 0 := by omega
  go_enter Tryd.func55, Tryd.ntmps55
  go_wp2_with fail
  refine (HO.out _).mono ?_
  rintro e w1 ⟨rfl, hb1⟩
  (obtain ⟨hc1, hf1⟩ := bcell hb1; have hz1 := hb1.size; (try simp at hz1); have hB : Below w.heap.size w w1 := (by (repeat (first | (with_reducible exact Below.refl _ _) | (with_reducible assumption) | (with_reducible refine below_alloc ?_ _) | (with_reducible refine below_drewN ?_ _) | (with_reducible refine Below.drew ?_) | (with_reducible refine below_then ?_ (by with_reducible assumption)) | (with_reducible refine Below.setCell ?_ (by go_size) _)))); obtain ⟨hcB, hfB⟩ := bcell hB; (try have z0 : w.heap.size < w1.heap.size := by omega); (try have z1 : w.heap.size + 1 < w1.heap.size := by omega); (try have z2 : w.heap.size + 2 < w1.heap.size := by omega); (try have z3 : w.heap.size + 3 < w1.heap.size := by omega))
  go_wp2_with fail
  go_region
  all_goals
    go_wp2_with fail
    refine (HA.out _).mono ?_
    rintro e w2 ⟨rfl, hb2⟩
    have hBB := below_then (show Below w.heap.size w _ by (repeat (first | (with_reducible exact Below.refl _ _) | (with_reducible assumption) | (with_reducible refine below_alloc ?_ _) | (with_reducible refine below_drewN ?_ _) | (with_reducible refine Below.drew ?_) | (with_reducible refine below_then ?_ (by with_reducible assumption)) | (with_reducible refine Below.setCell ?_ (by go_size) _)))) hb2
    go_wp2_with fail
    go_returns
    exact ⟨rfl, hBB⟩

theorem pos_Back (d : V3) (m : Int) (k : Nat) (w : World) (hd : d.may) (h0 : 0 ≤ m) (h1 : m < d.n) (hk : k < 3) (hn : d.at k ≠ 1) :
    Calls Tryd.prog 55 #[.agg #[.int .i64 d.x, .int .i64 d.y, .int .i64 d.z], .int .i64 m, .int .i64 k, .int .i64 (-1)] w (RB w (.tuple #[.int .i64 (d.step m k (-1)), .int .i64 0])) := by
  have HO := Lib.hid (fun W => pos_Of_ok d m W hd h0 h1)
  have HA := fun W => pos_At_ok d (d.stepped m k (-1)) W hd (V3.stepped_inside hd h0 h1 hk (-1))
  obtain ⟨px, py, pz⟩ := V3.pos_inside hd h0 h1
  obtain ⟨hx, hy, hz⟩ := hd
  match k, hk with
  | 0, _ => exact pos_Back0 d (d.pos m) m _ w ⟨by have : d.x ≠ 1 := hn; omega, hx.2⟩ px HO (Lib.hid HA)
  | 1, _ => exact pos_Back1 d (d.pos m) m _ w ⟨by have : d.y ≠ 1 := hn; omega, hy.2⟩ py HO (Lib.hid HA)
  | 2, _ => exact pos_Back2 d (d.pos m) m _ w ⟨by have : d.z ≠ 1 := hn; omega, hz.2⟩ pz HO (Lib.hid HA)
end Go.Proofs.YthabpiphfaedaaaDoor
