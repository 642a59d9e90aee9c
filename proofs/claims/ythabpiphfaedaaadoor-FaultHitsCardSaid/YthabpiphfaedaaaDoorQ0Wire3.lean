/- POS: some steps on; how far. -/
import Derived.Test.YthabpiphfaedaaaDoorQ0WireLaw
namespace Go.Proofs.YthabpiphfaedaaaDoor

section
open Go.RowKit Go.Shelf

theorem ret_ii' {a b c e : Int} (h1 : a = b) (h2 : c = e) : Ending.returned (.tuple #[.int .i64 a, .int .i64 c]) = .returned (.tuple #[.int .i64 b, .int .i64 e]) := by rw [h1, h2]
theorem mod_step {p b n : Int} : (p + b % n + n) % n = (p + b) % n := by
  rw [Int.add_emod_right, Int.add_emod_emod]
set_option maxRecDepth 100000 in set_option maxHeartbeats 4000000 in
theorem pos_Step0 (d p : V3) (m b r : Int) (w : World) (hn : 1 ≤ d.x ∧ d.x ≤ 16) (px : 0 ≤ p.x ∧ p.x < d.x) (hb : 0 ≤ b) (hb9 : b ≤ 1000)
    (HO : RowKit.Hid (∀ W, Calls Tryd.prog 82 #[.agg #[.int .i64 d.x, .int .i64 d.y, .int .i64 d.z], .int .i64 m] W (RB W (.tuple #[.agg #[.int .i64 p.x, .int .i64 p.y, .int .i64 p.z], .int .i64 0]))))
    (HA : RowKit.Hid (∀ W, Calls Tryd.prog 47 #[.agg #[.int .i64 d.x, .int .i64 d.y, .int .i64 d.z], .agg #[.int .i64 ((p.x + b) % d.x), .int .i64 p.y, .int .i64 p.z]] W (RB W (.tuple #[.int .i64 r, .int .i64 0])))) :
    Calls Tryd.prog 55 #[.agg #[.int .i64 d.x, .int .i64 d.y, .int .i64 d.z], .int .i64 m, .int .i64 0, .int .i64 b] w (RB w (.tuple #[.int .i64 r, .int .i64 0])) := by
  have h2 : 0 ≤ b % d.x ∧ b % d.x < d.x := ⟨Int.emod_nonneg _ (by omega), Int.emod_lt_of_pos _ (by omega)⟩
  have hz : d.x ≠ 0 := by omega
  go_enter Tryd.func55, Tryd.ntmps55
  go_wp2_with fail
  refine (HO.out _).mono ?_
  rintro e w1 ⟨rfl, hb1⟩
  (obtain ⟨hc1, hf1⟩ := bcell hb1; have hz1 := hb1.size; (try simp at hz1); have hB : Below w.heap.size w w1 := (by (repeat (first | (with_reducible exact Below.refl _ _) | (with_reducible assumption) | (with_reducible refine below_alloc ?_ _) | (with_reducible refine below_drewN ?_ _) | (with_reducible refine Below.drew ?_) | (with_reducible refine below_then ?_ (by with_reducible assumption)) | (with_reducible refine Below.setCell ?_ (by go_size) _)))); obtain ⟨hcB, hfB⟩ := bcell hB; (try have z0 : w.heap.size < w1.heap.size := by omega); (try have z1 : w.heap.size + 1 < w1.heap.size := by omega); (try have z2 : w.heap.size + 2 < w1.heap.size := by omega); (try have z3 : w.heap.size + 3 < w1.heap.size := by omega))
  go_wp2_with fail
  go_region
  all_goals
    go_wp2_with fail
    refine (HA.out _).mono ?_
    rintro e w2 ⟨rfl, hb2⟩
    have hBB := below_then (show Below w.heap.size w _ by (repeat (first | (with_reducible exact Below.refl _ _) | (with_reducible assumption) | (with_reducible refine below_alloc ?_ _) | (with_reducible refine below_drewN ?_ _) | (with_reducible refine Below.drew ?_) | (with_reducible refine below_then ?_ (by with_reducible assumption)) | (with_reducible refine Below.setCell ?_ (by go_size) _)))) hb2
    go_wp2_with fail
    go_returns
    exact ⟨rfl, hBB⟩
set_option maxRecDepth 100000 in set_option maxHeartbeats 4000000 in
theorem pos_Step1 (d p : V3) (m b r : Int) (w : World) (hn : 1 ≤ d.y ∧ d.y ≤ 16) (px : 0 ≤ p.y ∧ p.y < d.y) (hb : 0 ≤ b) (hb9 : b ≤ 1000)
    (HO : RowKit.Hid (∀ W, Calls Tryd.prog 82 #[.agg #[.int .i64 d.x, .int .i64 d.y, .int .i64 d.z], .int .i64 m] W (RB W (.tuple #[.agg #[.int .i64 p.x, .int .i64 p.y, .int .i64 p.z], .int .i64 0]))))
    (HA : RowKit.Hid (∀ W, Calls Tryd.prog 47 #[.agg #[.int .i64 d.x, .int .i64 d.y, .int .i64 d.z], .agg #[.int .i64 p.x, .int .i64 ((p.y + b) % d.y), .int .i64 p.z]] W (RB W (.tuple #[.int .i64 r, .int .i64 0])))) :
    Calls Tryd.prog 55 #[.agg #[.int .i64 d.x, .int .i64 d.y, .int .i64 d.z], .int .i64 m, .int .i64 1, .int .i64 b] w (RB w (.tuple #[.int .i64 r, .int .i64 0])) := by
  have h2 : 0 ≤ b % d.y ∧ b % d.y < d.y := ⟨Int.emod_nonneg _ (by omega), Int.emod_lt_of_pos _ (by omega)⟩
  have hz : d.y ≠ 0 := by omega
  go_enter Tryd.func55, Tryd.ntmps55
  go_wp2_with fail
  refine (HO.out _).mono ?_
  rintro e w1 ⟨rfl, hb1⟩
  (obtain ⟨hc1, hf1⟩ := bcell hb1; have hz1 := hb1.size; (try simp at hz1); have hB : Below w.heap.size w w1 := (by (repeat (first | (with_reducible exact Below.refl _ _) | (with_reducible assumption) | (with_reducible refine below_alloc ?_ _) | (with_reducible refine below_drewN ?_ _) | (with_reducible refine Below.drew ?_) | (with_reducible refine below_then ?_ (by with_reducible assumption)) | (with_reducible refine Below.setCell ?_ (by go_size) _)))); obtain ⟨hcB, hfB⟩ := bcell hB; (try have z0 : w.heap.size < w1.heap.size := by omega); (try have z1 : w.heap.size + 1 < w1.heap.size := by omega); (try have z2 : w.heap.size + 2 < w1.heap.size := by omega); (try have z3 : w.heap.size + 3 < w1.heap.size := by omega))
  go_wp2_with fail
  go_region
  all_goals
    go_wp2_with fail
    refine (HA.out _).mono ?_
    rintro e w2 ⟨rfl, hb2⟩
    have hBB := below_then (show Below w.heap.size w _ by (repeat (first | (with_reducible exact Below.refl _ _) | (with_reducible assumption) | (with_reducible refine below_alloc ?_ _) | (with_reducible refine below_drewN ?_ _) | (with_reducible refine Below.drew ?_) | (with_reducible refine below_then ?_ (by with_reducible assumption)) | (with_reducible refine Below.setCell ?_ (by go_size) _)))) hb2
    go_wp2_with fail
    go_returns
    exact ⟨rfl, hBB⟩
set_option maxRecDepth 100000 in set_option maxHeartbeats 4000000 in
theorem pos_Step2 (d p : V3) (m b r : Int) (w : World) (hn : 1 ≤ d.z ∧ d.z ≤ 16) (px : 0 ≤ p.z ∧ p.z < d.z) (hb : 0 ≤ b) (hb9 : b ≤ 1000)
    (HO : RowKit.Hid (∀ W, Calls Tryd.prog 82 #[.agg #[.int .i64 d.x, .int .i64 d.y, .int .i64 d.z], .int .i64 m] W (RB W (.tuple #[.agg #[.int .i64 p.x, .int .i64 p.y, .int .i64 p.z], .int .i64 0]))))
    (HA : RowKit.Hid (∀ W, Calls Tryd.prog 47 #[.agg #[.int .i64 d.x, .int .i64 d.y, .int .i64 d.z], .agg #[.int .i64 p.x, .int .i64 p.y, .int .i64 ((p.z + b) % d.z)]] W (RB W (.tuple #[.int .i64 r, .int .i64 0])))) :
    Calls Tryd.prog 55 #[.agg #[.int .i64 d.x, .int .i64 d.y, .int .i64 d.z], .int .i64 m, .int .i64 2, .int .i64 b] w (RB w (.tuple #[.int .i64 r, .int .i64 0])) := by
  have h2 : 0 ≤ b % d.z ∧ b % d.z < d.z := ⟨Int.emod_nonneg _ (by omega), Int.emod_lt_of_pos _ (by omega)⟩
  have hz : d.z ≠ 0 := by omega
  go_enter Tryd.func55, Tryd.ntmps55
  go_wp2_with fail
  refine (HO.out _).mono ?_
  rintro e w1 ⟨rfl, hb1⟩
  (obtain ⟨hc1, hf1⟩ := bcell hb1; have hz1 := hb1.size; (try simp at hz1); have hB : Below w.heap.size w w1 := (by (repeat (first | (with_reducible exact Below.refl _ _) | (with_reducible assumption) | (with_reducible refine below_alloc ?_ _) | (with_reducible refine below_drewN ?_ _) | (with_reducible refine Below.drew ?_) | (with_reducible refine below_then ?_ (by with_reducible assumption)) | (with_reducible refine Below.setCell ?_ (by go_size) _)))); obtain ⟨hcB, hfB⟩ := bcell hB; (try have z0 : w.heap.size < w1.heap.size := by omega); (try have z1 : w.heap.size + 1 < w1.heap.size := by omega); (try have z2 : w.heap.size + 2 < w1.heap.size := by omega); (try have z3 : w.heap.size + 3 < w1.heap.size := by omega))
  go_wp2_with fail
  go_region
  all_goals
    go_wp2_with fail
    refine (HA.out _).mono ?_
    rintro e w2 ⟨rfl, hb2⟩
    have hBB := below_then (show Below w.heap.size w _ by (repeat (first | (with_reducible exact Below.refl _ _) | (with_reducible assumption) | (with_reducible refine below_alloc ?_ _) | (with_reducible refine below_drewN ?_ _) | (with_reducible refine Below.drew ?_) | (with_reducible refine below_then ?_ (by with_reducible assumption)) | (with_reducible refine Below.setCell ?_ (by go_size) _)))) hb2
    go_wp2_with fail
    go_returns
    exact ⟨rfl, hBB⟩

theorem pos_Step (d : V3) (m : Int) (k : Nat) (b : Int) (w : World) (hd : d.may) (h0 : 0 ≤ m) (h1 : m < d.n) (hk : k < 3) (hb : 0 ≤ b) (hb9 : b ≤ 1000) :
    Calls Tryd.prog 55 #[.agg #[.int .i64 d.x, .int .i64 d.y, .int .i64 d.z], .int .i64 m, .int .i64 k, .int .i64 b] w (RB w (.tuple #[.int .i64 (d.step m k b), .int .i64 0])) := by
  have HO := Lib.hid (fun W => pos_Of_ok d m W hd h0 h1)
  have HA := fun W => pos_At_ok d (d.stepped m k b) W hd (V3.stepped_inside hd h0 h1 hk b)
  obtain ⟨px, py, pz⟩ := V3.pos_inside hd h0 h1
  obtain ⟨hx, hy, hz⟩ := hd
  match k, hk with
  | 0, _ => exact pos_Step0 d (d.pos m) m b _ w hx px hb hb9 HO (Lib.hid HA)
  | 1, _ => exact pos_Step1 d (d.pos m) m b _ w hy py hb hb9 HO (Lib.hid HA)
  | 2, _ => exact pos_Step2 d (d.pos m) m b _ w hz pz hb hb9 HO (Lib.hid HA)

/-! ### how far -/
/-- How far two midplanes are apart, a round at a time. -/
def V3.farTo (d p q : V3) : Nat → Int
  | 0 => 0
  | k + 1 => d.farTo p q k + ringFar (d.at k) (p.at k) (q.at k)
theorem V3.farTo_all (d p q : V3) : d.farTo p q 3 = d.far p q := by
  show 0 + ringFar d.x p.x q.x + ringFar d.y p.y q.y + ringFar d.z p.z q.z = _
  unfold V3.far
  omega
theorem ringFar_le {n p q : Int} (hn : 1 ≤ n ∧ n ≤ 16) : 0 ≤ ringFar n p q ∧ ringFar n p q ≤ 16 := by
  have h0 := Int.emod_nonneg (q - p + n) (show n ≠ 0 by omega)
  have h1 := Int.emod_lt_of_pos (q - p + n) (show 0 < n by omega)
  unfold ringFar
  split <;> omega
end
end Go.Proofs.YthabpiphfaedaaaDoor
