/- REF: some steps on along an axis. -/
import Derived.Test.YtofoenlhbmammaaGreatProg
import Derived.Deep.RegionWith
import Derived.Test.YtofoenlhbmammaaGreatQ1FreeTells
import Derived.Test.YtofoenlhbmammaaGreatQ5FreeTells
namespace Go.Proofs.YtofoenlhbmammaaGreat

section
open Go.RowKit Go.Shelf

theorem ret_ii' {a b c e : Int} (h1 : a = b) (h2 : c = e) : Ending.returned (.tuple #[.int .i64 a, .int .i64 c]) = .returned (.tuple #[.int .i64 b, .int .i64 e]) := by rw [h1, h2]
theorem mod_step {p b n : Int} : (p + b % n + n) % n = (p + b) % n := by
  rw [Int.add_emod_right, Int.add_emod_emod]
set_option maxRecDepth 100000 in set_option maxHeartbeats 4000000 in
theorem pos_Step0 (d p : V3) (m b r : Int) (w : World) (hn : 1 ≤ d.x ∧ d.x ≤ 16) (px : 0 ≤ p.x ∧ p.x < d.x) (hb : 0 ≤ b) (hb9 : b ≤ 1000)
    (HO : RowKit.Hid (∀ W, Calls Tryz.prog 149 #[.agg #[.int .i64 d.x, .int .i64 d.y, .int .i64 d.z], .int .i64 m] W (RB W (.tuple #[.agg #[.int .i64 p.x, .int .i64 p.y, .int .i64 p.z], .int .i64 0]))))
    (HA : RowKit.Hid (∀ W, Calls Tryz.prog 111 #[.agg #[.int .i64 d.x, .int .i64 d.y, .int .i64 d.z], .agg #[.int .i64 ((p.x + b) % d.x), .int .i64 p.y, .int .i64 p.z]] W (RB W (.tuple #[.int .i64 r, .int .i64 0])))) :
    Calls Tryz.prog 131 #[.agg #[.int .i64 d.x, .int .i64 d.y, .int .i64 d.z], .int .i64 m, .int .i64 0, .int .i64 b] w (RB w (.tuple #[.int .i64 r, .int .i64 0])) := by
  have h2 : 0 ≤ b % d.x ∧ b % d.x < d.x := ⟨Int.emod_nonneg _ (by omega), Int.emod_lt_of_pos _ (by omega)⟩
  have hz : d.x ≠ 0 := by omega
  go_enter Tryz.func131, Tryz.ntmps131
  go_wp2_with fail
  refine (HO.out _).mono ?_
  rintro e w1 ⟨rfl, hb1⟩
  (obtain ⟨hc1, hf1⟩ := bcell hb1; have hz1 := hb1.size; (try simp at hz1); have hB : Below w.heap.size w w1 := (by (repeat (first | (with_reducible exact Below.refl _ _) | (with_reducible assumption) | (with_reducible refine below_alloc ?_ _) | (with_reducible refine below_drewN ?_ _) | (with_reducible refine Below.drew ?_) | (with_reducible refine below_then ?_ (by with_reducible assumption)) | (with_reducible refine Below.setCell ?_ (by go_size) _)))); obtain ⟨hcB, hfB⟩ := bcell hB; (try have z0 : w.heap.size < w1.heap.size := by omega); (try have z1 : w.heap.size + 1 < w1.heap.size := by omega); (try have z2 : w.heap.size + 2 < w1.heap.size := by omega); (try have z3 : w.heap.size + 3 < w1.heap.size := by omega))
  go_wp2_with fail
  go_region
  all_goals
    go_wp2_with fail
    refine (HA.out _).mono ?_
    rintro e w2 ⟨rfl, hb2⟩
    have hBB := below_then (show Below w.heap.size w _ by (repeat (first | (with_reducible exact Below.refl _ _) | (with_reducible assumption) | (with_reducible refine below_alloc ?_ _) | (with_reducible refine below_drewN ?_ _) | (with_reducible refine Below.drew ?_) | (with_reducible refine below_then ?_ (by with_reducible assumption)) | (with_reducible refine Below.setCell ?_ (by go_size) _)))) hb2
    go_wp2_with fail
    go_returns
    exact ⟨rfl, hBB⟩
set_option maxRecDepth 100000 in set_option maxHeartbeats 4000000 in
theorem pos_Step1 (d p : V3) (m b r : Int) (w : World) (hn : 1 ≤ d.y ∧ d.y ≤ 16) (px : 0 ≤ p.y ∧ p.y < d.y) (hb : 0 ≤ b) (hb9 : b ≤ 1000)
    (HO : RowKit.Hid (∀ W, Calls Tryz.prog 149 #[.agg #[.int .i64 d.x, .int .i64 d.y, .int .i64 d.z], .int .i64 m] W (RB W (.tuple #[.agg #[.int .i64 p.x, .int .i64 p.y, .int .i64 p.z], .int .i64 0]))))
    (HA : RowKit.Hid (∀ W, Calls Tryz.prog 111 #[.agg #[.int .i64 d.x, .int .i64 d.y, .int .i64 d.z], .agg #[.int .i64 p.x, .int .i64 ((p.y + b) % d.y), .int .i64 p.z]] W (RB W (.tuple #[.int .i64 r, .int .i64 0])))) :
    Calls Tryz.prog 131 #[.agg #[.int .i64 d.x, .int .i64 d.y, .int .i64 d.z], .int .i64 m, .int .i64 1, .int .i64 b] w (RB w (.tuple #[.int .i64 r, .int .i64 0])) := by
  have h2 : 0 ≤ b % d.y ∧ b % d.y < d.y := ⟨Int.emod_nonneg _ (by omega), Int.emod_lt_of_pos _ (by omega)⟩
  have hz : d.y ≠ 0 := by omega
  go_enter Tryz.func131, Tryz.ntmps131
  go_wp2_with fail
  refine (HO.out _).mono ?_
  rintro e w1 ⟨rfl, hb1⟩
  (obtain ⟨hc1, hf1⟩ := bcell hb1; have hz1 := hb1.size; (try simp at hz1); have hB : Below w.heap.size w w1 := (by (repeat (first | (with_reducible exact Below.refl _ _) | (with_reducible assumption) | (with_reducible refine below_alloc ?_ _) | (with_reducible refine below_drewN ?_ _) | (with_reducible refine Below.drew ?_) | (with_reducible refine below_then ?_ (by with_reducible assumption)) | (with_reducible refine Below.setCell ?_ (by go_size) _)))); obtain ⟨hcB, hfB⟩ := bcell hB; (try have z0 : w.heap.size < w1.heap.size := by omega); (try have z1 : w.heap.size + 1 < w1.heap.size := by omega); (try have z2 : w.heap.size + 2 < w1.heap.size := by omega); (try have z3 : w.heap.size + 3 < w1.heap.size := by omega))
  go_wp2_with fail
  go_region
  all_goals
    go_wp2_with fail
    refine (HA.out _).mono ?_
    rintro e w2 ⟨rfl, hb2⟩
    have hBB := below_then (show Below w.heap.size w _ by (repeat (first | (with_reducible exact Below.refl _ _) | (with_reducible assumption) | (with_reducible refine below_alloc ?_ _) | (with_reducible refine below_drewN ?_ _) | (with_reducible refine Below.drew ?_) | (with_reducible refine below_then ?_ (by with_reducible assumption)) | (with_reducible refine Below.setCell ?_ (by go_size) _)))) hb2
    go_wp2_with fail
    go_returns
    exact ⟨rfl, hBB⟩
set_option maxRecDepth 100000 in set_option maxHeartbeats 4000000 in
theorem pos_Step2 (d p : V3) (m b r : Int) (w : World) (hn : 1 ≤ d.z ∧ d.z ≤ 16) (px : 0 ≤ p.z ∧ p.z < d.z) (hb : 0 ≤ b) (hb9 : b ≤ 1000)
    (HO : RowKit.Hid (∀ W, Calls Tryz.prog 149 #[.agg #[.int .i64 d.x, .int .i64 d.y, .int .i64 d.z], .int .i64 m] W (RB W (.tuple #[.agg #[.int .i64 p.x, .int .i64 p.y, .int .i64 p.z], .int .i64 0]))))
    (HA : RowKit.Hid (∀ W, Calls Tryz.prog 111 #[.agg #[.int .i64 d.x, .int .i64 d.y, .int .i64 d.z], .agg #[.int .i64 p.x, .int .i64 p.y, .int .i64 ((p.z + b) % d.z)]] W (RB W (.tuple #[.int .i64 r, .int .i64 0])))) :
    Calls Tryz.prog 131 #[.agg #[.int .i64 d.x, .int .i64 d.y, .int .i64 d.z], .int .i64 m, .int .i64 2, .int .i64 b] w (RB w (.tuple #[.int .i64 r, .int .i64 0])) := by
  have h2 : 0 ≤ b % d.z ∧ b % d.z < d.z := ⟨Int.emod_nonneg _ (by omega), Int.emod_lt_of_pos _ (by omega)⟩
  have hz : d.z ≠ 0 := by omega
  go_enter Tryz.func131, Tryz.ntmps131
  go_wp2_with fail
  refine (HO.out _).mono ?_
  rintro e w1 ⟨rfl, hb1⟩
  (obtain ⟨hc1, hf1⟩ := bcell hb1; have hz1 := hb1.size; (try simp at hz1); have hB : Below w.heap.size w w1 := (by (repeat (first | (with_reducible exact Below.refl _ _) | (with_reducible assumption) | (with_reducible refine below_alloc ?_ _) | (with_reducible refine below_drewN ?_ _) | (with_reducible refine Below.drew ?_) | (with_reducible refine below_then ?_ (by with_reducible assumption)) | (with_reducible refine Below.setCell ?_ (by go_size) _)))); obtain ⟨hcB, hfB⟩ := bcell hB; (try have z0 : w.heap.size < w1.heap.size := by omega); (try have z1 : w.heap.size + 1 < w1.heap.size := by omega); (try have z2 : w.heap.size + 2 < w1.heap.size := by omega); (try have z3 : w.heap.size + 3 < w1.heap.size := by omega))
  go_wp2_with fail
  go_region
  all_goals
    go_wp2_with fail
    refine (HA.out _).mono ?_
    rintro e w2 ⟨rfl, hb2⟩
    have hBB := below_then (show Below w.heap.size w _ by (repeat (first | (with_reducible exact Below.refl _ _) | (with_reducible assumption) | (with_reducible refine below_alloc ?_ _) | (with_reducible refine below_drewN ?_ _) | (with_reducible refine Below.drew ?_) | (with_reducible refine below_then ?_ (by with_reducible assumption)) | (with_reducible refine Below.setCell ?_ (by go_size) _)))) hb2
    go_wp2_with fail
    go_returns
    exact ⟨rfl, hBB⟩

theorem pos_Step (d : V3) (m : Int) (k : Nat) (b : Int) (w : World) (hd : d.may) (h0 : 0 ≤ m) (h1 : m < d.n) (hk : k < 3) (hb : 0 ≤ b) (hb9 : b ≤ 1000) :
    Calls Tryz.prog 131 #[.agg #[.int .i64 d.x, .int .i64 d.y, .int .i64 d.z], .int .i64 m, .int .i64 k, .int .i64 b] w (RB w (.tuple #[.int .i64 (d.step m k b), .int .i64 0])) := by
  have HO := Lib.hid (fun W => pos_Of_ok d m W hd h0 h1)
  have HA := fun W => pos_At_ok d (d.stepped m k b) W hd (V3.stepped_inside hd h0 h1 hk b)
  obtain ⟨px, py, pz⟩ := V3.pos_inside hd h0 h1
  obtain ⟨hx, hy, hz⟩ := hd
  match k, hk with
  | 0, _ => exact pos_Step0 d (d.pos m) m b _ w hx px hb hb9 HO (Lib.hid HA)
  | 1, _ => exact pos_Step1 d (d.pos m) m b _ w hy py hb hb9 HO (Lib.hid HA)
  | 2, _ => exact pos_Step2 d (d.pos m) m b _ w hz pz hb hb9 HO (Lib.hid HA)

/-! ### how far -/
/-- How far two midplanes are apart, a round at a time. -/
def V3.farTo (d p q : V3) : Nat → Int
  | 0 => 0
  | k + 1 => d.farTo p q k + ringFar (d.at k) (p.at k) (q.at k)
theorem V3.farTo_all (d p q : V3) : d.farTo p q 3 = d.far p q := by
  show 0 + ringFar d.x p.x q.x + ringFar d.y p.y q.y + ringFar d.z p.z q.z = _
  unfold V3.far
  omega
theorem ringFar_le {n p q : Int} (hn : 1 ≤ n ∧ n ≤ 16) : 0 ≤ ringFar n p q ∧ ringFar n p q ≤ 16 := by
  have h0 := Int.emod_nonneg (q - p + n) (show n ≠ 0 by omega)
  have h1 := Int.emod_lt_of_pos (q - p + n) (show 0 < n by omega)
  unfold ringFar
  split <;> omega
end

section
open Go.RowKit Go.Shelf
end

section
open Go.RowKit Go.Shelf

set_option maxRecDepth 100000 in set_option maxHeartbeats 4000000 in
theorem ref01_N (d : V3) (w : World) (h : d.may) : Calls Tryz.prog 36 #[.agg #[.int .i64 d.x, .int .i64 d.y, .int .i64 d.z]] w (RB w (.int .i64 d.n)) := by
  have hxy := V3.xy_le h
  have hn := V3.n_le h
  unfold V3.n at hn
  go_enter Tryz.func36, Tryz.ntmps36
  go_wp2_with (refine wp_region_quiet_lit (by kernel_rfl) (by kernel_rfl) ?_; (repeat (any_goals (first | go_big_quiet_step (fail) | quiet_step (fail) | (refine wpQuiet_step (fun K hK => ?_); go_simp; split <;> (refine hK _ ?_; clear hK K))))); all_goals (refine wpQuiet_nil ?_; intro _ hw'; obtain ⟨nq, hw''⟩ := hw'; subst hw''))
  go_returns
  exact ⟨rfl, by (repeat (first | (with_reducible exact Below.refl _ _) | (with_reducible assumption) | (with_reducible refine below_alloc ?_ _) | (with_reducible refine below_drewN ?_ _) | (with_reducible refine Below.drew ?_) | (with_reducible refine below_then ?_ (by with_reducible assumption)) | (with_reducible refine Below.setCell ?_ (by go_size) _)))⟩

set_option maxRecDepth 100000 in set_option maxHeartbeats 4000000 in
theorem ref01_Where (d : V3) (m : Int) (w : World) (h : d.may) (h0 : 0 ≤ m) (h1 : m ≤ 1000000) :
    Calls Tryz.prog 116 #[.agg #[.int .i64 d.x, .int .i64 d.y, .int .i64 d.z], .int .i64 m] w (RB w (.agg #[.int .i64 (d.pos m).x, .int .i64 (d.pos m).y, .int .i64 (d.pos m).z])) := by
  unfold V3.may at h
  have e1 : 0 ≤ m / d.x := Int.ediv_nonneg h0 (by omega)
  have e2 : m / d.x ≤ m := Int.ediv_le_self _ h0
  go_enter Tryz.func116, Tryz.ntmps116
  go_wp2_with (refine wp_region_quiet_lit (by kernel_rfl) (by kernel_rfl) ?_; (repeat (any_goals (first | go_big_quiet_step (fail) | quiet_step (fail) | (refine wpQuiet_step (fun K hK => ?_); go_simp; split <;> (refine hK _ ?_; clear hK K))))); all_goals (refine wpQuiet_nil ?_; intro _ hw'; obtain ⟨nq, hw''⟩ := hw'; subst hw''))
  go_region
  all_goals
    go_wp2
    go_returns
    exact ⟨rfl, by (repeat (first | (with_reducible exact Below.refl _ _) | (with_reducible assumption) | (with_reducible refine below_alloc ?_ _) | (with_reducible refine below_drewN ?_ _) | (with_reducible refine Below.drew ?_) | (with_reducible refine below_then ?_ (by with_reducible assumption)) | (with_reducible refine Below.setCell ?_ (by go_size) _)))⟩
end

section
open Go.RowKit Go.Shelf

set_option maxRecDepth 100000 in set_option maxHeartbeats 4000000 in
theorem ref01_Round (n b : Int) (w : World) (hn : 0 ≤ n) (hn9 : n ≤ 100000) (hb : 1 ≤ b) (hb9 : b ≤ 100000) :
    Calls Tryz.prog 160 #[.int .i64 n, .int .i64 b] w fun e w' => e = .returned (.int .i64 (n % b)) ∧ w' = w := by
  have hz : b ≠ 0 := by omega
  have h1 : 0 ≤ n % b := Int.emod_nonneg _ hz
  have h2 : decide (n % b < 0) = false := decide_eq_false (by omega)
  have h3 : n % b < b := Int.emod_lt_of_pos _ (by omega)
  go_enter Tryz.func160, Tryz.ntmps160
  go_wp2_with fail
  go_returns
  exact ⟨rfl, rfl⟩
set_option maxRecDepth 100000 in set_option maxHeartbeats 4000000 in
theorem ref01_RoundM (b : Int) (w : World) (hb : 1 ≤ b) (hb9 : b ≤ 100000) :
    Calls Tryz.prog 160 #[.int .i64 (-1), .int .i64 b] w fun e w' => e = .returned (.int .i64 (b - 1)) ∧ w' = w := by
  have hz : b ≠ 0 := by omega
  by_cases h1 : b = 1
  · subst h1
    go_enter Tryz.func160, Tryz.ntmps160
    go_wp2_with fail
    go_returns
    exact ⟨rfl, rfl⟩
  · have hm : Int.tmod (-1) b = -1 := by rw [Int.neg_tmod, Int.tmod_eq_of_lt (by omega) (by omega)]
    have hq : -1 + b = b - 1 := by omega
    go_enter Tryz.func160, Tryz.ntmps160
    go_wp2_with fail
    go_returns
    exact ⟨by rw [← hq]; rfl, rfl⟩
set_option maxRecDepth 100000 in set_option maxHeartbeats 4000000 in
theorem ref01_Number (d p : V3) (w : World) (hd : d.may) (hp : d.inside p) : Calls Tryz.prog 161 #[.agg #[.int .i64 d.x, .int .i64 d.y, .int .i64 d.z], .agg #[.int .i64 p.x, .int .i64 p.y, .int .i64 p.z]] w (RB w (.int .i64 (d.num p))) := by
  have hr := V3.num_lt hd hp
  have HE := Lib.hid (show d.num p = p.x + d.x * (p.y + d.y * p.z) by rfl)
  unfold V3.may at hd
  obtain ⟨hx, hy, hz⟩ := hp
  have e1 : 0 ≤ d.y * p.z := Int.mul_nonneg (by omega) (by omega)
  have e2 : d.y * p.z ≤ 16 * 16 := Int.mul_le_mul (by omega) (by omega) (by omega) (by omega)
  have e3 : 0 ≤ d.x * (p.y + d.y * p.z) := Int.mul_nonneg (by omega) (by omega)
  have e4 : d.x * (p.y + d.y * p.z) ≤ 16 * 300 := Int.mul_le_mul (by omega) (by omega) (by omega) (by omega)
  clear hr
  go_enter Tryz.func161, Tryz.ntmps161
  go_wp2_with fail
  go_returns
  exact ⟨by rw [HE.out]; rfl, by (repeat (first | (with_reducible exact Below.refl _ _) | (with_reducible assumption) | (with_reducible refine below_alloc ?_ _) | (with_reducible refine below_drewN ?_ _) | (with_reducible refine Below.drew ?_) | (with_reducible refine below_then ?_ (by with_reducible assumption)) | (with_reducible refine Below.setCell ?_ (by go_size) _)))⟩
end

section
open Go.RowKit Go.Shelf
set_option maxRecDepth 100000 in set_option maxHeartbeats 4000000 in
theorem ref01_On0 (d p : V3) (m b q1 q2 r : Int) (w : World)
    (HO : RowKit.Hid (∀ W, Calls Tryz.prog 116 #[.agg #[.int .i64 d.x, .int .i64 d.y, .int .i64 d.z], .int .i64 m] W (RB W (.agg #[.int .i64 p.x, .int .i64 p.y, .int .i64 p.z]))))
    (HA : RowKit.Hid (∀ W, Calls Tryz.prog 161 #[.agg #[.int .i64 d.x, .int .i64 d.y, .int .i64 d.z], .agg #[.int .i64 q2, .int .i64 p.y, .int .i64 p.z]] W (RB W (.int .i64 r))))
    (HR1 : RowKit.Hid (∀ W, Calls Tryz.prog 160 #[.int .i64 b, .int .i64 d.x] W fun e w' => e = .returned (.int .i64 q1) ∧ w' = W))
    (HR2 : RowKit.Hid (∀ W, Calls Tryz.prog 160 #[.int .i64 (IntKind.i64.wrap (p.x + q1)), .int .i64 d.x] W fun e w' => e = .returned (.int .i64 q2) ∧ w' = W)) :
    Calls Tryz.prog 158 #[.agg #[.int .i64 d.x, .int .i64 d.y, .int .i64 d.z], .int .i64 m, .int .i64 0, .int .i64 b] w (RB w (.int .i64 r)) := by
  go_enter Tryz.func158, Tryz.ntmps158
  go_wp2_with fail
  refine (HO.out _).mono ?_
  rintro e w1 ⟨rfl, hb1⟩
  have BD := Lib.hid (((Blk.new w 23 #[.int .i64 d.x, .int .i64 d.y, .int .i64 d.z]).below hb1).dims)
  have HB := Lib.hid (below_then (show Below w.heap.size w (w.alloc (.cells #[.int .i64 d.x, .int .i64 d.y, .int .i64 d.z] 23)) by (repeat (first | (with_reducible exact Below.refl _ _) | (with_reducible assumption) | (with_reducible refine below_alloc ?_ _) | (with_reducible refine below_drewN ?_ _) | (with_reducible refine Below.drew ?_) | (with_reducible refine below_then ?_ (by with_reducible assumption)) | (with_reducible refine Below.setCell ?_ (by go_size) _)))) hb1)
  have hlt := BD.out.lt
  obtain ⟨d0, d1, d2⟩ := BD.out
  clear hb1 HO BD
  go_wp2_with fail
  go_region_with (first | ((with_reducible refine (HR1.out _).mono ?_); rintro e w3 ⟨rfl, hw3⟩; have hw3 := hw3.symm; subst hw3) | ((with_reducible refine (HR2.out _).mono ?_); rintro e w3 ⟨rfl, hw3⟩; have hw3 := hw3.symm; subst hw3))
  all_goals
    go_wp2_with fail
    refine (HA.out _).mono ?_
    rintro e w2 ⟨rfl, hb2⟩
    have hBB := below_then (below_then HB.out (show Below w1.heap.size w1 _ by (repeat (first | (with_reducible exact Below.refl _ _) | (with_reducible assumption) | (with_reducible refine below_alloc ?_ _) | (with_reducible refine below_drewN ?_ _) | (with_reducible refine Below.drew ?_) | (with_reducible refine below_then ?_ (by with_reducible assumption)) | (with_reducible refine Below.setCell ?_ (by go_size) _))))) hb2
    go_wp2_with fail
    go_returns
    exact ⟨rfl, hBB⟩
end
end Go.Proofs.YtofoenlhbmammaaGreat
