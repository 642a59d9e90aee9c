/- POS: some steps on; how far. -/
import Derived.Test.YtpooieghlceefaaWireLaw
namespace Go.Proofs.Ytpooieghlceefaa
open Go.RowKit Go.Shelf

theorem ret_ii' {a b c e : Int} (h1 : a = b) (h2 : c = e) : Ending.returned (.tuple #[.int .i64 a, .int .i64 c]) = .returned (.tuple #[.int .i64 b, .int .i64 e]) := by rw [h1, h2]
theorem mod_step {p b n : Int} : (p + b % n + n) % n = (p + b) % n := by
  rw [Int.add_emod_right, Int.add_emod_emod]
set_option maxRecDepth 100000 in set_option maxHeartbeats 4000000 in
theorem pos_Step0 (d p : V3) (m b r : Int) (w : World) (hn : 1 ≤ d.x ∧ d.x ≤ 16) (px : 0 ≤ p.x ∧ p.x < d.x) (hb : 0 ≤ b) (hb9 : b ≤ 1000)
    (HO : RowKit.Hid (∀ W, Calls Try.prog 36 #[.agg #[.int .i64 d.x, .int .i64 d.y, .int .i64 d.z], .int .i64 m] W (RB W (.tuple #[.agg #[.int .i64 p.x, .int .i64 p.y, .int .i64 p.z], .int .i64 0]))))
    (HA : RowKit.Hid (∀ W, Calls Try.prog 37 #[.agg #[.int .i64 d.x, .int .i64 d.y, .int .i64 d.z], .agg #[.int .i64 ((p.x + b) % d.x), .int .i64 p.y, .int .i64 p.z]] W (RB W (.tuple #[.int .i64 r, .int .i64 0])))) :
    Calls Try.prog 14 #[.agg #[.int .i64 d.x, .int .i64 d.y, .int .i64 d.z], .int .i64 m, .int .i64 0, .int .i64 b] w (RB w (.tuple #[.int .i64 r, .int .i64 0])) := by
  have h2 : 0 ≤ b % d.x ∧ b % d.x < d.x := ⟨Int.emod_nonneg _ (by omega), Int.emod_lt_of_pos _ (by omega)⟩
  have hz : d.x ≠ 0 := by omega
  go_enter Try.func14, Try.ntmps14
  go_wp2_with fail
  refine (HO.out _).mono ?_
  rintro e w1 ⟨rfl, hb1⟩
  (obtain ⟨hc1, hf1⟩ := bcell hb1; have hz1 := hb1.size; (try simp at hz1); have hB : Below w.heap.size w w1 := (by (repeat (first | (with_reducible exact Below.refl _ _) | (with_reducible assumption) | (with_reducible refine below_alloc ?_ _) | (with_reducible refine below_drewN ?_ _) | (with_reducible refine Below.drew ?_) | (with_reducible refine below_then ?_ (by with_reducible assumption)) | (with_reducible refine Below.setCell ?_ (by go_size) _)))); obtain ⟨hcB, hfB⟩ := bcell hB; (try have z0 : w.heap.size < w1.heap.size := by omega); (try have z1 : w.heap.size + 1 < w1.heap.size := by omega); (try have z2 : w.heap.size + 2 < w1.heap.size := by omega); (try have z3 : w.heap.size + 3 < w1.heap.size := by omega))
  go_wp2_with fail
  go_region
  all_goals
    go_wp2_with fail
    refine (HA.out _).mono ?_
    rintro e w2 ⟨rfl, hb2⟩
    have hBB := below_then (show Below w.heap.size w _ by (repeat (first | (with_reducible exact Below.refl _ _) | (with_reducible assumption) | (with_reducible refine below_alloc ?_ _) | (with_reducible refine below_drewN ?_ _) | (with_reducible refine Below.drew ?_) | (with_reducible refine below_then ?_ (by with_reducible assumption)) | (with_reducible refine Below.setCell ?_ (by go_size) _)))) hb2
    go_wp2_with fail
    go_returns
    exact ⟨rfl, hBB⟩
set_option maxRecDepth 100000 in set_option maxHeartbeats 4000000 in
theorem pos_Step1 (d p : V3) (m b r : Int) (w : World) (hn : 1 ≤ d.y ∧ d.y ≤ 16) (px : 0 ≤ p.y ∧ p.y < d.y) (hb : 0 ≤ b) (hb9 : b ≤ 1000)
    (HO : RowKit.Hid (∀ W, Calls Try.prog 36 #[.agg #[.int .i64 d.x, .int .i64 d.y, .int .i64 d.z], .int .i64 m] W (RB W (.tuple #[.agg #[.int .i64 p.x, .int .i64 p.y, .int .i64 p.z], .int .i64 0]))))
    (HA : RowKit.Hid (∀ W, Calls Try.prog 37 #[.agg #[.int .i64 d.x, .int .i64 d.y, .int .i64 d.z], .agg #[.int .i64 p.x, .int .i64 ((p.y + b) % d.y), .int .i64 p.z]] W (RB W (.tuple #[.int .i64 r, .int .i64 0])))) :
    Calls Try.prog 14 #[.agg #[.int .i64 d.x, .int .i64 d.y, .int .i64 d.z], .int .i64 m, .int .i64 1, .int .i64 b] w (RB w (.tuple #[.int .i64 r, .int .i64 0])) := by
  have h2 : 0 ≤ b % d.y ∧ b % d.y < d.y := ⟨Int.emod_nonneg _ (by omega), Int.emod_lt_of_pos _ (by omega)⟩
  have hz : d.y ≠ 0 := by omega
  go_enter Try.func14, Try.ntmps14
  go_wp2_with fail
  refine (HO.out _).mono ?_
  rintro e w1 ⟨rfl, hb1⟩
  (obtain ⟨hc1, hf1⟩ := bcell hb1; have hz1 := hb1.size; (try simp at hz1); have hB : Below w.heap.size w w1 := (by (repeat (first | (with_reducible exact Below.refl _ _) | (with_reducible assumption) | (with_reducible refine below_alloc ?_ _) | (with_reducible refine below_drewN ?_ _) | (with_reducible refine Below.drew ?_) | (with_reducible refine below_then ?_ (by with_reducible assumption)) | (with_reducible refine Below.setCell ?_ (by go_size) _)))); obtain ⟨hcB, hfB⟩ := bcell hB; (try have z0 : w.heap.size < w1.heap.size := by omega); (try have z1 : w.heap.size + 1 < w1.heap.size := by omega); (try have z2 : w.heap.size + 2 < w1.heap.size := by omega); (try have z3 : w.heap.size + 3 < w1.heap.size := by omega))
  go_wp2_with fail
  go_region
  all_goals
    go_wp2_with fail
    refine (HA.out _).mono ?_
    rintro e w2 ⟨rfl, hb2⟩
    have hBB := below_then (show Below w.heap.size w _ by (repeat (first | (with_reducible exact Below.refl _ _) | (with_reducible assumption) | (with_reducible refine below_alloc ?_ _) | (with_reducible refine below_drewN ?_ _) | (with_reducible refine Below.drew ?_) | (with_reducible refine below_then ?_ (by with_reducible assumption)) | (with_reducible refine Below.setCell ?_ (by go_size) _)))) hb2
    go_wp2_with fail
    go_returns
    exact ⟨rfl, hBB⟩
set_option maxRecDepth 100000 in set_option maxHeartbeats 4000000 in
theorem pos_Step2 (d p : V3) (m b r : Int) (w : World) (hn : 1 ≤ d.z ∧ d.z ≤ 16) (px : 0 ≤ p.z ∧ p.z < d.z) (hb : 0 ≤ b) (hb9 : b ≤ 1000)
    (HO : RowKit.Hid (∀ W, Calls Try.prog 36 #[.agg #[.int .i64 d.x, .int .i64 d.y, .int .i64 d.z], .int .i64 m] W (RB W (.tuple #[.agg #[.int .i64 p.x, .int .i64 p.y, .int .i64 p.z], .int .i64 0]))))
    (HA : RowKit.Hid (∀ W, Calls Try.prog 37 #[.agg #[.int .i64 d.x, .int .i64 d.y, .int .i64 d.z], .agg #[.int .i64 p.x, .int .i64 p.y, .int .i64 ((p.z + b) % d.z)]] W (RB W (.tuple #[.int .i64 r, .int .i64 0])))) :
    Calls Try.prog 14 #[.agg #[.int .i64 d.x, .int .i64 d.y, .int .i64 d.z], .int .i64 m, .int .i64 2, .int .i64 b] w (RB w (.tuple #[.int .i64 r, .int .i64 0])) := by
  have h2 : 0 ≤ b % d.z ∧ b % d.z < d.z := ⟨Int.emod_nonneg _ (by omega), Int.emod_lt_of_pos _ (by omega)⟩
  have hz : d.z ≠ 0 := by omega
  go_enter Try.func14, Try.ntmps14
  go_wp2_with fail
  refine (HO.out _).mono ?_
  rintro e w1 ⟨rfl, hb1⟩
  (obtain ⟨hc1, hf1⟩ := bcell hb1; have hz1 := hb1.size; (try simp at hz1); have hB : Below w.heap.size w w1 := (by (repeat (first | (with_reducible exact Below.refl _ _) | (with_reducible assumption) | (with_reducible refine below_alloc ?_ _) | (with_reducible refine below_drewN ?_ _) | (with_reducible refine Below.drew ?_) | (with_reducible refine below_then ?_ (by with_reducible assumption)) | (with_reducible refine Below.setCell ?_ (by go_size) _)))); obtain ⟨hcB, hfB⟩ := bcell hB; (try have z0 : w.heap.size < w1.heap.size := by omega); (try have z1 : w.heap.size + 1 < w1.heap.size := by omega); (try have z2 : w.heap.size + 2 < w1.heap.size := by omega); (try have z3 : w.heap.size + 3 < w1.heap.size := by omega))
  go_wp2_with fail
  go_region
  all_goals
    go_wp2_with fail
    refine (HA.out _).mono ?_
    rintro e w2 ⟨rfl, hb2⟩
    have hBB := below_then (show Below w.heap.size w _ by (repeat (first | (with_reducible exact Below.refl _ _) | (with_reducible assumption) | (with_reducible refine below_alloc ?_ _) | (with_reducible refine below_drewN ?_ _) | (with_reducible refine Below.drew ?_) | (with_reducible refine below_then ?_ (by with_reducible assumption)) | (with_reducible refine Below.setCell ?_ (by go_size) _)))) hb2
    go_wp2_with fail
    go_returns
    exact ⟨rfl, hBB⟩

theorem pos_Step (d : V3) (m : Int) (k : Nat) (b : Int) (w : World) (hd : d.may) (h0 : 0 ≤ m) (h1 : m < d.n) (hk : k < 3) (hb : 0 ≤ b) (hb9 : b ≤ 1000) :
    Calls Try.prog 14 #[.agg #[.int .i64 d.x, .int .i64 d.y, .int .i64 d.z], .int .i64 m, .int .i64 k, .int .i64 b] w (RB w (.tuple #[.int .i64 (d.step m k b), .int .i64 0])) := by
  have HO := Lib.hid (fun W => pos_Of_ok d m W hd h0 h1)
  have HA := fun W => pos_At_ok d (d.stepped m k b) W hd (V3.stepped_inside hd h0 h1 hk b)
  obtain ⟨px, py, pz⟩ := V3.pos_inside hd h0 h1
  obtain ⟨hx, hy, hz⟩ := hd
  match k, hk with
  | 0, _ => exact pos_Step0 d (d.pos m) m b _ w hx px hb hb9 HO (Lib.hid HA)
  | 1, _ => exact pos_Step1 d (d.pos m) m b _ w hy py hb hb9 HO (Lib.hid HA)
  | 2, _ => exact pos_Step2 d (d.pos m) m b _ w hz pz hb hb9 HO (Lib.hid HA)

/-! ### how far -/
set_option maxRecDepth 100000 in set_option maxHeartbeats 4000000 in
theorem pos_least (a b : Int) (w : World) : Calls Try.prog 38 #[.int .i64 a, .int .i64 b] w (RB w (.int .i64 (if b < a then b else a))) := by
  by_cases h : b < a
  · rw [if_pos h]
    go_enter Try.func38, Try.ntmps38
    go_wp2
    go_returns
    exact ⟨rfl, by (repeat (first | (with_reducible exact Below.refl _ _) | (with_reducible assumption) | (with_reducible refine below_alloc ?_ _) | (with_reducible refine below_drewN ?_ _) | (with_reducible refine Below.drew ?_) | (with_reducible refine below_then ?_ (by with_reducible assumption)) | (with_reducible refine Below.setCell ?_ (by go_size) _)))⟩
  · rw [if_neg h]
    have h' : decide (b < a) = false := decide_eq_false h
    go_enter Try.func38, Try.ntmps38
    go_wp2
    go_returns
    exact ⟨rfl, by (repeat (first | (with_reducible exact Below.refl _ _) | (with_reducible assumption) | (with_reducible refine below_alloc ?_ _) | (with_reducible refine below_drewN ?_ _) | (with_reducible refine Below.drew ?_) | (with_reducible refine below_then ?_ (by with_reducible assumption)) | (with_reducible refine Below.setCell ?_ (by go_size) _)))⟩
/-- How far two midplanes are apart, a round at a time. -/
def V3.farTo (d p q : V3) : Nat → Int
  | 0 => 0
  | k + 1 => d.farTo p q k + ringFar (d.at k) (p.at k) (q.at k)
theorem V3.farTo_all (d p q : V3) : d.farTo p q 3 = d.far p q := by
  show 0 + ringFar d.x p.x q.x + ringFar d.y p.y q.y + ringFar d.z p.z q.z = _
  unfold V3.far
  omega
theorem ringFar_le {n p q : Int} (hn : 1 ≤ n ∧ n ≤ 16) : 0 ≤ ringFar n p q ∧ ringFar n p q ≤ 16 := by
  have h0 := Int.emod_nonneg (q - p + n) (show n ≠ 0 by omega)
  have h1 := Int.emod_lt_of_pos (q - p + n) (show 0 < n by omega)
  unfold ringFar
  split <;> omega
set_option maxRecDepth 100000 in set_option maxHeartbeats 4000000 in
theorem pos_Far (d : V3) (a b : Int) (w : World) (hd : d.may) (a0 : 0 ≤ a) (a1 : a < d.n) (b0 : 0 ≤ b) (b1 : b < d.n) :
    Calls Try.prog 15 #[.agg #[.int .i64 d.x, .int .i64 d.y, .int .i64 d.z], .int .i64 a, .int .i64 b] w (RB w (.tuple #[.int .i64 (d.far (d.pos a) (d.pos b)), .int .i64 0])) := by
  have H1 := Lib.hid (fun W => pos_Of_ok d a W hd a0 a1)
  have H2 := Lib.hid (fun W => pos_Of_ok d b W hd b0 b1)
  have HL := Lib.hid (fun x y W => pos_least x y W)
  obtain ⟨px, py, pz⟩ := V3.pos_inside hd a0 a1
  obtain ⟨qx, qy, qz⟩ := V3.pos_inside hd b0 b1
  obtain ⟨hx, hy, hz⟩ := hd
  obtain ⟨p, hp⟩ : ∃ p, p = d.pos a := ⟨_, rfl⟩
  obtain ⟨q, hq⟩ : ∃ q, q = d.pos b := ⟨_, rfl⟩
  rw [← hp] at px py pz H1 ⊢
  rw [← hq] at qx qy qz H2 ⊢
  clear hp hq a0 a1 b0 b1
  go_enter Try.func15, Try.ntmps15
  go_wp2_with fail
  refine (H1.out _).mono ?_
  rintro e w1 ⟨rfl, hb1⟩
  have BD := Lib.hid (((Blk.new w 23 #[.int .i64 d.x, .int .i64 d.y, .int .i64 d.z]).below hb1).dims)
  have HB := Lib.hid (below_then (show Below w.heap.size w (w.alloc (.cells #[.int .i64 d.x, .int .i64 d.y, .int .i64 d.z] 23)) by (repeat (first | (with_reducible exact Below.refl _ _) | (with_reducible assumption) | (with_reducible refine below_alloc ?_ _) | (with_reducible refine below_drewN ?_ _) | (with_reducible refine Below.drew ?_) | (with_reducible refine below_then ?_ (by with_reducible assumption)) | (with_reducible refine Below.setCell ?_ (by go_size) _)))) hb1)
  clear hb1
  have hlt := BD.out.lt
  obtain ⟨d0, d1, d2⟩ := BD.out
  go_wp2_with fail
  clear d0 d1 d2
  refine (H2.out _).mono ?_
  rintro e w2 ⟨rfl, hb1⟩
  have BP := Lib.hid (((Blk.new w1 22 #[.int .i64 p.x, .int .i64 p.y, .int .i64 p.z]).below hb1).dims)
  have hb2 := below_then (show Below w1.heap.size w1 (w1.alloc (.cells #[.int .i64 p.x, .int .i64 p.y, .int .i64 p.z] 22)) by (repeat (first | (with_reducible exact Below.refl _ _) | (with_reducible assumption) | (with_reducible refine below_alloc ?_ _) | (with_reducible refine below_drewN ?_ _) | (with_reducible refine Below.drew ?_) | (with_reducible refine below_then ?_ (by with_reducible assumption)) | (with_reducible refine Below.setCell ?_ (by go_size) _)))) hb1
  have BD := Lib.hid (BD.out.keep hb2 BD.out.lt)
  have HB := Lib.hid (below_then HB.out hb2)
  clear hb1 hb2
  have hlt1 := BP.out.lt
  have hlt2 := BD.out.lt
  obtain ⟨d0, d1, d2⟩ := BD.out
  obtain ⟨p0, p1, p2⟩ := BP.out
  have rx := ringFar_le (p := p.x) (q := q.x) hx
  have ry := ringFar_le (p := p.y) (q := q.y) hy
  have rz := ringFar_le (p := p.z) (q := q.z) hz
  have HLx := Lib.hid (fun W => Calls.rb_eq (HL.out ((q.x - p.x) % d.x) (d.x - (q.x - p.x) % d.x) W) (show _ = Value.int .i64 (ringFar d.x p.x q.x) by unfold ringFar; rw [Int.add_emod_right]))
  have HLy := Lib.hid (fun W => Calls.rb_eq (HL.out ((q.y - p.y) % d.y) (d.y - (q.y - p.y) % d.y) W) (show _ = Value.int .i64 (ringFar d.y p.y q.y) by unfold ringFar; rw [Int.add_emod_right]))
  have HLz := Lib.hid (fun W => Calls.rb_eq (HL.out ((q.z - p.z) % d.z) (d.z - (q.z - p.z) % d.z) W) (show _ = Value.int .i64 (ringFar d.z p.z q.z) by unfold ringFar; rw [Int.add_emod_right]))
  have HFF := Lib.hid (show d.far p q = ringFar d.x p.x q.x + ringFar d.y p.y q.y + ringFar d.z p.z q.z from rfl)
  clear HL
  generalize ringFar d.x p.x q.x = X at *
  generalize ringFar d.y p.y q.y = Y at *
  generalize ringFar d.z p.z q.z = Z at *
  have mx : 0 ≤ (q.x - p.x) % d.x ∧ (q.x - p.x) % d.x < d.x := ⟨Int.emod_nonneg _ (by omega), Int.emod_lt_of_pos _ (by omega)⟩
  have my : 0 ≤ (q.y - p.y) % d.y ∧ (q.y - p.y) % d.y < d.y := ⟨Int.emod_nonneg _ (by omega), Int.emod_lt_of_pos _ (by omega)⟩
  have mz : 0 ≤ (q.z - p.z) % d.z ∧ (q.z - p.z) % d.z < d.z := ⟨Int.emod_nonneg _ (by omega), Int.emod_lt_of_pos _ (by omega)⟩
  have zx : d.x ≠ 0 := by omega
  have zy : d.y ≠ 0 := by omega
  have zz : d.z ≠ 0 := by omega
  obtain ⟨W0, hW0⟩ : ∃ W0, W0 = w2.alloc (.cells #[.int .i64 q.x, .int .i64 q.y, .int .i64 q.z] 22) := ⟨_, rfl⟩
  have hb0 : Below w2.heap.size w2 W0 := by rw [hW0]; (repeat (first | (with_reducible exact Below.refl _ _) | (with_reducible assumption) | (with_reducible refine below_alloc ?_ _) | (with_reducible refine below_drewN ?_ _) | (with_reducible refine Below.drew ?_) | (with_reducible refine below_then ?_ (by with_reducible assumption)) | (with_reducible refine Below.setCell ?_ (by go_size) _)))
  have HP0 := Lib.hid (BP.out.keep hb0 BP.out.lt)
  have HQ0 := Lib.hid (show DimsAt W0 w2.heap.size q by rw [hW0]; exact (Blk.new w2 _ _).dims)
  have HB0 := Lib.hid (below_then HB.out hb0)
  have HW0 := Lib.hid hW0
  clear hW0 hb0
  go_wp2_with fail
  rw [← HW0.out]
  obtain ⟨u0, u1, u2⟩ := HP0.out
  obtain ⟨t0, t1, t2⟩ := HQ0.out
  refine wp_loop_rounds 4 ?_
  go_wp2_with (first | (rw [rounds_succ]) | (refine wp_region_quiet_lit (by kernel_rfl) (by kernel_rfl) ?_; (repeat (any_goals (first | go_big_quiet_step (fail) | quiet_step (fail) | (refine wpQuiet_step (fun K hK => ?_); go_simp; split <;> (refine hK _ ?_; clear hK K))))); all_goals (refine wpQuiet_nil ?_; intro _ hw'; obtain ⟨nq, hw''⟩ := hw'; subst hw'')) | ((with_reducible refine (HLx.out _).mono ?_); rintro e w3 ⟨rfl, hb3⟩; have hb4 := below_then (show Below W0.heap.size W0 _ by (repeat (first | (with_reducible exact Below.refl _ _) | (with_reducible assumption) | (with_reducible refine below_alloc ?_ _) | (with_reducible refine below_drewN ?_ _) | (with_reducible refine Below.drew ?_) | (with_reducible refine below_then ?_ (by with_reducible assumption)) | (with_reducible refine Below.setCell ?_ (by go_size) _)))) hb3; obtain ⟨u0, u1, u2⟩ := HP0.out.keep hb4 HP0.out.lt; obtain ⟨t0, t1, t2⟩ := HQ0.out.keep hb4 HQ0.out.lt) | ((with_reducible refine (HLy.out _).mono ?_); rintro e w3 ⟨rfl, hb3⟩; have hb4 := below_then (show Below W0.heap.size W0 _ by (repeat (first | (with_reducible exact Below.refl _ _) | (with_reducible assumption) | (with_reducible refine below_alloc ?_ _) | (with_reducible refine below_drewN ?_ _) | (with_reducible refine Below.drew ?_) | (with_reducible refine below_then ?_ (by with_reducible assumption)) | (with_reducible refine Below.setCell ?_ (by go_size) _)))) hb3; obtain ⟨u0, u1, u2⟩ := HP0.out.keep hb4 HP0.out.lt; obtain ⟨t0, t1, t2⟩ := HQ0.out.keep hb4 HQ0.out.lt) | ((with_reducible refine (HLz.out _).mono ?_); rintro e w3 ⟨rfl, hb3⟩; have hb4 := below_then (show Below W0.heap.size W0 _ by (repeat (first | (with_reducible exact Below.refl _ _) | (with_reducible assumption) | (with_reducible refine below_alloc ?_ _) | (with_reducible refine below_drewN ?_ _) | (with_reducible refine Below.drew ?_) | (with_reducible refine below_then ?_ (by with_reducible assumption)) | (with_reducible refine Below.setCell ?_ (by go_size) _)))) hb3; obtain ⟨u0, u1, u2⟩ := HP0.out.keep hb4 HP0.out.lt; obtain ⟨t0, t1, t2⟩ := HQ0.out.keep hb4 HQ0.out.lt))
  all_goals
    go_returns
    exact ⟨by rw [HFF.out]; rfl, below_then HB0.out (by (repeat (first | (with_reducible exact Below.refl _ _) | (with_reducible assumption) | (with_reducible refine below_alloc ?_ _) | (with_reducible refine below_drewN ?_ _) | (with_reducible refine Below.drew ?_) | (with_reducible refine below_then ?_ (by with_reducible assumption)) | (with_reducible refine Below.setCell ?_ (by go_size) _))))⟩
end Go.Proofs.Ytpooieghlceefaa
