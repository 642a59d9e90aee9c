/- REF: whether a box has a midplane. -/
import Derived.Test.YtofoenlhbmammaaGreatProg
import Derived.Test.YtofoenlhbmammaaGreatQ1F11
set_option linter.unusedVariables false
set_option linter.unusedSimpArgs false
namespace Go.Proofs.YtofoenlhbmammaaGreat

section
open Go.RowKit Go.Shelf

def V3.n (d : V3) : Int := d.x * d.y * d.z

/-- How many midplanes, or none; the error of dimensions. -/
def V3.many (d : V3) : Int := if d.may then d.n else 0
def V3.err (d : V3) : Int := okIf d.may 8
theorem V3.many_ok {d : V3} (h : d.may) : d.many = d.n := if_pos h
theorem V3.many_no {d : V3} (h : ¬ d.may) : d.many = 0 := if_neg h
theorem V3.err_ok {d : V3} (h : d.may) : d.err = 0 := okIf_yes h
theorem V3.err_no {d : V3} (h : ¬ d.may) : d.err = 8 := okIf_no h

/-- The coordinates of a midplane. -/
def V3.pos (d : V3) (m : Int) : V3 := ⟨m % d.x, m / d.x % d.y, m / d.x / d.y⟩

theorem mul_le_of {a b A B : Int} (h0 : 0 ≤ a) (h1 : a ≤ A) (h2 : 0 ≤ b) (h3 : b ≤ B) : 0 ≤ a * b ∧ a * b ≤ A * B :=
  ⟨Int.mul_nonneg h0 h2, Int.mul_le_mul h1 h3 h2 (Int.le_trans h0 h1)⟩

theorem V3.xy_le {d : V3} (h : d.may) : 1 ≤ d.x * d.y ∧ d.x * d.y ≤ 256 := by
  unfold V3.may at h
  have h1 := (mul_le_of (a := d.x - 1) (A := 15) (b := d.y - 1) (B := 15) (by omega) (by omega) (by omega) (by omega)).1
  have h2 := (mul_le_of (a := d.x) (A := 16) (b := d.y) (B := 16) (by omega) (by omega) (by omega) (by omega)).2
  have e : (d.x - 1) * (d.y - 1) = d.x * d.y - d.x - d.y + 1 := by rw [Int.sub_mul, Int.mul_sub, Int.one_mul, Int.mul_one]; omega
  omega
theorem V3.n_le {d : V3} (h : d.may) : 1 ≤ d.n ∧ d.n ≤ 4096 := by
  have hxy := V3.xy_le h
  unfold V3.may at h
  unfold V3.n
  generalize d.x * d.y = p at *
  have h1 := (mul_le_of (a := p - 1) (A := 255) (b := d.z - 1) (B := 15) (by omega) (by omega) (by omega) (by omega)).1
  have h2 := (mul_le_of (a := p) (A := 256) (b := d.z) (B := 16) (by omega) (by omega) (by omega) (by omega)).2
  have e : (p - 1) * (d.z - 1) = p * d.z - p - d.z + 1 := by rw [Int.sub_mul, Int.mul_sub, Int.one_mul, Int.mul_one]; omega
  omega
/-- Coordinates that may be. -/
def V3.inside (d p : V3) : Prop := (0 ≤ p.x ∧ p.x < d.x) ∧ (0 ≤ p.y ∧ p.y < d.y) ∧ (0 ≤ p.z ∧ p.z < d.z)
/-- The midplane at coordinates. -/
def V3.num (d p : V3) : Int := p.x + d.x * (p.y + d.y * p.z)

theorem V3.pos_inside {d : V3} {m : Int} (h : d.may) (h0 : 0 ≤ m) (h1 : m < d.n) : d.inside (d.pos m) := by
  unfold V3.may at h
  unfold V3.n at h1
  refine ⟨⟨Int.emod_nonneg _ (by omega), Int.emod_lt_of_pos _ (by omega)⟩, ⟨Int.emod_nonneg _ (by omega), Int.emod_lt_of_pos _ (by omega)⟩, ?_, ?_⟩
  · exact Int.ediv_nonneg (Int.ediv_nonneg h0 (by omega)) (by omega)
  · simp only [V3.pos]
    refine Int.ediv_lt_of_lt_mul (by omega) (Int.ediv_lt_of_lt_mul (by omega) ?_)
    rw [show d.z * d.y * d.x = d.x * d.y * d.z by rw [Int.mul_comm d.z d.y, Int.mul_assoc, Int.mul_comm (d.y) , Int.mul_comm (d.z * d.x), Int.mul_comm d.z d.x, ← Int.mul_assoc, Int.mul_comm d.y d.x]]
    exact h1

theorem V3.pos_num {d p : V3} (h : d.may) (hp : d.inside p) : d.pos (d.num p) = p := by
  unfold V3.may at h
  obtain ⟨⟨x0, x1⟩, ⟨y0, y1⟩, z0, z1⟩ := hp
  have e1 : (p.x + d.x * (p.y + d.y * p.z)) % d.x = p.x := by rw [Int.add_mul_emod_self_left, Int.emod_eq_of_lt x0 x1]
  have e2 : (p.x + d.x * (p.y + d.y * p.z)) / d.x = p.y + d.y * p.z := by rw [Int.add_mul_ediv_left _ _ (by omega), Int.ediv_eq_zero_of_lt x0 x1, Int.zero_add]
  have e3 : (p.y + d.y * p.z) % d.y = p.y := by rw [Int.add_mul_emod_self_left, Int.emod_eq_of_lt y0 y1]
  have e4 : (p.y + d.y * p.z) / d.y = p.z := by rw [Int.add_mul_ediv_left _ _ (by omega), Int.ediv_eq_zero_of_lt y0 y1, Int.zero_add]
  simp only [V3.pos, V3.num, e1, e2, e3, e4]

theorem V3.num_lt {d p : V3} (h : d.may) (hp : d.inside p) : 0 ≤ d.num p ∧ d.num p < d.n := by
  unfold V3.may at h
  obtain ⟨⟨x0, x1⟩, ⟨y0, y1⟩, z0, z1⟩ := hp
  unfold V3.num V3.n
  have a1 : 0 ≤ d.y * p.z := Int.mul_nonneg (by omega) z0
  have a2 : d.y * p.z ≤ d.y * (d.z - 1) := Int.mul_le_mul_of_nonneg_left (by omega) (by omega)
  have a3 : d.y * (d.z - 1) = d.y * d.z - d.y := by rw [Int.mul_sub, Int.mul_one]
  generalize hq : p.y + d.y * p.z = q at *
  generalize hr : d.y * d.z = r at *
  have b0 : 0 ≤ q ∧ q ≤ r - 1 := by omega
  have b1 : 0 ≤ d.x * q := Int.mul_nonneg (by omega) b0.1
  have b2 : d.x * q ≤ d.x * (r - 1) := Int.mul_le_mul_of_nonneg_left b0.2 (by omega)
  have b3 : d.x * (r - 1) = d.x * r - d.x := by rw [Int.mul_sub, Int.mul_one]
  have b4 : d.x * d.y * d.z = d.x * r := by rw [Int.mul_assoc, hr]
  omega
end

section
open Go.RowKit Go.Shelf

set_option maxRecDepth 100000 in set_option maxHeartbeats 4000000 in
theorem ref01_N (d : V3) (w : World) (h : d.may) : Calls Tryz.prog 36 #[.agg #[.int .i64 d.x, .int .i64 d.y, .int .i64 d.z]] w (RB w (.int .i64 d.n)) := by
  have hxy := V3.xy_le h
  have hn := V3.n_le h
  unfold V3.n at hn
  go_enter Tryz.func36, Tryz.ntmps36
  go_wp2_with (refine wp_region_quiet_lit (by kernel_rfl) (by kernel_rfl) ?_; (repeat (any_goals (first | go_big_quiet_step (fail) | quiet_step (fail) | (refine wpQuiet_step (fun K hK => ?_); go_simp; split <;> (refine hK _ ?_; clear hK K))))); all_goals (refine wpQuiet_nil ?_; intro _ hw'; obtain ⟨nq, hw''⟩ := hw'; subst hw''))
  go_returns
  exact ⟨rfl, by (repeat (first | (with_reducible exact Below.refl _ _) | (with_reducible assumption) | (with_reducible refine below_alloc ?_ _) | (with_reducible refine below_drewN ?_ _) | (with_reducible refine Below.drew ?_) | (with_reducible refine below_then ?_ (by with_reducible assumption)) | (with_reducible refine Below.setCell ?_ (by go_size) _)))⟩

set_option maxRecDepth 100000 in set_option maxHeartbeats 4000000 in
theorem ref01_Where (d : V3) (m : Int) (w : World) (h : d.may) (h0 : 0 ≤ m) (h1 : m ≤ 1000000) :
    Calls Tryz.prog 116 #[.agg #[.int .i64 d.x, .int .i64 d.y, .int .i64 d.z], .int .i64 m] w (RB w (.agg #[.int .i64 (d.pos m).x, .int .i64 (d.pos m).y, .int .i64 (d.pos m).z])) := by
  unfold V3.may at h
  have e1 : 0 ≤ m / d.x := Int.ediv_nonneg h0 (by omega)
  have e2 : m / d.x ≤ m := Int.ediv_le_self _ h0
  go_enter Tryz.func116, Tryz.ntmps116
  go_wp2_with (refine wp_region_quiet_lit (by kernel_rfl) (by kernel_rfl) ?_; (repeat (any_goals (first | go_big_quiet_step (fail) | quiet_step (fail) | (refine wpQuiet_step (fun K hK => ?_); go_simp; split <;> (refine hK _ ?_; clear hK K))))); all_goals (refine wpQuiet_nil ?_; intro _ hw'; obtain ⟨nq, hw''⟩ := hw'; subst hw''))
  go_region
  all_goals
    go_wp2
    go_returns
    exact ⟨rfl, by (repeat (first | (with_reducible exact Below.refl _ _) | (with_reducible assumption) | (with_reducible refine below_alloc ?_ _) | (with_reducible refine below_drewN ?_ _) | (with_reducible refine Below.drew ?_) | (with_reducible refine below_then ?_ (by with_reducible assumption)) | (with_reducible refine Below.setCell ?_ (by go_size) _)))⟩
end

section
open Go.RowKit Go.Shelf

/-- Has a run a coordinate? -/
def inRun (base size n p : Int) : Nat → Bool := fun k => (List.range k).any (fun j => decide ((base + (j : Int)) % n = p))
theorem inRun_zero (base size n p : Int) : inRun base size n p 0 = false := rfl
theorem inRun_succ (base size n p : Int) (k : Nat) : inRun base size n p (k + 1) = (inRun base size n p k || decide ((base + (k : Int)) % n = p)) := by simp [inRun, List.range_succ]

/-- Has a box a midplane? -/
def Bx.has (d : V3) (b : Bx) (m : Int) : Bool :=
  inRun b.b.x b.s.x d.x (d.pos m).x b.s.x.toNat && inRun b.b.y b.s.y d.y (d.pos m).y b.s.y.toNat && inRun b.b.z b.s.z d.z (d.pos m).z b.s.z.toNat

set_option maxRecDepth 100000 in set_option maxHeartbeats 4000000 in
theorem ref02_In (d : V3) (b : Bx) (m : Int) (w : World) (h : d.may) (hb : b.may d) (h0 : 0 ≤ m) (h1 : m ≤ 1000000) :
    Calls Tryz.prog 115 #[.agg #[.int .i64 d.x, .int .i64 d.y, .int .i64 d.z], .agg #[.int .i64 b.b.x, .int .i64 b.b.y, .int .i64 b.b.z, .int .i64 b.s.x, .int .i64 b.s.y, .int .i64 b.s.z], .int .i64 m] w (RB w (.bool (b.has d m))) := by
  have HD := Lib.hid h
  unfold V3.may at h
  unfold Bx.may at hb
  go_enter Tryz.func115, Tryz.ntmps115
  go_wp2_with fail
  refine (ref01_Where d m _ HD.out h0 h1).mono ?_
  rintro e w1 ⟨rfl, hb1⟩
  (obtain ⟨hc1, hf1⟩ := bcell hb1; have hz1 := hb1.size; (try simp at hz1); have hB : Below w.heap.size w w1 := (by (repeat (first | (with_reducible exact Below.refl _ _) | (with_reducible assumption) | (with_reducible refine below_alloc ?_ _) | (with_reducible refine below_drewN ?_ _) | (with_reducible refine Below.drew ?_) | (with_reducible refine below_then ?_ (by with_reducible assumption)) | (with_reducible refine Below.setCell ?_ (by go_size) _)))); obtain ⟨hcB, hfB⟩ := bcell hB; (try have z0 : w.heap.size < w1.heap.size := by omega); (try have z1 : w.heap.size + 1 < w1.heap.size := by omega); (try have z2 : w.heap.size + 2 < w1.heap.size := by omega); (try have z3 : w.heap.size + 3 < w1.heap.size := by omega))
  obtain ⟨W0, hW0⟩ : ∃ W0 : World, W0 = w1.alloc (.cells #[.int .i64 (d.pos m).x, .int .i64 (d.pos m).y, .int .i64 (d.pos m).z] 22) := ⟨_, rfl⟩
  go_wp2_with fail
  rw [← hW0]
  have q0 : W0.cell? ⟨w1.heap.size, 0, none⟩ = some (.int .i64 (d.pos m).x) := by rw [hW0]; simp
  have q1 : W0.cell? ⟨w1.heap.size, 1, none⟩ = some (.int .i64 (d.pos m).y) := by rw [hW0]; simp
  have q2 : W0.cell? ⟨w1.heap.size, 2, none⟩ = some (.int .i64 (d.pos m).z) := by rw [hW0]; simp
  have hcw : ∀ j o, j < w1.heap.size → W0.cell? ⟨j, o, none⟩ = w1.cell? ⟨j, o, none⟩ := fun j o hj => by rw [hW0]; exact World.cell?_alloc_lt _ _ _ hj
  have d0 : W0.cell? ⟨w.heap.size, 0, none⟩ = some (.int .i64 d.x) := by rw [hcw _ _ z0, hc1 _ _ (by simp [go_sem])]; simp [go_sem]
  have d1 : W0.cell? ⟨w.heap.size, 1, none⟩ = some (.int .i64 d.y) := by rw [hcw _ _ z0, hc1 _ _ (by simp [go_sem])]; simp [go_sem]
  have d2 : W0.cell? ⟨w.heap.size, 2, none⟩ = some (.int .i64 d.z) := by rw [hcw _ _ z0, hc1 _ _ (by simp [go_sem])]; simp [go_sem]
  have b0 : W0.cell? ⟨w.heap.size + 1, 0, none⟩ = some (.int .i64 b.b.x) := by rw [hcw _ _ z1, hc1 _ _ (by simp [go_sem])]; simp [go_sem]
  have b1 : W0.cell? ⟨w.heap.size + 1, 1, none⟩ = some (.int .i64 b.b.y) := by rw [hcw _ _ z1, hc1 _ _ (by simp [go_sem])]; simp [go_sem]
  have b2 : W0.cell? ⟨w.heap.size + 1, 2, none⟩ = some (.int .i64 b.b.z) := by rw [hcw _ _ z1, hc1 _ _ (by simp [go_sem])]; simp [go_sem]
  have b3 : W0.cell? ⟨w.heap.size + 1, 3, none⟩ = some (.int .i64 b.s.x) := by rw [hcw _ _ z1, hc1 _ _ (by simp [go_sem])]; simp [go_sem]
  have b4 : W0.cell? ⟨w.heap.size + 1, 4, none⟩ = some (.int .i64 b.s.y) := by rw [hcw _ _ z1, hc1 _ _ (by simp [go_sem])]; simp [go_sem]
  have b5 : W0.cell? ⟨w.heap.size + 1, 5, none⟩ = some (.int .i64 b.s.z) := by rw [hcw _ _ z1, hc1 _ _ (by simp [go_sem])]; simp [go_sem]
  have hBW : Below w.heap.size w W0 := by rw [hW0]; (repeat (first | (with_reducible exact Below.refl _ _) | (with_reducible assumption) | (with_reducible refine below_alloc ?_ _) | (with_reducible refine below_drewN ?_ _) | (with_reducible refine Below.drew ?_) | (with_reducible refine below_then ?_ (by with_reducible assumption)) | (with_reducible refine Below.setCell ?_ (by go_size) _)))
  clear hcw hW0 hc1 hf1 hcB hfB hb1 hB hz1 z0 z1
  refine wp_loop_rounds 4 ?_
  rw [rounds_succ]
  go_wp2_with fail
  go_loopw [9, 10] (fun v9 v10 wr => ∃ k : Nat, (k : Int) ≤ b.s.x ∧ v10 = .int .i64 k ∧ v9 = .bool (inRun b.b.x b.s.x d.x (d.pos m).x k) ∧ ∃ n, wr = W0.drewN n) (fun _ v10 _ => b.s.x.toNat - (intOf v10).toNat)
  case atStart => exact ⟨0, by omega, rfl, rfl, 0, rfl⟩
  case round =>
    obtain ⟨k, hk, rfl, rfl, nx, rfl⟩ := hrel
    have hs := Lib.hid (inRun_succ b.b.x b.s.x d.x (d.pos m).x k)
    by_cases hlt : (k : Int) < b.s.x
    · go_wp2_with (refine wp_region_quiet_lit (by kernel_rfl) (by kernel_rfl) ?_; (repeat (any_goals (first | go_big_quiet_step (fail) | quiet_step (fail) | (refine wpQuiet_step (fun K hK => ?_); go_simp; split <;> (refine hK _ ?_; clear hK K))))); all_goals (refine wpQuiet_nil ?_; intro _ hw'; obtain ⟨nq, hw''⟩ := hw'; subst hw''))
      all_goals
        go_roundw
        case rel => exact ⟨k + 1, by omega, by go_num, by rw [hs.out]; simp_all, _, rfl⟩
        case measure => simp [intOf]; omega
    · obtain rfl : k = b.s.x.toNat := by omega
      clear hk hlt hs
      cases hr : inRun b.b.x b.s.x d.x (d.pos m).x b.s.x.toNat with
      | false =>
        have hq := Lib.hid (show b.has d m = false by simp [Bx.has, hr])
        go_wp2_with fail
        go_returns
        exact ⟨by rw [hq.out]; rfl, by (repeat (first | (with_reducible exact Below.refl _ _) | (with_reducible assumption) | (with_reducible refine below_alloc ?_ _) | (with_reducible refine below_drewN ?_ _) | (with_reducible refine Below.drew ?_) | (with_reducible refine below_then ?_ (by with_reducible assumption)) | (with_reducible refine Below.setCell ?_ (by go_size) _)))⟩
      | true =>
        have hrx := Lib.hid hr
        go_wp2_with fail
        rw [rounds_succ]
        go_wp2_with fail
        go_loopw [9, 10] (fun v9 v10 wr => ∃ k : Nat, (k : Int) ≤ b.s.y ∧ v10 = .int .i64 k ∧ v9 = .bool (inRun b.b.y b.s.y d.y (d.pos m).y k) ∧ ∃ n, wr = W0.drewN n) (fun _ v10 _ => b.s.y.toNat - (intOf v10).toNat)
        case atStart => exact ⟨0, by omega, rfl, rfl, _, rfl⟩
        case round =>
          obtain ⟨k, hk, rfl, rfl, ny, rfl⟩ := hrel
          have hs := Lib.hid (inRun_succ b.b.y b.s.y d.y (d.pos m).y k)
          by_cases hlt : (k : Int) < b.s.y
          · go_wp2_with (refine wp_region_quiet_lit (by kernel_rfl) (by kernel_rfl) ?_; (repeat (any_goals (first | go_big_quiet_step (fail) | quiet_step (fail) | (refine wpQuiet_step (fun K hK => ?_); go_simp; split <;> (refine hK _ ?_; clear hK K))))); all_goals (refine wpQuiet_nil ?_; intro _ hw'; obtain ⟨nq, hw''⟩ := hw'; subst hw''))
            all_goals
              go_roundw
              case rel => exact ⟨k + 1, by omega, by go_num, by rw [hs.out]; simp_all, _, rfl⟩
              case measure => simp [intOf]; omega
          · obtain rfl : k = b.s.y.toNat := by omega
            clear hk hlt hs
            cases hr : inRun b.b.y b.s.y d.y (d.pos m).y b.s.y.toNat with
            | false =>
              have hq := Lib.hid (show b.has d m = false by simp [Bx.has, hr])
              go_wp2_with fail
              go_returns
              exact ⟨by rw [hq.out]; rfl, by (repeat (first | (with_reducible exact Below.refl _ _) | (with_reducible assumption) | (with_reducible refine below_alloc ?_ _) | (with_reducible refine below_drewN ?_ _) | (with_reducible refine Below.drew ?_) | (with_reducible refine below_then ?_ (by with_reducible assumption)) | (with_reducible refine Below.setCell ?_ (by go_size) _)))⟩
            | true =>
              have hry := Lib.hid hr
              go_wp2_with fail
              rw [rounds_succ]
              go_wp2_with fail
              go_loopw [9, 10] (fun v9 v10 wr => ∃ k : Nat, (k : Int) ≤ b.s.z ∧ v10 = .int .i64 k ∧ v9 = .bool (inRun b.b.z b.s.z d.z (d.pos m).z k) ∧ ∃ n, wr = W0.drewN n) (fun _ v10 _ => b.s.z.toNat - (intOf v10).toNat)
              case atStart => exact ⟨0, by omega, rfl, rfl, _, rfl⟩
              case round =>
                obtain ⟨k, hk, rfl, rfl, nz, rfl⟩ := hrel
                have hs := Lib.hid (inRun_succ b.b.z b.s.z d.z (d.pos m).z k)
                by_cases hlt : (k : Int) < b.s.z
                · go_wp2_with (refine wp_region_quiet_lit (by kernel_rfl) (by kernel_rfl) ?_; (repeat (any_goals (first | go_big_quiet_step (fail) | quiet_step (fail) | (refine wpQuiet_step (fun K hK => ?_); go_simp; split <;> (refine hK _ ?_; clear hK K))))); all_goals (refine wpQuiet_nil ?_; intro _ hw'; obtain ⟨nq, hw''⟩ := hw'; subst hw''))
                  all_goals
                    go_roundw
                    case rel => exact ⟨k + 1, by omega, by go_num, by rw [hs.out]; simp_all, _, rfl⟩
                    case measure => simp [intOf]; omega
                · obtain rfl : k = b.s.z.toNat := by omega
                  clear hk hlt hs
                  cases hr : inRun b.b.z b.s.z d.z (d.pos m).z b.s.z.toNat with
                  | false =>
                    have hq := Lib.hid (show b.has d m = false by simp [Bx.has, hr])
                    go_wp2_with fail
                    go_returns
                    exact ⟨by rw [hq.out]; rfl, by (repeat (first | (with_reducible exact Below.refl _ _) | (with_reducible assumption) | (with_reducible refine below_alloc ?_ _) | (with_reducible refine below_drewN ?_ _) | (with_reducible refine Below.drew ?_) | (with_reducible refine below_then ?_ (by with_reducible assumption)) | (with_reducible refine Below.setCell ?_ (by go_size) _)))⟩
                  | true =>
                    have hrz := Lib.hid hr
                    go_wp2_with fail
                    rw [rounds_succ]
                    go_wp2_with fail
                    go_returns
                    exact ⟨by rw [show b.has d m = true by simp [Bx.has, hrx.out, hry.out, hrz.out]]; rfl, by (repeat (first | (with_reducible exact Below.refl _ _) | (with_reducible assumption) | (with_reducible refine below_alloc ?_ _) | (with_reducible refine below_drewN ?_ _) | (with_reducible refine Below.drew ?_) | (with_reducible refine below_then ?_ (by with_reducible assumption)) | (with_reducible refine Below.setCell ?_ (by go_size) _)))⟩
end
end Go.Proofs.YtofoenlhbmammaaGreat
