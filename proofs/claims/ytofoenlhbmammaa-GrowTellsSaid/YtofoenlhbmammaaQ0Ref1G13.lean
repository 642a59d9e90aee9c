/- REF: whether a box has a midplane. -/
import Derived.Test.YtofoenlhbmammaaQ0Ref0G13
set_option linter.unusedVariables false
set_option linter.unusedSimpArgs false
namespace Go.Proofs.Ytofoenlhbmammaa

section
open Go.RowKit Go.Shelf

/-- Has a run a coordinate? -/
def inRun (base size n p : Int) : Nat → Bool := fun k => (List.range k).any (fun j => decide ((base + (j : Int)) % n = p))
theorem inRun_zero (base size n p : Int) : inRun base size n p 0 = false := rfl
theorem inRun_succ (base size n p : Int) (k : Nat) : inRun base size n p (k + 1) = (inRun base size n p k || decide ((base + (k : Int)) % n = p)) := by simp [inRun, List.range_succ]

/-- Has a box a midplane? -/
def Bx.has (d : V3) (b : Bx) (m : Int) : Bool :=
  inRun b.b.x b.s.x d.x (d.pos m).x b.s.x.toNat && inRun b.b.y b.s.y d.y (d.pos m).y b.s.y.toNat && inRun b.b.z b.s.z d.z (d.pos m).z b.s.z.toNat

set_option maxRecDepth 100000 in set_option maxHeartbeats 4000000 in
theorem ref02_In (d : V3) (b : Bx) (m : Int) (w : World) (h : d.may) (hb : b.may d) (h0 : 0 ≤ m) (h1 : m ≤ 1000000) :
    Calls Try.prog 74 #[.agg #[.int .i64 d.x, .int .i64 d.y, .int .i64 d.z], .agg #[.int .i64 b.b.x, .int .i64 b.b.y, .int .i64 b.b.z, .int .i64 b.s.x, .int .i64 b.s.y, .int .i64 b.s.z], .int .i64 m] w (RB w (.bool (b.has d m))) := by
  have HD := Lib.hid h
  unfold V3.may at h
  unfold Bx.may at hb
  go_enter Try.func74, Try.ntmps74
  go_wp2_with fail
  refine (ref01_Where d m _ HD.out h0 h1).mono ?_
  rintro e w1 ⟨rfl, hb1⟩
  (obtain ⟨hc1, hf1⟩ := bcell hb1; have hz1 := hb1.size; (try simp at hz1); have hB : Below w.heap.size w w1 := (by (repeat (first | (with_reducible exact Below.refl _ _) | (with_reducible assumption) | (with_reducible refine below_alloc ?_ _) | (with_reducible refine below_drewN ?_ _) | (with_reducible refine Below.drew ?_) | (with_reducible refine below_then ?_ (by with_reducible assumption)) | (with_reducible refine Below.setCell ?_ (by go_size) _)))); obtain ⟨hcB, hfB⟩ := bcell hB; (try have z0 : w.heap.size < w1.heap.size := by omega); (try have z1 : w.heap.size + 1 < w1.heap.size := by omega); (try have z2 : w.heap.size + 2 < w1.heap.size := by omega); (try have z3 : w.heap.size + 3 < w1.heap.size := by omega))
  obtain ⟨W0, hW0⟩ : ∃ W0 : World, W0 = w1.alloc (.cells #[.int .i64 (d.pos m).x, .int .i64 (d.pos m).y, .int .i64 (d.pos m).z] 22) := ⟨_, rfl⟩
  go_wp2_with fail
  rw [← hW0]
  have q0 : W0.cell? ⟨w1.heap.size, 0, none⟩ = some (.int .i64 (d.pos m).x) := by rw [hW0]; simp
  have q1 : W0.cell? ⟨w1.heap.size, 1, none⟩ = some (.int .i64 (d.pos m).y) := by rw [hW0]; simp
  have q2 : W0.cell? ⟨w1.heap.size, 2, none⟩ = some (.int .i64 (d.pos m).z) := by rw [hW0]; simp
  have hcw : ∀ j o, j < w1.heap.size → W0.cell? ⟨j, o, none⟩ = w1.cell? ⟨j, o, none⟩ := fun j o hj => by rw [hW0]; exact World.cell?_alloc_lt _ _ _ hj
  have d0 : W0.cell? ⟨w.heap.size, 0, none⟩ = some (.int .i64 d.x) := by rw [hcw _ _ z0, hc1 _ _ (by simp [go_sem])]; simp [go_sem]
  have d1 : W0.cell? ⟨w.heap.size, 1, none⟩ = some (.int .i64 d.y) := by rw [hcw _ _ z0, hc1 _ _ (by simp [go_sem])]; simp [go_sem]
  have d2 : W0.cell? ⟨w.heap.size, 2, none⟩ = some (.int .i64 d.z) := by rw [hcw _ _ z0, hc1 _ _ (by simp [go_sem])]; simp [go_sem]
  have b0 : W0.cell? ⟨w.heap.size + 1, 0, none⟩ = some (.int .i64 b.b.x) := by rw [hcw _ _ z1, hc1 _ _ (by simp [go_sem])]; simp [go_sem]
  have b1 : W0.cell? ⟨w.heap.size + 1, 1, none⟩ = some (.int .i64 b.b.y) := by rw [hcw _ _ z1, hc1 _ _ (by simp [go_sem])]; simp [go_sem]
  have b2 : W0.cell? ⟨w.heap.size + 1, 2, none⟩ = some (.int .i64 b.b.z) := by rw [hcw _ _ z1, hc1 _ _ (by simp [go_sem])]; simp [go_sem]
  have b3 : W0.cell? ⟨w.heap.size + 1, 3, none⟩ = some (.int .i64 b.s.x) := by rw [hcw _ _ z1, hc1 _ _ (by simp [go_sem])]; simp [go_sem]
  have b4 : W0.cell? ⟨w.heap.size + 1, 4, none⟩ = some (.int .i64 b.s.y) := by rw [hcw _ _ z1, hc1 _ _ (by simp [go_sem])]; simp [go_sem]
  have b5 : W0.cell? ⟨w.heap.size + 1, 5, none⟩ = some (.int .i64 b.s.z) := by rw [hcw _ _ z1, hc1 _ _ (by simp [go_sem])]; simp [go_sem]
  have hBW : Below w.heap.size w W0 := by rw [hW0]; (repeat (first | (with_reducible exact Below.refl _ _) | (with_reducible assumption) | (with_reducible refine below_alloc ?_ _) | (with_reducible refine below_drewN ?_ _) | (with_reducible refine Below.drew ?_) | (with_reducible refine below_then ?_ (by with_reducible assumption)) | (with_reducible refine Below.setCell ?_ (by go_size) _)))
  clear hcw hW0 hc1 hf1 hcB hfB hb1 hB hz1 z0 z1
  refine wp_loop_rounds 4 ?_
  rw [rounds_succ]
  go_wp2_with fail
  go_loopw [9, 10] (fun v9 v10 wr => ∃ k : Nat, (k : Int) ≤ b.s.x ∧ v10 = .int .i64 k ∧ v9 = .bool (inRun b.b.x b.s.x d.x (d.pos m).x k) ∧ ∃ n, wr = W0.drewN n) (fun _ v10 _ => b.s.x.toNat - (intOf v10).toNat)
  case atStart => exact ⟨0, by omega, rfl, rfl, 0, rfl⟩
  case round =>
    obtain ⟨k, hk, rfl, rfl, nx, rfl⟩ := hrel
    have hs := Lib.hid (inRun_succ b.b.x b.s.x d.x (d.pos m).x k)
    by_cases hlt : (k : Int) < b.s.x
    · go_wp2_with (refine wp_region_quiet_lit (by kernel_rfl) (by kernel_rfl) ?_; (repeat (any_goals (first | go_big_quiet_step (fail) | quiet_step (fail) | (refine wpQuiet_step (fun K hK => ?_); go_simp; split <;> (refine hK _ ?_; clear hK K))))); all_goals (refine wpQuiet_nil ?_; intro _ hw'; obtain ⟨nq, hw''⟩ := hw'; subst hw''))
      all_goals
        go_roundw
        case rel => exact ⟨k + 1, by omega, by go_num, by rw [hs.out]; simp_all, _, rfl⟩
        case measure => simp [intOf]; omega
    · obtain rfl : k = b.s.x.toNat := by omega
      clear hk hlt hs
      cases hr : inRun b.b.x b.s.x d.x (d.pos m).x b.s.x.toNat with
      | false =>
        have hq := Lib.hid (show b.has d m = false by simp [Bx.has, hr])
        go_wp2_with fail
        go_returns
        exact ⟨by rw [hq.out]; rfl, by (repeat (first | (with_reducible exact Below.refl _ _) | (with_reducible assumption) | (with_reducible refine below_alloc ?_ _) | (with_reducible refine below_drewN ?_ _) | (with_reducible refine Below.drew ?_) | (with_reducible refine below_then ?_ (by with_reducible assumption)) | (with_reducible refine Below.setCell ?_ (by go_size) _)))⟩
      | true =>
        have hrx := Lib.hid hr
        go_wp2_with fail
        rw [rounds_succ]
        go_wp2_with fail
        go_loopw [9, 10] (fun v9 v10 wr => ∃ k : Nat, (k : Int) ≤ b.s.y ∧ v10 = .int .i64 k ∧ v9 = .bool (inRun b.b.y b.s.y d.y (d.pos m).y k) ∧ ∃ n, wr = W0.drewN n) (fun _ v10 _ => b.s.y.toNat - (intOf v10).toNat)
        case atStart => exact ⟨0, by omega, rfl, rfl, _, rfl⟩
        case round =>
          obtain ⟨k, hk, rfl, rfl, ny, rfl⟩ := hrel
          have hs := Lib.hid (inRun_succ b.b.y b.s.y d.y (d.pos m).y k)
          by_cases hlt : (k : Int) < b.s.y
          · go_wp2_with (refine wp_region_quiet_lit (by kernel_rfl) (by kernel_rfl) ?_; (repeat (any_goals (first | go_big_quiet_step (fail) | quiet_step (fail) | (refine wpQuiet_step (fun K hK => ?_); go_simp; split <;> (refine hK _ ?_; clear hK K))))); all_goals (refine wpQuiet_nil ?_; intro _ hw'; obtain ⟨nq, hw''⟩ := hw'; subst hw''))
            all_goals
              go_roundw
              case rel => exact ⟨k + 1, by omega, by go_num, by rw [hs.out]; simp_all, _, rfl⟩
              case measure => simp [intOf]; omega
          · obtain rfl : k = b.s.y.toNat := by omega
            clear hk hlt hs
            cases hr : inRun b.b.y b.s.y d.y (d.pos m).y b.s.y.toNat with
            | false =>
              have hq := Lib.hid (show b.has d m = false by simp [Bx.has, hr])
              go_wp2_with fail
              go_returns
              exact ⟨by rw [hq.out]; rfl, by (repeat (first | (with_reducible exact Below.refl _ _) | (with_reducible assumption) | (with_reducible refine below_alloc ?_ _) | (with_reducible refine below_drewN ?_ _) | (with_reducible refine Below.drew ?_) | (with_reducible refine below_then ?_ (by with_reducible assumption)) | (with_reducible refine Below.setCell ?_ (by go_size) _)))⟩
            | true =>
              have hry := Lib.hid hr
              go_wp2_with fail
              rw [rounds_succ]
              go_wp2_with fail
              go_loopw [9, 10] (fun v9 v10 wr => ∃ k : Nat, (k : Int) ≤ b.s.z ∧ v10 = .int .i64 k ∧ v9 = .bool (inRun b.b.z b.s.z d.z (d.pos m).z k) ∧ ∃ n, wr = W0.drewN n) (fun _ v10 _ => b.s.z.toNat - (intOf v10).toNat)
              case atStart => exact ⟨0, by omega, rfl, rfl, _, rfl⟩
              case round =>
                obtain ⟨k, hk, rfl, rfl, nz, rfl⟩ := hrel
                have hs := Lib.hid (inRun_succ b.b.z b.s.z d.z (d.pos m).z k)
                by_cases hlt : (k : Int) < b.s.z
                · go_wp2_with (refine wp_region_quiet_lit (by kernel_rfl) (by kernel_rfl) ?_; (repeat (any_goals (first | go_big_quiet_step (fail) | quiet_step (fail) | (refine wpQuiet_step (fun K hK => ?_); go_simp; split <;> (refine hK _ ?_; clear hK K))))); all_goals (refine wpQuiet_nil ?_; intro _ hw'; obtain ⟨nq, hw''⟩ := hw'; subst hw''))
                  all_goals
                    go_roundw
                    case rel => exact ⟨k + 1, by omega, by go_num, by rw [hs.out]; simp_all, _, rfl⟩
                    case measure => simp [intOf]; omega
                · obtain rfl : k = b.s.z.toNat := by omega
                  clear hk hlt hs
                  cases hr : inRun b.b.z b.s.z d.z (d.pos m).z b.s.z.toNat with
                  | false =>
                    have hq := Lib.hid (show b.has d m = false by simp [Bx.has, hr])
                    go_wp2_with fail
                    go_returns
                    exact ⟨by rw [hq.out]; rfl, by (repeat (first | (with_reducible exact Below.refl _ _) | (with_reducible assumption) | (with_reducible refine below_alloc ?_ _) | (with_reducible refine below_drewN ?_ _) | (with_reducible refine Below.drew ?_) | (with_reducible refine below_then ?_ (by with_reducible assumption)) | (with_reducible refine Below.setCell ?_ (by go_size) _)))⟩
                  | true =>
                    have hrz := Lib.hid hr
                    go_wp2_with fail
                    rw [rounds_succ]
                    go_wp2_with fail
                    go_returns
                    exact ⟨by rw [show b.has d m = true by simp [Bx.has, hrx.out, hry.out, hrz.out]]; rfl, by (repeat (first | (with_reducible exact Below.refl _ _) | (with_reducible assumption) | (with_reducible refine below_alloc ?_ _) | (with_reducible refine below_drewN ?_ _) | (with_reducible refine Below.drew ?_) | (with_reducible refine below_then ?_ (by with_reducible assumption)) | (with_reducible refine Below.setCell ?_ (by go_size) _)))⟩
end
end Go.Proofs.Ytofoenlhbmammaa
