/- BOX: the canonical box; how many midplanes. -/
import Derived.Test.YtofoenlhbmammaaQ0Box1G13
import Derived.Test.YtofoenlhbmammaaQ0V3G13
import Derived.Test.YtofoenlhbmammaaQ0BlkG13
set_option linter.unusedVariables false
set_option linter.unusedSimpArgs false
namespace Go.Proofs.Ytofoenlhbmammaa

section
open Go.RowKit Go.Shelf

/-- A box as it is told. -/
def Bx.can (d : V3) (b : Bx) : Bx := ⟨⟨bif b.s.x == d.x then 0 else b.b.x, bif b.s.y == d.y then 0 else b.b.y, bif b.s.z == d.z then 0 else b.b.z⟩, b.s⟩
def Bx.zero : Bx := ⟨⟨0, 0, 0⟩, ⟨0, 0, 0⟩⟩
def canV (d : V3) (b : Bx) : Bx := if chk d b = 0 then b.can d else Bx.zero
def Bx.vol (b : Bx) : Int := b.s.x * b.s.y * b.s.z
def volV (d : V3) (b : Bx) : Int := if chk d b = 0 then b.vol else 0

theorem chk_may {d : V3} {b : Bx} (h : chk d b = 0) : d.may ∧ b.may d := by
  unfold chk okIf at h
  by_cases hd : d.may
  · rw [if_pos hd] at h
    by_cases hb : b.may d
    · exact ⟨hd, hb⟩
    · rw [if_neg hb] at h; omega
  · rw [if_neg hd] at h; omega
theorem chk_of {d : V3} {b : Bx} (hd : d.may) (hb : b.may d) : chk d b = 0 := by rw [chk, if_pos hd, okIf_yes hb]

set_option maxRecDepth 100000 in set_option maxHeartbeats 4000000 in
theorem box_Canon_ok (d : V3) (b : Bx) (w : World) (h : chk d b = 0) : Calls Try.prog 13 #[.agg #[.int .i64 d.x, .int .i64 d.y, .int .i64 d.z], .agg #[.int .i64 b.b.x, .int .i64 b.b.y, .int .i64 b.b.z, .int .i64 b.s.x, .int .i64 b.s.y, .int .i64 b.s.z]] w (RB w (.tuple #[.agg #[.int .i64 (b.can d).b.x, .int .i64 (b.can d).b.y, .int .i64 (b.can d).b.z, .int .i64 (b.can d).s.x, .int .i64 (b.can d).s.y, .int .i64 (b.can d).s.z], .int .i64 0])) := by
  have HC := Lib.hid (fun W => by have := box_Check d b W; rw [h] at this; exact this)
  clear h
  cases g0 : b.s.x == d.x <;> cases g1 : b.s.y == d.y <;> cases g2 : b.s.z == d.z
  all_goals
    have hq := Lib.hid (show b.can d = _ by simp only [Bx.can, g0, g1, g2, cond_true, cond_false]; rfl)
    rw [hq.out]
    go_enter Try.func13, Try.ntmps13
    go_wp2_with fail
    refine (HC.out _).mono ?_
    rintro e w1 ⟨rfl, hb1⟩
    (obtain ⟨hc1, hf1⟩ := bcell hb1; have hz1 := hb1.size; (try simp at hz1); have hB : Below w.heap.size w w1 := (by (repeat (first | (with_reducible exact Below.refl _ _) | (with_reducible assumption) | (with_reducible refine below_alloc ?_ _) | (with_reducible refine below_drewN ?_ _) | (with_reducible refine Below.drew ?_) | (with_reducible refine below_then ?_ (by with_reducible assumption)) | (with_reducible refine Below.setCell ?_ (by go_size) _)))); obtain ⟨hcB, hfB⟩ := bcell hB; (try have z0 : w.heap.size < w1.heap.size := by omega); (try have z1 : w.heap.size + 1 < w1.heap.size := by omega); (try have z2 : w.heap.size + 2 < w1.heap.size := by omega); (try have z3 : w.heap.size + 3 < w1.heap.size := by omega))
    go_wp2_with fail
    refine wp_loop_rounds 4 ?_
    go_wp2_with (rw [rounds_succ])
    refine bodyPost_ret ?_ rfl ⟨rfl, ?_⟩
    · simp [results, Try.f13, go_sem, hc1, hf1]
    · (repeat (first | (with_reducible exact Below.refl _ _) | (with_reducible assumption) | (with_reducible refine below_alloc ?_ _) | (with_reducible refine below_drewN ?_ _) | (with_reducible refine Below.drew ?_) | (with_reducible refine below_then ?_ (by with_reducible assumption)) | (with_reducible refine Below.setCell ?_ (by go_size) _)))

set_option maxRecDepth 100000 in set_option maxHeartbeats 4000000 in
theorem box_Canon_no (d : V3) (b : Bx) (w : World) (h : ¬ chk d b = 0) : Calls Try.prog 13 #[.agg #[.int .i64 d.x, .int .i64 d.y, .int .i64 d.z], .agg #[.int .i64 b.b.x, .int .i64 b.b.y, .int .i64 b.b.z, .int .i64 b.s.x, .int .i64 b.s.y, .int .i64 b.s.z]] w (RB w (.tuple #[.agg #[.int .i64 0, .int .i64 0, .int .i64 0, .int .i64 0, .int .i64 0, .int .i64 0], .int .i64 (chk d b)])) := by
  have HC := Lib.hid (fun W => box_Check d b W)
  have hn : (chk d b == 0) = false := by simpa using h
  have hm : (chk d b != 0) = true := by simpa using h
  clear h
  go_enter Try.func13, Try.ntmps13
  go_wp2_with fail
  refine (HC.out _).mono ?_
  rintro e w1 ⟨rfl, hb1⟩
  (obtain ⟨hc1, hf1⟩ := bcell hb1; have hz1 := hb1.size; (try simp at hz1); have hB : Below w.heap.size w w1 := (by (repeat (first | (with_reducible exact Below.refl _ _) | (with_reducible assumption) | (with_reducible refine below_alloc ?_ _) | (with_reducible refine below_drewN ?_ _) | (with_reducible refine Below.drew ?_) | (with_reducible refine below_then ?_ (by with_reducible assumption)) | (with_reducible refine Below.setCell ?_ (by go_size) _)))); obtain ⟨hcB, hfB⟩ := bcell hB; (try have z0 : w.heap.size < w1.heap.size := by omega); (try have z1 : w.heap.size + 1 < w1.heap.size := by omega); (try have z2 : w.heap.size + 2 < w1.heap.size := by omega); (try have z3 : w.heap.size + 3 < w1.heap.size := by omega))
  go_wp2_with fail
  refine bodyPost_ret ?_ rfl ⟨rfl, ?_⟩
  · simp [results, Try.f13, go_sem, hc1, hf1]
  · (repeat (first | (with_reducible exact Below.refl _ _) | (with_reducible assumption) | (with_reducible refine below_alloc ?_ _) | (with_reducible refine below_drewN ?_ _) | (with_reducible refine Below.drew ?_) | (with_reducible refine below_then ?_ (by with_reducible assumption)) | (with_reducible refine Below.setCell ?_ (by go_size) _)))

theorem box_Canon (d : V3) (b : Bx) (w : World) : Calls Try.prog 13 #[.agg #[.int .i64 d.x, .int .i64 d.y, .int .i64 d.z], .agg #[.int .i64 b.b.x, .int .i64 b.b.y, .int .i64 b.b.z, .int .i64 b.s.x, .int .i64 b.s.y, .int .i64 b.s.z]] w (RB w (.tuple #[.agg #[.int .i64 (canV d b).b.x, .int .i64 (canV d b).b.y, .int .i64 (canV d b).b.z, .int .i64 (canV d b).s.x, .int .i64 (canV d b).s.y, .int .i64 (canV d b).s.z], .int .i64 (chk d b)])) := by
  by_cases h : chk d b = 0
  · rw [canV, if_pos h, h]; exact box_Canon_ok d b w h
  · rw [canV, if_neg h]; exact box_Canon_no d b w h

set_option maxRecDepth 100000 in set_option maxHeartbeats 4000000 in
theorem box_Many (d : V3) (b : Bx) (w : World) : Calls Try.prog 12 #[.agg #[.int .i64 d.x, .int .i64 d.y, .int .i64 d.z], .agg #[.int .i64 b.b.x, .int .i64 b.b.y, .int .i64 b.b.z, .int .i64 b.s.x, .int .i64 b.s.y, .int .i64 b.s.z]] w (RB w (.tuple #[.int .i64 (volV d b), .int .i64 (chk d b)])) := by
  by_cases h : chk d b = 0
  · rw [volV, if_pos h, h]
    have HC := Lib.hid (fun W => by have := box_Check d b W; rw [h] at this; exact this)
    obtain ⟨hd, hb⟩ := chk_may h
    have HQ := Lib.hid (show b.vol = b.s.x * b.s.y * b.s.z from rfl)
    have hd' := hd
    have hb' := hb
    unfold V3.may at hd'
    unfold Bx.may at hb'
    have m1 := mul_le_of (a := b.s.x) (A := 16) (b := b.s.y) (B := 16) (by omega) (by omega) (by omega) (by omega)
    have m2 := mul_le_of (a := b.s.x * b.s.y) (A := 256) (b := b.s.z) (B := 16) (by omega) (by omega) (by omega) (by omega)
    clear hd hb hd' hb' h
    go_enter Try.func12, Try.ntmps12
    go_wp2_with fail
    refine (HC.out _).mono ?_
    rintro e w1 ⟨rfl, hb1⟩
    (obtain ⟨hc1, hf1⟩ := bcell hb1; have hz1 := hb1.size; (try simp at hz1); have hB : Below w.heap.size w w1 := (by (repeat (first | (with_reducible exact Below.refl _ _) | (with_reducible assumption) | (with_reducible refine below_alloc ?_ _) | (with_reducible refine below_drewN ?_ _) | (with_reducible refine Below.drew ?_) | (with_reducible refine below_then ?_ (by with_reducible assumption)) | (with_reducible refine Below.setCell ?_ (by go_size) _)))); obtain ⟨hcB, hfB⟩ := bcell hB; (try have z0 : w.heap.size < w1.heap.size := by omega); (try have z1 : w.heap.size + 1 < w1.heap.size := by omega); (try have z2 : w.heap.size + 2 < w1.heap.size := by omega); (try have z3 : w.heap.size + 3 < w1.heap.size := by omega))
    go_wp2_with (refine wp_region_quiet_lit (by kernel_rfl) (by kernel_rfl) ?_; (repeat (any_goals (first | go_big_quiet_step (fail) | quiet_step (fail) | (refine wpQuiet_step (fun K hK => ?_); go_simp; split <;> (refine hK _ ?_; clear hK K))))); all_goals (refine wpQuiet_nil ?_; intro _ hw'; obtain ⟨nq, hw''⟩ := hw'; subst hw''))
    all_goals
      go_returns
      exact ⟨by rw [HQ.out]; rfl, by (repeat (first | (with_reducible exact Below.refl _ _) | (with_reducible assumption) | (with_reducible refine below_alloc ?_ _) | (with_reducible refine below_drewN ?_ _) | (with_reducible refine Below.drew ?_) | (with_reducible refine below_then ?_ (by with_reducible assumption)) | (with_reducible refine Below.setCell ?_ (by go_size) _)))⟩
  · rw [volV, if_neg h]
    have HC := Lib.hid (fun W => box_Check d b W)
    have hn : (chk d b == 0) = false := by simpa using h
    have hm : (chk d b != 0) = true := by simpa using h
    clear h
    go_enter Try.func12, Try.ntmps12
    go_wp2_with fail
    refine (HC.out _).mono ?_
    rintro e w1 ⟨rfl, hb1⟩
    (obtain ⟨hc1, hf1⟩ := bcell hb1; have hz1 := hb1.size; (try simp at hz1); have hB : Below w.heap.size w w1 := (by (repeat (first | (with_reducible exact Below.refl _ _) | (with_reducible assumption) | (with_reducible refine below_alloc ?_ _) | (with_reducible refine below_drewN ?_ _) | (with_reducible refine Below.drew ?_) | (with_reducible refine below_then ?_ (by with_reducible assumption)) | (with_reducible refine Below.setCell ?_ (by go_size) _)))); obtain ⟨hcB, hfB⟩ := bcell hB; (try have z0 : w.heap.size < w1.heap.size := by omega); (try have z1 : w.heap.size + 1 < w1.heap.size := by omega); (try have z2 : w.heap.size + 2 < w1.heap.size := by omega); (try have z3 : w.heap.size + 3 < w1.heap.size := by omega))
    go_wp2_with fail
    go_returns
    exact ⟨rfl, by (repeat (first | (with_reducible exact Below.refl _ _) | (with_reducible assumption) | (with_reducible refine below_alloc ?_ _) | (with_reducible refine below_drewN ?_ _) | (with_reducible refine Below.drew ?_) | (with_reducible refine below_then ?_ (by with_reducible assumption)) | (with_reducible refine Below.setCell ?_ (by go_size) _)))⟩
end
end Go.Proofs.Ytofoenlhbmammaa
