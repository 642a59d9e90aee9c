/- REF 02: the canonical box; how many midplanes; whether a box has one; all of them. -/
import Derived.Test.YtilibdhcahdndaaBoxCan
import Derived.Test.YtilibdhcahdndaaRef2
import Derived.Test.YtilibdhcahdndaaLists
namespace Go.Proofs.Ytilibdhcahdndaa
open Go.RowKit Go.Shelf

set_option maxRecDepth 100000 in set_option maxHeartbeats 4000000 in
theorem ref02_Told (d : V3) (b : Bx) (w : World) : Calls Try.prog 63 #[.agg #[.int .i64 d.x, .int .i64 d.y, .int .i64 d.z], .agg #[.int .i64 b.b.x, .int .i64 b.b.y, .int .i64 b.b.z, .int .i64 b.s.x, .int .i64 b.s.y, .int .i64 b.s.z]] w (RB w (.agg #[.int .i64 (b.can d).b.x, .int .i64 (b.can d).b.y, .int .i64 (b.can d).b.z, .int .i64 (b.can d).s.x, .int .i64 (b.can d).s.y, .int .i64 (b.can d).s.z])) := by
  cases g0 : b.s.x == d.x <;> cases g1 : b.s.y == d.y <;> cases g2 : b.s.z == d.z
  all_goals
    have hq := Lib.hid (show b.can d = _ by simp only [Bx.can, g0, g1, g2, cond_true, cond_false]; rfl)
    rw [hq.out]
    go_enter Try.func63, Try.ntmps63
    go_wp2_with fail
    refine wp_loop_rounds 4 ?_
    go_wp2_with (first | (rw [rounds_succ]) | (refine wp_region_quiet_lit (by kernel_rfl) (by kernel_rfl) ?_; (repeat (any_goals (first | go_big_quiet_step (fail) | quiet_step (fail) | (refine wpQuiet_step (fun K hK => ?_); go_simp; split <;> (refine hK _ ?_; clear hK K))))); all_goals (refine wpQuiet_nil ?_; intro _ hw'; obtain ⟨nq, hw''⟩ := hw'; subst hw'')))
    refine bodyPost_ret ?_ rfl ⟨rfl, ?_⟩
    · simp [results, Try.f63, go_sem]
    · (repeat (first | (with_reducible exact Below.refl _ _) | (with_reducible assumption) | (with_reducible refine below_alloc ?_ _) | (with_reducible refine below_drewN ?_ _) | (with_reducible refine Below.drew ?_) | (with_reducible refine below_then ?_ (by with_reducible assumption)) | (with_reducible refine Below.setCell ?_ (by go_size) _)))

set_option maxRecDepth 100000 in set_option maxHeartbeats 4000000 in
theorem ref02_Canon (d : V3) (b : Bx) (w : World) : Calls Try.prog 34 #[.agg #[.int .i64 d.x, .int .i64 d.y, .int .i64 d.z], .agg #[.int .i64 b.b.x, .int .i64 b.b.y, .int .i64 b.b.z, .int .i64 b.s.x, .int .i64 b.s.y, .int .i64 b.s.z]] w (RB w (.tuple #[.agg #[.int .i64 (canV d b).b.x, .int .i64 (canV d b).b.y, .int .i64 (canV d b).b.z, .int .i64 (canV d b).s.x, .int .i64 (canV d b).s.y, .int .i64 (canV d b).s.z], .int .i64 (chk d b)])) := by
  by_cases h : chk d b = 0
  · rw [canV, if_pos h, h]
    have HC := Lib.hid (fun W => by have := ref02_Check d b W; rw [h] at this; exact this)
    have HT := Lib.hid (fun W => ref02_Told d b W)
    clear h
    generalize b.can d = c at *
    go_enter Try.func34, Try.ntmps34
    go_wp2_with fail
    refine (HC.out _).mono ?_
    rintro e w1 ⟨rfl, hb1⟩
    (obtain ⟨hc1, hf1⟩ := bcell hb1; have hz1 := hb1.size; (try simp at hz1); have hB : Below w.heap.size w w1 := (by (repeat (first | (with_reducible exact Below.refl _ _) | (with_reducible assumption) | (with_reducible refine below_alloc ?_ _) | (with_reducible refine below_drewN ?_ _) | (with_reducible refine Below.drew ?_) | (with_reducible refine below_then ?_ (by with_reducible assumption)) | (with_reducible refine Below.setCell ?_ (by go_size) _)))); obtain ⟨hcB, hfB⟩ := bcell hB; (try have z0 : w.heap.size < w1.heap.size := by omega); (try have z1 : w.heap.size + 1 < w1.heap.size := by omega); (try have z2 : w.heap.size + 2 < w1.heap.size := by omega); (try have z3 : w.heap.size + 3 < w1.heap.size := by omega))
    go_wp2_with fail
    refine (HT.out _).mono ?_
    rintro e w2 ⟨rfl, hb2⟩
    have hb12 := below_then hb1 hb2
    obtain ⟨hc2, hf2⟩ := bcell hb12
    clear hcB hfB hc1 hf1
    go_wp2_with fail
    refine bodyPost_ret ?_ rfl ⟨rfl, ?_⟩
    · simp [results, Try.f34, go_sem, hc2, hf2]
    · have hB2 : Below w.heap.size w w2 := below_then hB hb2
      (repeat (first | (with_reducible exact Below.refl _ _) | (with_reducible assumption) | (with_reducible refine below_alloc ?_ _) | (with_reducible refine below_drewN ?_ _) | (with_reducible refine Below.drew ?_) | (with_reducible refine below_then ?_ (by with_reducible assumption)) | (with_reducible refine Below.setCell ?_ (by go_size) _)))
  · rw [canV, if_neg h]
    have HC := Lib.hid (fun W => ref02_Check d b W)
    have hn : (chk d b == 0) = false := by simpa using h
    have hm : (chk d b != 0) = true := by simpa using h
    clear h
    go_enter Try.func34, Try.ntmps34
    go_wp2_with fail
    refine (HC.out _).mono ?_
    rintro e w1 ⟨rfl, hb1⟩
    (obtain ⟨hc1, hf1⟩ := bcell hb1; have hz1 := hb1.size; (try simp at hz1); have hB : Below w.heap.size w w1 := (by (repeat (first | (with_reducible exact Below.refl _ _) | (with_reducible assumption) | (with_reducible refine below_alloc ?_ _) | (with_reducible refine below_drewN ?_ _) | (with_reducible refine Below.drew ?_) | (with_reducible refine below_then ?_ (by with_reducible assumption)) | (with_reducible refine Below.setCell ?_ (by go_size) _)))); obtain ⟨hcB, hfB⟩ := bcell hB; (try have z0 : w.heap.size < w1.heap.size := by omega); (try have z1 : w.heap.size + 1 < w1.heap.size := by omega); (try have z2 : w.heap.size + 2 < w1.heap.size := by omega); (try have z3 : w.heap.size + 3 < w1.heap.size := by omega))
    go_wp2_with fail
    refine bodyPost_ret ?_ rfl ⟨rfl, ?_⟩
    · simp [results, Try.f34, go_sem, hc1, hf1, Bx.zero]
    · (repeat (first | (with_reducible exact Below.refl _ _) | (with_reducible assumption) | (with_reducible refine below_alloc ?_ _) | (with_reducible refine below_drewN ?_ _) | (with_reducible refine Below.drew ?_) | (with_reducible refine below_then ?_ (by with_reducible assumption)) | (with_reducible refine Below.setCell ?_ (by go_size) _)))

set_option maxRecDepth 100000 in set_option maxHeartbeats 4000000 in
theorem ref02_Many (d : V3) (b : Bx) (w : World) : Calls Try.prog 35 #[.agg #[.int .i64 d.x, .int .i64 d.y, .int .i64 d.z], .agg #[.int .i64 b.b.x, .int .i64 b.b.y, .int .i64 b.b.z, .int .i64 b.s.x, .int .i64 b.s.y, .int .i64 b.s.z]] w (RB w (.tuple #[.int .i64 (volV d b), .int .i64 (chk d b)])) := by
  by_cases h : chk d b = 0
  · rw [volV, if_pos h, h]
    have HC := Lib.hid (fun W => by have := ref02_Check d b W; rw [h] at this; exact this)
    obtain ⟨hd, hb⟩ := chk_may h
    have HQ := Lib.hid (show b.vol = b.s.x * b.s.y * b.s.z from rfl)
    have hd' := hd
    have hb' := hb
    unfold V3.may at hd'
    unfold Bx.may at hb'
    have m1 := mul_le_of (a := b.s.x) (A := 16) (b := b.s.y) (B := 16) (by omega) (by omega) (by omega) (by omega)
    have m2 := mul_le_of (a := b.s.x * b.s.y) (A := 256) (b := b.s.z) (B := 16) (by omega) (by omega) (by omega) (by omega)
    clear hd hb hd' hb' h
    go_enter Try.func35, Try.ntmps35
    go_wp2_with fail
    refine (HC.out _).mono ?_
    rintro e w1 ⟨rfl, hb1⟩
    (obtain ⟨hc1, hf1⟩ := bcell hb1; have hz1 := hb1.size; (try simp at hz1); have hB : Below w.heap.size w w1 := (by (repeat (first | (with_reducible exact Below.refl _ _) | (with_reducible assumption) | (with_reducible refine below_alloc ?_ _) | (with_reducible refine below_drewN ?_ _) | (with_reducible refine Below.drew ?_) | (with_reducible refine below_then ?_ (by with_reducible assumption)) | (with_reducible refine Below.setCell ?_ (by go_size) _)))); obtain ⟨hcB, hfB⟩ := bcell hB; (try have z0 : w.heap.size < w1.heap.size := by omega); (try have z1 : w.heap.size + 1 < w1.heap.size := by omega); (try have z2 : w.heap.size + 2 < w1.heap.size := by omega); (try have z3 : w.heap.size + 3 < w1.heap.size := by omega))
    go_wp2_with (refine wp_region_quiet_lit (by kernel_rfl) (by kernel_rfl) ?_; (repeat (any_goals (first | go_big_quiet_step (fail) | quiet_step (fail) | (refine wpQuiet_step (fun K hK => ?_); go_simp; split <;> (refine hK _ ?_; clear hK K))))); all_goals (refine wpQuiet_nil ?_; intro _ hw'; obtain ⟨nq, hw''⟩ := hw'; subst hw''))
    all_goals
      go_returns
      exact ⟨by rw [HQ.out]; rfl, by (repeat (first | (with_reducible exact Below.refl _ _) | (with_reducible assumption) | (with_reducible refine below_alloc ?_ _) | (with_reducible refine below_drewN ?_ _) | (with_reducible refine Below.drew ?_) | (with_reducible refine below_then ?_ (by with_reducible assumption)) | (with_reducible refine Below.setCell ?_ (by go_size) _)))⟩
  · rw [volV, if_neg h]
    have HC := Lib.hid (fun W => ref02_Check d b W)
    have hn : (chk d b == 0) = false := by simpa using h
    have hm : (chk d b != 0) = true := by simpa using h
    clear h
    go_enter Try.func35, Try.ntmps35
    go_wp2_with fail
    refine (HC.out _).mono ?_
    rintro e w1 ⟨rfl, hb1⟩
    (obtain ⟨hc1, hf1⟩ := bcell hb1; have hz1 := hb1.size; (try simp at hz1); have hB : Below w.heap.size w w1 := (by (repeat (first | (with_reducible exact Below.refl _ _) | (with_reducible assumption) | (with_reducible refine below_alloc ?_ _) | (with_reducible refine below_drewN ?_ _) | (with_reducible refine Below.drew ?_) | (with_reducible refine below_then ?_ (by with_reducible assumption)) | (with_reducible refine Below.setCell ?_ (by go_size) _)))); obtain ⟨hcB, hfB⟩ := bcell hB; (try have z0 : w.heap.size < w1.heap.size := by omega); (try have z1 : w.heap.size + 1 < w1.heap.size := by omega); (try have z2 : w.heap.size + 2 < w1.heap.size := by omega); (try have z3 : w.heap.size + 3 < w1.heap.size := by omega))
    go_wp2_with fail
    go_returns
    exact ⟨rfl, by (repeat (first | (with_reducible exact Below.refl _ _) | (with_reducible assumption) | (with_reducible refine below_alloc ?_ _) | (with_reducible refine below_drewN ?_ _) | (with_reducible refine Below.drew ?_) | (with_reducible refine below_then ?_ (by with_reducible assumption)) | (with_reducible refine Below.setCell ?_ (by go_size) _)))⟩

/-- All midplanes of a box that may be; none of one that may not. -/
def nodesV (d : V3) (b : Bx) : List Int := if chk d b = 0 then b.all d else []
set_option maxRecDepth 100000 in set_option maxHeartbeats 4000000 in
theorem ref02_Nodes (d : V3) (b : Bx) (w : World) : Calls Try.prog 37 #[.agg #[.int .i64 d.x, .int .i64 d.y, .int .i64 d.z], .agg #[.int .i64 b.b.x, .int .i64 b.b.y, .int .i64 b.b.z, .int .i64 b.s.x, .int .i64 b.s.y, .int .i64 b.s.z]] w (RIE w (nodesV d b) (chk d b)) := by
  by_cases h : chk d b = 0
  · rw [nodesV, if_pos h, h]
    have HC := Lib.hid (fun W => by have := ref02_Check d b W; rw [h] at this; exact this)
    obtain ⟨hd, hb⟩ := chk_may h
    have HA := Lib.hid (fun W => ref02_All d b W hd hb)
    clear h hd hb
    go_enter Try.func37, Try.ntmps37
    go_wp2_with fail
    refine (HC.out _).mono ?_
    rintro e w1 ⟨rfl, hb1⟩
    (obtain ⟨hc1, hf1⟩ := bcell hb1; have hz1 := hb1.size; (try simp at hz1); have hB : Below w.heap.size w w1 := (by (repeat (first | (with_reducible exact Below.refl _ _) | (with_reducible assumption) | (with_reducible refine below_alloc ?_ _) | (with_reducible refine below_drewN ?_ _) | (with_reducible refine Below.drew ?_) | (with_reducible refine below_then ?_ (by with_reducible assumption)) | (with_reducible refine Below.setCell ?_ (by go_size) _)))); obtain ⟨hcB, hfB⟩ := bcell hB; (try have z0 : w.heap.size < w1.heap.size := by omega); (try have z1 : w.heap.size + 1 < w1.heap.size := by omega); (try have z2 : w.heap.size + 2 < w1.heap.size := by omega); (try have z3 : w.heap.size + 3 < w1.heap.size := by omega))
    go_wp2_with fail
    refine (HA.out _).mono ?_
    rintro e w2 ⟨v, rfl, ho, hb2⟩
    go_wp2_with fail
    go_returns
    exact ⟨v, rfl, own_mono ho (by omega), below_then hB hb2⟩
  · rw [nodesV, if_neg h]
    have HC := Lib.hid (fun W => ref02_Check d b W)
    have hn : (chk d b == 0) = false := by simpa using h
    have hm : (chk d b != 0) = true := by simpa using h
    clear h
    go_enter Try.func37, Try.ntmps37
    go_wp2_with fail
    refine (HC.out _).mono ?_
    rintro e w1 ⟨rfl, hb1⟩
    (obtain ⟨hc1, hf1⟩ := bcell hb1; have hz1 := hb1.size; (try simp at hz1); have hB : Below w.heap.size w w1 := (by (repeat (first | (with_reducible exact Below.refl _ _) | (with_reducible assumption) | (with_reducible refine below_alloc ?_ _) | (with_reducible refine below_drewN ?_ _) | (with_reducible refine Below.drew ?_) | (with_reducible refine below_then ?_ (by with_reducible assumption)) | (with_reducible refine Below.setCell ?_ (by go_size) _)))); obtain ⟨hcB, hfB⟩ := bcell hB; (try have z0 : w.heap.size < w1.heap.size := by omega); (try have z1 : w.heap.size + 1 < w1.heap.size := by omega); (try have z2 : w.heap.size + 2 < w1.heap.size := by omega); (try have z3 : w.heap.size + 3 < w1.heap.size := by omega))
    go_wp2_with fail
    go_returns
    exact ⟨_, rfl, World.ownsRow_nil _ _ _ _, by (repeat (first | (with_reducible exact Below.refl _ _) | (with_reducible assumption) | (with_reducible refine below_alloc ?_ _) | (with_reducible refine below_drewN ?_ _) | (with_reducible refine Below.drew ?_) | (with_reducible refine below_then ?_ (by with_reducible assumption)) | (with_reducible refine Below.setCell ?_ (by go_size) _)))⟩

/-- The error of a box and a midplane; whether the box has it. -/
def hasE (d : V3) (b : Bx) (m : Int) : Int := if chk d b = 0 then if 0 ≤ m ∧ m < d.n then 0 else 2 else chk d b
def hasB (d : V3) (b : Bx) (m : Int) : Bool := if hasE d b m = 0 then b.has d m else false
theorem hasE_0 {d : V3} {b : Bx} {m : Int} (h : hasE d b m = 0) : chk d b = 0 ∧ 0 ≤ m ∧ m < d.n := by
  unfold hasE at h
  by_cases hc : chk d b = 0
  · rw [if_pos hc] at h
    by_cases hm : 0 ≤ m ∧ m < d.n
    · exact ⟨hc, hm⟩
    · rw [if_neg hm] at h; omega
  · rw [if_neg hc] at h; exact absurd h hc

set_option maxRecDepth 100000 in set_option maxHeartbeats 4000000 in
theorem ref02_Has (d : V3) (b : Bx) (m : Int) (w : World) : Calls Try.prog 36 #[.agg #[.int .i64 d.x, .int .i64 d.y, .int .i64 d.z], .agg #[.int .i64 b.b.x, .int .i64 b.b.y, .int .i64 b.b.z, .int .i64 b.s.x, .int .i64 b.s.y, .int .i64 b.s.z], .int .i64 m] w (RB w (.tuple #[.bool (hasB d b m), .int .i64 (hasE d b m)])) := by
  by_cases h : chk d b = 0
  · have HC := Lib.hid (fun W => by have := ref02_Check d b W; rw [h] at this; exact this)
    obtain ⟨hd, hb⟩ := chk_may h
    have HN := Lib.hid (fun W => ref01_N d W hd)
    by_cases h0 : m < 0
    · have e1 : hasE d b m = 2 := by rw [hasE, if_pos h, if_neg (by omega)]
      have e2 : hasB d b m = false := by rw [hasB, e1]; rfl
      rw [e1, e2]
      have hm0 : decide (m < 0) = true := decide_eq_true h0
      clear h hd hb e1 e2
      go_enter Try.func36, Try.ntmps36
      go_wp2_with fail
      refine (HC.out _).mono ?_
      rintro e w1 ⟨rfl, hb1⟩
      (obtain ⟨hc1, hf1⟩ := bcell hb1; have hz1 := hb1.size; (try simp at hz1); have hB : Below w.heap.size w w1 := (by (repeat (first | (with_reducible exact Below.refl _ _) | (with_reducible assumption) | (with_reducible refine below_alloc ?_ _) | (with_reducible refine below_drewN ?_ _) | (with_reducible refine Below.drew ?_) | (with_reducible refine below_then ?_ (by with_reducible assumption)) | (with_reducible refine Below.setCell ?_ (by go_size) _)))); obtain ⟨hcB, hfB⟩ := bcell hB; (try have z0 : w.heap.size < w1.heap.size := by omega); (try have z1 : w.heap.size + 1 < w1.heap.size := by omega); (try have z2 : w.heap.size + 2 < w1.heap.size := by omega); (try have z3 : w.heap.size + 3 < w1.heap.size := by omega))
      go_wp2_with fail
      go_returns
      exact ⟨rfl, by (repeat (first | (with_reducible exact Below.refl _ _) | (with_reducible assumption) | (with_reducible refine below_alloc ?_ _) | (with_reducible refine below_drewN ?_ _) | (with_reducible refine Below.drew ?_) | (with_reducible refine below_then ?_ (by with_reducible assumption)) | (with_reducible refine Below.setCell ?_ (by go_size) _)))⟩
    · have hm0 : decide (m < 0) = false := decide_eq_false h0
      by_cases h1 : d.n ≤ m
      · have e1 : hasE d b m = 2 := by rw [hasE, if_pos h, if_neg (by omega)]
        have e2 : hasB d b m = false := by rw [hasB, e1]; rfl
        rw [e1, e2]
        have hm1 : decide (d.n ≤ m) = true := decide_eq_true h1
        clear h hd hb e1 e2
        go_enter Try.func36, Try.ntmps36
        go_wp2_with fail
        refine (HC.out _).mono ?_
        rintro e w1 ⟨rfl, hb1⟩
        (obtain ⟨hc1, hf1⟩ := bcell hb1; have hz1 := hb1.size; (try simp at hz1); have hB : Below w.heap.size w w1 := (by (repeat (first | (with_reducible exact Below.refl _ _) | (with_reducible assumption) | (with_reducible refine below_alloc ?_ _) | (with_reducible refine below_drewN ?_ _) | (with_reducible refine Below.drew ?_) | (with_reducible refine below_then ?_ (by with_reducible assumption)) | (with_reducible refine Below.setCell ?_ (by go_size) _)))); obtain ⟨hcB, hfB⟩ := bcell hB; (try have z0 : w.heap.size < w1.heap.size := by omega); (try have z1 : w.heap.size + 1 < w1.heap.size := by omega); (try have z2 : w.heap.size + 2 < w1.heap.size := by omega); (try have z3 : w.heap.size + 3 < w1.heap.size := by omega))
        go_wp2_with fail
        refine (HN.out _).mono ?_
        rintro e w2 ⟨rfl, hb2⟩
        go_wp2_with fail
        go_returns
        exact ⟨rfl, below_then hB hb2⟩
      · have e1 : hasE d b m = 0 := by rw [hasE, if_pos h, if_pos (by omega)]
        have e2 : hasB d b m = b.has d m := by rw [hasB, if_pos e1]
        have hn := V3.n_le hd
        rw [e1, e2]
        have hm1 : decide (d.n ≤ m) = false := decide_eq_false h1
        have HI := Lib.hid (fun W => ref02_In d b m W hd hb (by omega) (by omega))
        clear h hd hb e1 e2
        go_enter Try.func36, Try.ntmps36
        go_wp2_with fail
        refine (HC.out _).mono ?_
        rintro e w1 ⟨rfl, hb1⟩
        (obtain ⟨hc1, hf1⟩ := bcell hb1; have hz1 := hb1.size; (try simp at hz1); have hB : Below w.heap.size w w1 := (by (repeat (first | (with_reducible exact Below.refl _ _) | (with_reducible assumption) | (with_reducible refine below_alloc ?_ _) | (with_reducible refine below_drewN ?_ _) | (with_reducible refine Below.drew ?_) | (with_reducible refine below_then ?_ (by with_reducible assumption)) | (with_reducible refine Below.setCell ?_ (by go_size) _)))); obtain ⟨hcB, hfB⟩ := bcell hB; (try have z0 : w.heap.size < w1.heap.size := by omega); (try have z1 : w.heap.size + 1 < w1.heap.size := by omega); (try have z2 : w.heap.size + 2 < w1.heap.size := by omega); (try have z3 : w.heap.size + 3 < w1.heap.size := by omega))
        go_wp2_with fail
        refine (HN.out _).mono ?_
        rintro e w2 ⟨rfl, hb2⟩
        have hb12 := below_then hb1 hb2
        obtain ⟨hc2, hf2⟩ := bcell hb12
        clear hcB hfB hc1 hf1
        go_wp2_with fail
        refine (HI.out _).mono ?_
        rintro e w3 ⟨rfl, hb3⟩
        go_wp2_with fail
        go_returns
        exact ⟨rfl, below_then (below_then hB hb2) hb3⟩
  · have e1 : hasE d b m = chk d b := by rw [hasE, if_neg h]
    have e2 : hasB d b m = false := by rw [hasB, e1, if_neg h]
    rw [e1, e2]
    have HC := Lib.hid (fun W => ref02_Check d b W)
    have hn : (chk d b == 0) = false := by simpa using h
    have hm : (chk d b != 0) = true := by simpa using h
    clear h e1 e2
    go_enter Try.func36, Try.ntmps36
    go_wp2_with fail
    refine (HC.out _).mono ?_
    rintro e w1 ⟨rfl, hb1⟩
    (obtain ⟨hc1, hf1⟩ := bcell hb1; have hz1 := hb1.size; (try simp at hz1); have hB : Below w.heap.size w w1 := (by (repeat (first | (with_reducible exact Below.refl _ _) | (with_reducible assumption) | (with_reducible refine below_alloc ?_ _) | (with_reducible refine below_drewN ?_ _) | (with_reducible refine Below.drew ?_) | (with_reducible refine below_then ?_ (by with_reducible assumption)) | (with_reducible refine Below.setCell ?_ (by go_size) _)))); obtain ⟨hcB, hfB⟩ := bcell hB; (try have z0 : w.heap.size < w1.heap.size := by omega); (try have z1 : w.heap.size + 1 < w1.heap.size := by omega); (try have z2 : w.heap.size + 2 < w1.heap.size := by omega); (try have z3 : w.heap.size + 3 < w1.heap.size := by omega))
    go_wp2_with fail
    go_returns
    exact ⟨rfl, by (repeat (first | (with_reducible exact Below.refl _ _) | (with_reducible assumption) | (with_reducible refine below_alloc ?_ _) | (with_reducible refine below_drewN ?_ _) | (with_reducible refine Below.drew ?_) | (with_reducible refine below_then ?_ (by with_reducible assumption)) | (with_reducible refine Below.setCell ?_ (by go_size) _)))⟩
end Go.Proofs.Ytilibdhcahdndaa
