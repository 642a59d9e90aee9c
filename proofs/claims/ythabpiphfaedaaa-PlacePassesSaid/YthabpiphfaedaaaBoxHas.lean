/- BOX: whether a box has a midplane. -/
import Derived.Test.YthabpiphfaedaaaBoxAx
import Derived.Test.YthabpiphfaedaaaPosC
import Derived.Test.YthabpiphfaedaaaRefCan
namespace Go.Proofs.Ythabpiphfaedaaa
open Go.RowKit Go.Shelf

def has1 (b : Bx) (p : V3) (n : Int) (i : Nat) : Bool := decide (stepsOn (b.b.at i) (p.at i) n < b.s.at i)

set_option maxRecDepth 100000 in set_option maxHeartbeats 4000000 in
theorem has_ask0 (b : Bx) (p : V3) (n : Int) (w : World) (A B : Nat) (ha : BxAt w A b) (hb : DimsAt w B p) (h1 : 1 ≤ n) (h2 : n ≤ 16) (h3 : 0 ≤ b.b.x) (h4 : b.b.x < n) (h5 : 0 ≤ p.x) (h6 : p.x < n) :
    Calls Try.prog 37 #[.int .i64 0, .int .i64 n, .pointer (some ⟨A, 0, none⟩), .pointer (some ⟨B, 0, none⟩)] w (RB w (.bool (has1 b p n 0))) := by
  have alt := ha.lt
  have blt := hb.lt
  obtain ⟨a0, a1, a2, a3, a4, a5⟩ := ha
  obtain ⟨b0, b1, b2⟩ := hb
  go_enter Try.func37, Try.ntmps37
  go_wp2_with (refine wp_region_quiet_lit (by kernel_rfl) (by kernel_rfl) ?_; (repeat (any_goals (first | go_big_quiet_step (((go_at_call 38; exact Calls.quiet_of_same (box_on _ _ _ _ (by omega) (by omega) (by omega) (by omega) (by omega) (by omega))))) | quiet_step (((go_at_call 38; exact Calls.quiet_of_same (box_on _ _ _ _ (by omega) (by omega) (by omega) (by omega) (by omega) (by omega))))) | (refine wpQuiet_step (fun K hK => ?_); go_simp; split <;> (refine hK _ ?_; clear hK K))))); all_goals (refine wpQuiet_nil ?_; intro _ hw'; obtain ⟨nq, hw''⟩ := hw'; subst hw''))
  all_goals
    go_returns
    refine ⟨?_, by (repeat (first | (with_reducible exact Below.refl _ _) | (with_reducible assumption) | (with_reducible refine below_alloc ?_ _) | (with_reducible refine below_drewN ?_ _) | (with_reducible refine Below.drew ?_) | (with_reducible refine below_then ?_ (by with_reducible assumption)) | (with_reducible refine Below.setCell ?_ (by go_size) _)))⟩
    first | exact rfl | (refine ret_bool ?_; simp [has1, *]; done)
set_option maxRecDepth 100000 in set_option maxHeartbeats 4000000 in
theorem has_ask1 (b : Bx) (p : V3) (n : Int) (w : World) (A B : Nat) (ha : BxAt w A b) (hb : DimsAt w B p) (h1 : 1 ≤ n) (h2 : n ≤ 16) (h3 : 0 ≤ b.b.y) (h4 : b.b.y < n) (h5 : 0 ≤ p.y) (h6 : p.y < n) :
    Calls Try.prog 37 #[.int .i64 1, .int .i64 n, .pointer (some ⟨A, 0, none⟩), .pointer (some ⟨B, 0, none⟩)] w (RB w (.bool (has1 b p n 1))) := by
  have alt := ha.lt
  have blt := hb.lt
  obtain ⟨a0, a1, a2, a3, a4, a5⟩ := ha
  obtain ⟨b0, b1, b2⟩ := hb
  go_enter Try.func37, Try.ntmps37
  go_wp2_with (refine wp_region_quiet_lit (by kernel_rfl) (by kernel_rfl) ?_; (repeat (any_goals (first | go_big_quiet_step (((go_at_call 38; exact Calls.quiet_of_same (box_on _ _ _ _ (by omega) (by omega) (by omega) (by omega) (by omega) (by omega))))) | quiet_step (((go_at_call 38; exact Calls.quiet_of_same (box_on _ _ _ _ (by omega) (by omega) (by omega) (by omega) (by omega) (by omega))))) | (refine wpQuiet_step (fun K hK => ?_); go_simp; split <;> (refine hK _ ?_; clear hK K))))); all_goals (refine wpQuiet_nil ?_; intro _ hw'; obtain ⟨nq, hw''⟩ := hw'; subst hw''))
  all_goals
    go_returns
    refine ⟨?_, by (repeat (first | (with_reducible exact Below.refl _ _) | (with_reducible assumption) | (with_reducible refine below_alloc ?_ _) | (with_reducible refine below_drewN ?_ _) | (with_reducible refine Below.drew ?_) | (with_reducible refine below_then ?_ (by with_reducible assumption)) | (with_reducible refine Below.setCell ?_ (by go_size) _)))⟩
    first | exact rfl | (refine ret_bool ?_; simp [has1, *]; done)
set_option maxRecDepth 100000 in set_option maxHeartbeats 4000000 in
theorem has_ask2 (b : Bx) (p : V3) (n : Int) (w : World) (A B : Nat) (ha : BxAt w A b) (hb : DimsAt w B p) (h1 : 1 ≤ n) (h2 : n ≤ 16) (h3 : 0 ≤ b.b.z) (h4 : b.b.z < n) (h5 : 0 ≤ p.z) (h6 : p.z < n) :
    Calls Try.prog 37 #[.int .i64 2, .int .i64 n, .pointer (some ⟨A, 0, none⟩), .pointer (some ⟨B, 0, none⟩)] w (RB w (.bool (has1 b p n 2))) := by
  have alt := ha.lt
  have blt := hb.lt
  obtain ⟨a0, a1, a2, a3, a4, a5⟩ := ha
  obtain ⟨b0, b1, b2⟩ := hb
  go_enter Try.func37, Try.ntmps37
  go_wp2_with (refine wp_region_quiet_lit (by kernel_rfl) (by kernel_rfl) ?_; (repeat (any_goals (first | go_big_quiet_step (((go_at_call 38; exact Calls.quiet_of_same (box_on _ _ _ _ (by omega) (by omega) (by omega) (by omega) (by omega) (by omega))))) | quiet_step (((go_at_call 38; exact Calls.quiet_of_same (box_on _ _ _ _ (by omega) (by omega) (by omega) (by omega) (by omega) (by omega))))) | (refine wpQuiet_step (fun K hK => ?_); go_simp; split <;> (refine hK _ ?_; clear hK K))))); all_goals (refine wpQuiet_nil ?_; intro _ hw'; obtain ⟨nq, hw''⟩ := hw'; subst hw''))
  all_goals
    go_returns
    refine ⟨?_, by (repeat (first | (with_reducible exact Below.refl _ _) | (with_reducible assumption) | (with_reducible refine below_alloc ?_ _) | (with_reducible refine below_drewN ?_ _) | (with_reducible refine Below.drew ?_) | (with_reducible refine below_then ?_ (by with_reducible assumption)) | (with_reducible refine Below.setCell ?_ (by go_size) _)))⟩
    first | exact rfl | (refine ret_bool ?_; simp [has1, *]; done)

theorem has_asks (d : V3) (b : Bx) (p : V3) (w : World) (A B : Nat) (ha : BxAt w A b) (hb : DimsAt w B p) (hd : d.may) (h1 : b.may d) (h2 : d.inside p) :
    Asks Try.prog d 37 #[.pointer (some ⟨A, 0, none⟩), .pointer (some ⟨B, 0, none⟩)] (fun i => has1 b p (d.at i) i) w := by
  unfold V3.may at hd
  unfold Bx.may at h1
  unfold V3.inside at h2
  refine asks_of (fun W hW => ?_) (fun W hW => ?_) (fun W hW => ?_)
  · exact has_ask0 b p d.x W A B (ha.keep hW ha.lt) (hb.keep hW hb.lt) (by omega) (by omega) (by omega) (by omega) (by omega) (by omega)
  · exact has_ask1 b p d.y W A B (ha.keep hW ha.lt) (hb.keep hW hb.lt) (by omega) (by omega) (by omega) (by omega) (by omega) (by omega)
  · exact has_ask2 b p d.z W A B (ha.keep hW ha.lt) (hb.keep hW hb.lt) (by omega) (by omega) (by omega) (by omega) (by omega) (by omega)

theorem has_all3 {d : V3} {b : Bx} {m : Int} (hd : d.may) (hb : b.may d) (h0 : 0 ≤ m) (h1 : m < d.n) : all3 (fun i => has1 b (d.pos m) (d.at i) i) = b.has d m := by
  rw [Bool.eq_iff_iff, Bx.has_iff hd hb h0 h1]
  simp only [all3, has1, Bool.and_eq_true, decide_eq_true_iff]
  simp [Bx.hasP, and_assoc]

set_option maxRecDepth 100000 in set_option maxHeartbeats 4000000 in
theorem box_Has_ok (d : V3) (b : Bx) (m : Int) (w : World) (hd : d.may) (hb : b.may d) (h0 : 0 ≤ m) (h1 : m < d.n) : Calls Try.prog 10 #[.agg #[.int .i64 d.x, .int .i64 d.y, .int .i64 d.z], .agg #[.int .i64 b.b.x, .int .i64 b.b.y, .int .i64 b.b.z, .int .i64 b.s.x, .int .i64 b.s.y, .int .i64 b.s.z], .int .i64 m] w (RB w (.tuple #[.bool (b.has d m), .int .i64 0])) := by
  have HC := Lib.hid (fun W => by have := box_Check d b W; rw [chk_of hd hb] at this; exact this)
  have HP := Lib.hid (fun W => pos_Of_ok d m W hd h0 h1)
  have HQ := Lib.hid (has_all3 hd hb h0 h1)
  have HA := Lib.hid (fun (W : World) (A B : Nat) (ha : BxAt W A b) (hp : DimsAt W B (d.pos m)) => box_along d _ _ _ W (enters_of Try.func37 (by kernel_rfl) rfl) (has_asks d b (d.pos m) W A B ha hp hd hb (V3.pos_inside hd h0 h1)))
  clear hd hb h0 h1
  generalize d.pos m = p at *
  go_enter Try.func10, Try.ntmps10
  go_wp2_with fail
  refine (HC.out _).mono ?_
  rintro e w1 ⟨rfl, hb1⟩
  (obtain ⟨hc1, hf1⟩ := bcell hb1; have hz1 := hb1.size; (try simp at hz1); have hB : Below w.heap.size w w1 := (by (repeat (first | (with_reducible exact Below.refl _ _) | (with_reducible assumption) | (with_reducible refine below_alloc ?_ _) | (with_reducible refine below_drewN ?_ _) | (with_reducible refine Below.drew ?_) | (with_reducible refine below_then ?_ (by with_reducible assumption)) | (with_reducible refine Below.setCell ?_ (by go_size) _)))); obtain ⟨hcB, hfB⟩ := bcell hB; (try have z0 : w.heap.size < w1.heap.size := by omega); (try have z1 : w.heap.size + 1 < w1.heap.size := by omega); (try have z2 : w.heap.size + 2 < w1.heap.size := by omega); (try have z3 : w.heap.size + 3 < w1.heap.size := by omega))
  go_wp2_with fail
  refine (HP.out _).mono ?_
  rintro e w2 ⟨rfl, hb2⟩
  have hb12 := below_then hb1 hb2
  obtain ⟨hc2, hf2⟩ := bcell hb12
  have hz2 := hb12.size
  simp at hz2
  have hB2 := below_then hB hb2
  clear hcB hfB hc1 hf1
  have BB : BxAt w2 (w.heap.size + 1) b := by constructor <;> (rw [hc2 _ _ (by simp [go_sem])]; simp [go_sem])
  have DD : DimsAt w2 w.heap.size d := by constructor <;> (rw [hc2 _ _ (by simp [go_sem])]; simp [go_sem])
  obtain ⟨x0, x1, x2⟩ := DD
  have HBB := Lib.hid BB
  have t0 : w.heap.size < w2.heap.size := by omega
  have t1 : w.heap.size + 1 < w2.heap.size := by omega
  clear hc2 hf2 BB hb12 hb1 hb2 hB
  go_wp2_with fail
  refine (HA.out _ _ _ (HBB.out.keep (below_alloc (Below.refl w2.heap.size w2) _) t1) ((Blk.new w2 _ _).dims)).mono ?_
  rintro e w3 ⟨rfl, hb3⟩
  go_wp2_with fail
  go_returns
  exact ⟨by rw [← HQ.out]; rfl, below_then (below_alloc hB2 _) hb3⟩

set_option maxRecDepth 100000 in set_option maxHeartbeats 4000000 in
theorem box_Has (d : V3) (b : Bx) (m : Int) (w : World) : Calls Try.prog 10 #[.agg #[.int .i64 d.x, .int .i64 d.y, .int .i64 d.z], .agg #[.int .i64 b.b.x, .int .i64 b.b.y, .int .i64 b.b.z, .int .i64 b.s.x, .int .i64 b.s.y, .int .i64 b.s.z], .int .i64 m] w (RB w (.tuple #[.bool (hasB d b m), .int .i64 (hasE d b m)])) := by
  by_cases h : chk d b = 0
  · obtain ⟨hd, hb⟩ := chk_may h
    by_cases h1 : 0 ≤ m ∧ m < d.n
    · have e1 : hasE d b m = 0 := by rw [hasE, if_pos h, if_pos h1]
      rw [hasB, if_pos e1, e1]
      exact box_Has_ok d b m w hd hb h1.1 h1.2
    · have e1 : hasE d b m = 2 := by rw [hasE, if_pos h, if_neg h1]
      rw [hasB, if_neg (by omega), e1]
      have HC := Lib.hid (fun W => by have := box_Check d b W; rw [h] at this; exact this)
      have HP := Lib.hid (fun W => pos_Of_no d m W hd h1)
      clear hd hb h1 e1 h
      go_enter Try.func10, Try.ntmps10
      go_wp2_with fail
      refine (HC.out _).mono ?_
      rintro e w1 ⟨rfl, hb1⟩
      (obtain ⟨hc1, hf1⟩ := bcell hb1; have hz1 := hb1.size; (try simp at hz1); have hB : Below w.heap.size w w1 := (by (repeat (first | (with_reducible exact Below.refl _ _) | (with_reducible assumption) | (with_reducible refine below_alloc ?_ _) | (with_reducible refine below_drewN ?_ _) | (with_reducible refine Below.drew ?_) | (with_reducible refine below_then ?_ (by with_reducible assumption)) | (with_reducible refine Below.setCell ?_ (by go_size) _)))); obtain ⟨hcB, hfB⟩ := bcell hB; (try have z0 : w.heap.size < w1.heap.size := by omega); (try have z1 : w.heap.size + 1 < w1.heap.size := by omega); (try have z2 : w.heap.size + 2 < w1.heap.size := by omega); (try have z3 : w.heap.size + 3 < w1.heap.size := by omega))
      go_wp2_with fail
      refine (HP.out _).mono ?_
      rintro e w2 ⟨rfl, hb2⟩
      have hB2 := below_then hB hb2
      go_wp2_with fail
      go_returns
      exact ⟨rfl, below_alloc hB2 _⟩
  · have e1 : hasE d b m = chk d b := by rw [hasE, if_neg h]
    have e2 : hasB d b m = false := by rw [hasB, e1, if_neg h]
    rw [e1, e2]
    have HC := Lib.hid (fun W => box_Check d b W)
    have hn : (chk d b == 0) = false := by simpa using h
    have hm : (chk d b != 0) = true := by simpa using h
    clear h e1 e2
    go_enter Try.func10, Try.ntmps10
    go_wp2_with fail
    refine (HC.out _).mono ?_
    rintro e w1 ⟨rfl, hb1⟩
    (obtain ⟨hc1, hf1⟩ := bcell hb1; have hz1 := hb1.size; (try simp at hz1); have hB : Below w.heap.size w w1 := (by (repeat (first | (with_reducible exact Below.refl _ _) | (with_reducible assumption) | (with_reducible refine below_alloc ?_ _) | (with_reducible refine below_drewN ?_ _) | (with_reducible refine Below.drew ?_) | (with_reducible refine below_then ?_ (by with_reducible assumption)) | (with_reducible refine Below.setCell ?_ (by go_size) _)))); obtain ⟨hcB, hfB⟩ := bcell hB; (try have z0 : w.heap.size < w1.heap.size := by omega); (try have z1 : w.heap.size + 1 < w1.heap.size := by omega); (try have z2 : w.heap.size + 2 < w1.heap.size := by omega); (try have z3 : w.heap.size + 3 < w1.heap.size := by omega))
    go_wp2_with fail
    go_returns
    exact ⟨rfl, by (repeat (first | (with_reducible exact Below.refl _ _) | (with_reducible assumption) | (with_reducible refine below_alloc ?_ _) | (with_reducible refine below_drewN ?_ _) | (with_reducible refine Below.drew ?_) | (with_reducible refine below_then ?_ (by with_reducible assumption)) | (with_reducible refine Below.setCell ?_ (by go_size) _)))⟩
end Go.Proofs.Ythabpiphfaedaaa
