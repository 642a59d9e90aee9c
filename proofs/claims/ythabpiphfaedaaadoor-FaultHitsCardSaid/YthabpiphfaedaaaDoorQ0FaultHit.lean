/- FAULT: what a place stands on. -/
import Derived.Test.YthabpiphfaedaaaDoorQ0Fault7
namespace Go.Proofs.YthabpiphfaedaaaDoor

section
open Go.RowKit Go.Shelf

theorem hit_or (a b : List Nat) (m k : Int) : ((decide (0 ≤ m) && hasI a m) || (decide (0 ≤ k) && hasI b k)) = (hasI a m || hasI b k) := by
  unfold hasI
  cases decide (0 ≤ m) <;> cases decide (0 ≤ k) <;> simp
theorem hasV_of {n : Int} {ws : List Nat} (h : sChk n ws = 0) (k : Int) : hasV n ws k = hasI ws k := if_pos h
/-- The four ways in which numbers may be out of their bounds. -/
theorem hitE_two {d : V3} {p : Pl} {m k : Int} (hz : plChk d p = 0) (h : ¬ ((-1 ≤ m ∧ m < d.n) ∧ (-1 ≤ k ∧ k < 3 * d.n))) : hitE d p m k = 2 ∧ hitV d p m k = false := by
  have hE : hitE d p m k = 2 := by unfold hitE; rw [if_pos hz, if_neg h]
  exact ⟨hE, if_neg (by rw [hE]; decide)⟩
set_option maxRecDepth 100000 in set_option maxHeartbeats 4000000 in
theorem fault_Hit (d : V3) (p : Pl) (m k : Int) (w : World) : Calls Tryd.prog 38 #[.agg #[.int .i64 d.x, .int .i64 d.y, .int .i64 d.z], .agg #[.int .i64 p.b.b.x, .int .i64 p.b.b.y, .int .i64 p.b.b.z, .int .i64 p.b.s.x, .int .i64 p.b.s.y, .int .i64 p.b.s.z, .bool p.t0, .bool p.t1, .bool p.t2], .int .i64 m, .int .i64 k] w (RB w (.tuple #[.bool (hitV d p m k), .int .i64 (hitE d p m k)])) := by
  have HS := Lib.hid (fun W => place_Sets d p W)
  by_cases hz : plChk d p = 0
  · have hf := pl_facts hz
    have hd := hf.may
    have hnn := V3.n_le hd
    have HP := Lib.hid (fun W => pos_Many d W)
    rw [V3.many_ok hd, V3.err_ok hd] at HP
    have F1 := Lib.hid (And.intro (midsV_fit d p) (linksV_fit d p))
    have l1 := midsV_len d p
    have l2 := linksV_len d p
    have H1 := Lib.hid (fun ba ca W (h : SetIn W ba (midsV d p)) => by have hh := set_Has d.n ba ca (midsV d p) m W h; rw [hasV_of hf.mChk, hf.mChk] at hh; exact hh)
    have H2 := Lib.hid (fun ba ca W (h : SetIn W ba (linksV d p)) => by have hh := set_Has (3 * d.n) ba ca (linksV d p) k W h; rw [hasV_of hf.lChk, hf.lChk] at hh; exact hh)
    have hV : ((-1 ≤ m ∧ m < d.n) ∧ (-1 ≤ k ∧ k < 3 * d.n)) → hitE d p m k = 0 ∧ hitV d p m k = ((decide (0 ≤ m) && hasI (midsV d p) m) || (decide (0 ≤ k) && hasI (linksV d p) k)) := fun h => by
      have hE : hitE d p m k = 0 := by unfold hitE; rw [if_pos hz, if_pos h]
      exact ⟨hE, by rw [hit_or]; exact if_pos hE⟩
    have hN : ¬ ((-1 ≤ m ∧ m < d.n) ∧ (-1 ≤ k ∧ k < 3 * d.n)) → hitE d p m k = 2 ∧ hitV d p m k = false := hitE_two hz
    rw [hz] at HS
    generalize midsV d p = M at *
    generalize linksV d p = L at *
    generalize hasI M m = x1 at *
    generalize hasI L k = x2 at *
    generalize hitE d p m k = E at *
    generalize hitV d p m k = V at *
    clear hz hf hd
    generalize d.n = n at *
    go_enter Tryd.func38, Tryd.ntmps38
    go_wp2_with fail
    refine (HS.out _).mono ?_
    rintro e w1 ⟨v, u, rfl, ov, ou, hb1⟩
    obtain ⟨b1, c1, rfl, s1, _⟩ := set_of_own ov (by omega) F1.out.1
    obtain ⟨b2, c2, rfl, s2, _⟩ := set_of_own ou (by omega) F1.out.2
    have S1 := Lib.hid s1
    have S2 := Lib.hid s2
    have BD := Lib.hid (((Blk.new w 23 #[.int .i64 d.x, .int .i64 d.y, .int .i64 d.z]).alloc (.cells #[.int .i64 p.b.b.x, .int .i64 p.b.b.y, .int .i64 p.b.b.z, .int .i64 p.b.s.x, .int .i64 p.b.s.y, .int .i64 p.b.s.z, .bool p.t0, .bool p.t1, .bool p.t2] 28)).below hb1)
    have HB := Lib.hid (below_then (show Below w.heap.size w ((w.alloc (.cells #[.int .i64 d.x, .int .i64 d.y, .int .i64 d.z] 23)).alloc (.cells #[.int .i64 p.b.b.x, .int .i64 p.b.b.y, .int .i64 p.b.b.z, .int .i64 p.b.s.x, .int .i64 p.b.s.y, .int .i64 p.b.s.z, .bool p.t0, .bool p.t1, .bool p.t2] 28)) by (repeat (first | (with_reducible exact Below.refl _ _) | (with_reducible assumption) | (with_reducible refine below_alloc ?_ _) | (with_reducible refine below_drewN ?_ _) | (with_reducible refine Below.drew ?_) | (with_reducible refine below_then ?_ (by with_reducible assumption)) | (with_reducible refine Below.setCell ?_ (by go_size) _)))) hb1)
    clear hb1 ov ou s1 s2
    (have d0 := (BD.out).cell 0 _ rfl; have d1 := (BD.out).cell 1 _ rfl; have d2 := (BD.out).cell 2 _ rfl)
    go_wp2_with fail
    refine (HP.out _).mono ?_
    rintro e w2 ⟨rfl, hb⟩
    have HB := Lib.hid (below_then HB.out hb)
    have S1 := Lib.hid (S1.out.keep hb)
    have S2 := Lib.hid (S2.out.keep hb)
    clear hb d0 d1 d2 BD
    by_cases g1 : m < -1
    · obtain ⟨rfl, rfl⟩ := hN (by omega)
      clear hV hN
      go_wp2_with fail; go_returns; exact ⟨rfl, HB.out⟩
    by_cases g2 : n ≤ m
    · obtain ⟨rfl, rfl⟩ := hN (by omega)
      clear hV hN
      go_wp2_with fail; go_returns; exact ⟨rfl, HB.out⟩
    by_cases g3 : k < -1
    · obtain ⟨rfl, rfl⟩ := hN (by omega)
      clear hV hN
      go_wp2_with fail; go_returns; exact ⟨rfl, HB.out⟩
    by_cases g4 : 3 * n ≤ k
    · obtain ⟨rfl, rfl⟩ := hN (by omega)
      clear hV hN
      go_wp2_with fail; go_returns; exact ⟨rfl, HB.out⟩
    obtain ⟨rfl, hv⟩ := hV (by omega)
    clear hN hV
    go_wp2_with fail
    refine (H1.out _ _ _ S1.out).mono ?_
    rintro e w3 ⟨rfl, hb⟩
    have HB := Lib.hid (below_then HB.out hb)
    have S2 := Lib.hid (S2.out.keep hb)
    clear hb
    go_wp2_with fail
    refine (H2.out _ _ _ S2.out).mono ?_
    rintro e w4 ⟨rfl, hb⟩
    have HB := Lib.hid (below_then HB.out hb)
    clear hb
    by_cases g5 : 0 ≤ m <;> by_cases g6 : 0 ≤ k
    all_goals
      first | rw [decide_eq_true g5] at hv | rw [decide_eq_false g5] at hv
      first | rw [decide_eq_true g6] at hv | rw [decide_eq_false g6] at hv
      have HV := Lib.hid hv
      clear hv
      cases x1 <;> cases x2
      all_goals
        go_wp2_with fail
        go_returns
        exact ⟨by rw [HV.out]; rfl, HB.out⟩
  · have hE : hitE d p m k = plChk d p := if_neg hz
    have hV : hitV d p m k = false := if_neg (by rw [hE]; exact hz)
    have hy : (plChk d p != 0) = true := by simpa using hz
    rw [hE, hV]
    generalize plChk d p = x at *
    clear hz hE hV
    go_enter Tryd.func38, Tryd.ntmps38
    go_wp2_with fail
    refine (HS.out _).mono ?_
    rintro e w1 ⟨v, u, rfl, _, _, hb1⟩
    have HB := Lib.hid (below_then (show Below w.heap.size w ((w.alloc (.cells #[.int .i64 d.x, .int .i64 d.y, .int .i64 d.z] 23)).alloc (.cells #[.int .i64 p.b.b.x, .int .i64 p.b.b.y, .int .i64 p.b.b.z, .int .i64 p.b.s.x, .int .i64 p.b.s.y, .int .i64 p.b.s.z, .bool p.t0, .bool p.t1, .bool p.t2] 28)) by (repeat (first | (with_reducible exact Below.refl _ _) | (with_reducible assumption) | (with_reducible refine below_alloc ?_ _) | (with_reducible refine below_drewN ?_ _) | (with_reducible refine Below.drew ?_) | (with_reducible refine below_then ?_ (by with_reducible assumption)) | (with_reducible refine Below.setCell ?_ (by go_size) _)))) hb1)
    clear hb1
    go_wp2_with fail
    go_returns
    exact ⟨rfl, HB.out⟩
end
end Go.Proofs.YthabpiphfaedaaaDoor
