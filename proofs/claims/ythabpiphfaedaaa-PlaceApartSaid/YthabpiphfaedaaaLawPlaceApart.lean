/- PlaceApart: two places are apart either way round; never from themselves, nor where boxes meet; meshes just if boxes do not: the call returns true. -/
import Derived.Test.YthabpiphfaedaaaPlApart
import Derived.Test.YthabpiphfaedaaaRowPlace
namespace Go.Proofs.Ythabpiphfaedaaa
open Go.ChangeShapes Go.WideShapes Go.ChangeAt Go.RowKit Go.Shelf

set_option maxRecDepth 100000 in set_option maxHeartbeats 4000000 in
theorem law06_PlaceApart (d : V3) (p q : Pl) (w : World) : Calls Try.prog 4 #[.agg #[.int .i64 d.x, .int .i64 d.y, .int .i64 d.z], .agg #[.int .i64 p.b.b.x, .int .i64 p.b.b.y, .int .i64 p.b.b.z, .int .i64 p.b.s.x, .int .i64 p.b.s.y, .int .i64 p.b.s.z, .bool p.t0, .bool p.t1, .bool p.t2], .agg #[.int .i64 q.b.b.x, .int .i64 q.b.b.y, .int .i64 q.b.b.z, .int .i64 q.b.s.x, .int .i64 q.b.s.y, .int .i64 q.b.s.z, .bool q.t0, .bool q.t1, .bool q.t2]] w (RB w (.bool true)) := by
  have H1 := Lib.hid (fun W => place_Apart d p q W)
  have H2 := Lib.hid (fun W => place_Apart d q p W)
  by_cases h0 : apE d p q = 0
  · obtain ⟨hp, hq⟩ := apE_0 h0
    obtain ⟨f1, f2, f3, f4⟩ := apart_facts hp hq
    have h0' := apE_of hq hp
    have hpp := apE_of hp hp
    have hmm := apE_of (mesh_chk hp) (mesh_chk hq)
    have e1 : apV d p q = apartB d p q := if_pos h0
    have e2 : apV d q p = apartB d p q := (if_pos h0').trans f1.symm
    have e3 : apV d p p = false := (if_pos hpp).trans f2
    have e4 : apV d p.mesh q.mesh = !boxMeet d p.b q.b := (if_pos hmm).trans f4
    have hd := (pl_facts hp).may
    have hc : chk2 d p.b q.b = 0 := by unfold chk2; rw [if_pos hd, okIf_yes ⟨(pl_facts hp).box, (pl_facts hq).box⟩]
    have H3 := Lib.hid (fun W => by have := box_Meet d p.b q.b W; rw [hc] at this; exact this)
    have H4 := Lib.hid (fun W => by have := place_Apart d p p W; rw [e3, hpp] at this; exact this)
    have H5 := Lib.hid (fun W => show Calls Try.prog 11 #[.agg #[.int .i64 d.x, .int .i64 d.y, .int .i64 d.z], .agg #[.int .i64 p.b.b.x, .int .i64 p.b.b.y, .int .i64 p.b.b.z, .int .i64 p.b.s.x, .int .i64 p.b.s.y, .int .i64 p.b.s.z, .bool false, .bool false, .bool false], .agg #[.int .i64 q.b.b.x, .int .i64 q.b.b.y, .int .i64 q.b.b.z, .int .i64 q.b.s.x, .int .i64 q.b.s.y, .int .i64 q.b.s.z, .bool false, .bool false, .bool false]] W (RB W (.tuple #[.bool (!boxMeet d p.b q.b), .int .i64 0])) from by have := place_Apart d p.mesh q.mesh W; rw [e4, hmm] at this; exact this)
    rw [e1, h0] at H1
    rw [e2, h0'] at H2
    have F3 := Lib.hid f3
    generalize apartB d p q = A at *
    generalize boxMeet d p.b q.b = M at *
    clear h0 hp hq f1 f2 f3 f4 h0' hpp hmm e1 e2 e3 e4 hd hc
    go_enter Try.func4, Try.ntmps4
    go_wp2_with fail
    refine (law06_alive _).mono ?_
    rintro e w1 ⟨rfl, hb⟩
    have BD := Lib.hid ((((Blk.new w 23 #[.int .i64 d.x, .int .i64 d.y, .int .i64 d.z]).alloc (.cells #[.int .i64 p.b.b.x, .int .i64 p.b.b.y, .int .i64 p.b.b.z, .int .i64 p.b.s.x, .int .i64 p.b.s.y, .int .i64 p.b.s.z, .bool p.t0, .bool p.t1, .bool p.t2] 28)).alloc (.cells #[.int .i64 q.b.b.x, .int .i64 q.b.b.y, .int .i64 q.b.b.z, .int .i64 q.b.s.x, .int .i64 q.b.s.y, .int .i64 q.b.s.z, .bool q.t0, .bool q.t1, .bool q.t2] 28)).below hb)
    have bp := ((Blk.new (w.alloc (.cells #[.int .i64 d.x, .int .i64 d.y, .int .i64 d.z] 23)) 28 #[.int .i64 p.b.b.x, .int .i64 p.b.b.y, .int .i64 p.b.b.z, .int .i64 p.b.s.x, .int .i64 p.b.s.y, .int .i64 p.b.s.z, .bool p.t0, .bool p.t1, .bool p.t2]).alloc (.cells #[.int .i64 q.b.b.x, .int .i64 q.b.b.y, .int .i64 q.b.b.z, .int .i64 q.b.s.x, .int .i64 q.b.s.y, .int .i64 q.b.s.z, .bool q.t0, .bool q.t1, .bool q.t2] 28)).below hb
    have bq := (Blk.new ((w.alloc (.cells #[.int .i64 d.x, .int .i64 d.y, .int .i64 d.z] 23)).alloc (.cells #[.int .i64 p.b.b.x, .int .i64 p.b.b.y, .int .i64 p.b.b.z, .int .i64 p.b.s.x, .int .i64 p.b.s.y, .int .i64 p.b.s.z, .bool p.t0, .bool p.t1, .bool p.t2] 28)) 28 #[.int .i64 q.b.b.x, .int .i64 q.b.b.y, .int .i64 q.b.b.z, .int .i64 q.b.s.x, .int .i64 q.b.s.y, .int .i64 q.b.s.z, .bool q.t0, .bool q.t1, .bool q.t2]).below hb
    simp only [World.size_alloc] at bp bq
    have BP := Lib.hid bp
    have BQ := Lib.hid bq
    have HB := Lib.hid (below_then (show Below w.heap.size w (((w.alloc (.cells #[.int .i64 d.x, .int .i64 d.y, .int .i64 d.z] 23)).alloc (.cells #[.int .i64 p.b.b.x, .int .i64 p.b.b.y, .int .i64 p.b.b.z, .int .i64 p.b.s.x, .int .i64 p.b.s.y, .int .i64 p.b.s.z, .bool p.t0, .bool p.t1, .bool p.t2] 28)).alloc (.cells #[.int .i64 q.b.b.x, .int .i64 q.b.b.y, .int .i64 q.b.b.z, .int .i64 q.b.s.x, .int .i64 q.b.s.y, .int .i64 q.b.s.z, .bool q.t0, .bool q.t1, .bool q.t2] 28)) by (repeat (first | (with_reducible exact Below.refl _ _) | (with_reducible assumption) | (with_reducible refine below_alloc ?_ _) | (with_reducible refine below_drewN ?_ _) | (with_reducible refine Below.drew ?_) | (with_reducible refine below_then ?_ (by with_reducible assumption)) | (with_reducible refine Below.setCell ?_ (by go_size) _)))) hb)
    clear hb bp bq
    ((have d0 := (BD.out).cell 0 _ rfl; have d1 := (BD.out).cell 1 _ rfl; have d2 := (BD.out).cell 2 _ rfl); (have p0 := (BP.out).cell 0 _ rfl; have p1 := (BP.out).cell 1 _ rfl; have p2 := (BP.out).cell 2 _ rfl; have p3 := (BP.out).cell 3 _ rfl; have p4 := (BP.out).cell 4 _ rfl; have p5 := (BP.out).cell 5 _ rfl; have p6 := (BP.out).cell 6 _ rfl; have p7 := (BP.out).cell 7 _ rfl; have p8 := (BP.out).cell 8 _ rfl); (have q0 := (BQ.out).cell 0 _ rfl; have q1 := (BQ.out).cell 1 _ rfl; have q2 := (BQ.out).cell 2 _ rfl; have q3 := (BQ.out).cell 3 _ rfl; have q4 := (BQ.out).cell 4 _ rfl; have q5 := (BQ.out).cell 5 _ rfl; have q6 := (BQ.out).cell 6 _ rfl; have q7 := (BQ.out).cell 7 _ rfl; have q8 := (BQ.out).cell 8 _ rfl); go_wp2_with fail)
    refine (H1.out _).mono ?_
    rintro e w2 ⟨rfl, hb⟩
    (have BD := Lib.hid (BD.out.below hb); have BP := Lib.hid (BP.out.below hb); have BQ := Lib.hid (BQ.out.below hb); have HB := Lib.hid (below_then HB.out hb); clear hb)
    (clear d0 d1 d2 p0 p1 p2 p3 p4 p5 p6 p7 p8 q0 q1 q2 q3 q4 q5 q6 q7 q8)
    ((have d0 := (BD.out).cell 0 _ rfl; have d1 := (BD.out).cell 1 _ rfl; have d2 := (BD.out).cell 2 _ rfl); (have p0 := (BP.out).cell 0 _ rfl; have p1 := (BP.out).cell 1 _ rfl; have p2 := (BP.out).cell 2 _ rfl; have p3 := (BP.out).cell 3 _ rfl; have p4 := (BP.out).cell 4 _ rfl; have p5 := (BP.out).cell 5 _ rfl; have p6 := (BP.out).cell 6 _ rfl; have p7 := (BP.out).cell 7 _ rfl; have p8 := (BP.out).cell 8 _ rfl); (have q0 := (BQ.out).cell 0 _ rfl; have q1 := (BQ.out).cell 1 _ rfl; have q2 := (BQ.out).cell 2 _ rfl; have q3 := (BQ.out).cell 3 _ rfl; have q4 := (BQ.out).cell 4 _ rfl; have q5 := (BQ.out).cell 5 _ rfl; have q6 := (BQ.out).cell 6 _ rfl; have q7 := (BQ.out).cell 7 _ rfl; have q8 := (BQ.out).cell 8 _ rfl); go_wp2_with fail)
    refine (H2.out _).mono ?_
    rintro e w3 ⟨rfl, hb⟩
    (have BD := Lib.hid (BD.out.below hb); have BP := Lib.hid (BP.out.below hb); have BQ := Lib.hid (BQ.out.below hb); have HB := Lib.hid (below_then HB.out hb); clear hb)
    (clear d0 d1 d2 p0 p1 p2 p3 p4 p5 p6 p7 p8 q0 q1 q2 q3 q4 q5 q6 q7 q8)
    ((have d0 := (BD.out).cell 0 _ rfl; have d1 := (BD.out).cell 1 _ rfl; have d2 := (BD.out).cell 2 _ rfl); (have p0 := (BP.out).cell 0 _ rfl; have p1 := (BP.out).cell 1 _ rfl; have p2 := (BP.out).cell 2 _ rfl; have p3 := (BP.out).cell 3 _ rfl; have p4 := (BP.out).cell 4 _ rfl; have p5 := (BP.out).cell 5 _ rfl; have p6 := (BP.out).cell 6 _ rfl; have p7 := (BP.out).cell 7 _ rfl; have p8 := (BP.out).cell 8 _ rfl); (have q0 := (BQ.out).cell 0 _ rfl; have q1 := (BQ.out).cell 1 _ rfl; have q2 := (BQ.out).cell 2 _ rfl; have q3 := (BQ.out).cell 3 _ rfl; have q4 := (BQ.out).cell 4 _ rfl; have q5 := (BQ.out).cell 5 _ rfl; have q6 := (BQ.out).cell 6 _ rfl; have q7 := (BQ.out).cell 7 _ rfl; have q8 := (BQ.out).cell 8 _ rfl); go_wp2_with fail)
    refine (H3.out _).mono ?_
    rintro e w4 ⟨rfl, hb⟩
    (have BD := Lib.hid (BD.out.below hb); have BP := Lib.hid (BP.out.below hb); have BQ := Lib.hid (BQ.out.below hb); have HB := Lib.hid (below_then HB.out hb); clear hb)
    (clear d0 d1 d2 p0 p1 p2 p3 p4 p5 p6 p7 p8 q0 q1 q2 q3 q4 q5 q6 q7 q8)
    ((have d0 := (BD.out).cell 0 _ rfl; have d1 := (BD.out).cell 1 _ rfl; have d2 := (BD.out).cell 2 _ rfl); (have p0 := (BP.out).cell 0 _ rfl; have p1 := (BP.out).cell 1 _ rfl; have p2 := (BP.out).cell 2 _ rfl; have p3 := (BP.out).cell 3 _ rfl; have p4 := (BP.out).cell 4 _ rfl; have p5 := (BP.out).cell 5 _ rfl; have p6 := (BP.out).cell 6 _ rfl; have p7 := (BP.out).cell 7 _ rfl; have p8 := (BP.out).cell 8 _ rfl); (have q0 := (BQ.out).cell 0 _ rfl; have q1 := (BQ.out).cell 1 _ rfl; have q2 := (BQ.out).cell 2 _ rfl; have q3 := (BQ.out).cell 3 _ rfl; have q4 := (BQ.out).cell 4 _ rfl; have q5 := (BQ.out).cell 5 _ rfl; have q6 := (BQ.out).cell 6 _ rfl; have q7 := (BQ.out).cell 7 _ rfl; have q8 := (BQ.out).cell 8 _ rfl); go_wp2_with fail)
    refine (H4.out _).mono ?_
    rintro e w5 ⟨rfl, hb⟩
    (have BD := Lib.hid (BD.out.below hb); have BP := Lib.hid (BP.out.below hb); have BQ := Lib.hid (BQ.out.below hb); have HB := Lib.hid (below_then HB.out hb); clear hb)
    (clear d0 d1 d2 p0 p1 p2 p3 p4 p5 p6 p7 p8 q0 q1 q2 q3 q4 q5 q6 q7 q8)
    have fp := BP.out.frozen 6
    have fp7 := BP.out.frozen 7
    have fp8 := BP.out.frozen 8
    have fq := BQ.out.frozen 6
    have fq7 := BQ.out.frozen 7
    have fq8 := BQ.out.frozen 8
    ((have d0 := (BD.out).cell 0 _ rfl; have d1 := (BD.out).cell 1 _ rfl; have d2 := (BD.out).cell 2 _ rfl); (have p0 := (BP.out).cell 0 _ rfl; have p1 := (BP.out).cell 1 _ rfl; have p2 := (BP.out).cell 2 _ rfl; have p3 := (BP.out).cell 3 _ rfl; have p4 := (BP.out).cell 4 _ rfl; have p5 := (BP.out).cell 5 _ rfl; have p6 := (BP.out).cell 6 _ rfl; have p7 := (BP.out).cell 7 _ rfl; have p8 := (BP.out).cell 8 _ rfl); (have q0 := (BQ.out).cell 0 _ rfl; have q1 := (BQ.out).cell 1 _ rfl; have q2 := (BQ.out).cell 2 _ rfl; have q3 := (BQ.out).cell 3 _ rfl; have q4 := (BQ.out).cell 4 _ rfl; have q5 := (BQ.out).cell 5 _ rfl; have q6 := (BQ.out).cell 6 _ rfl; have q7 := (BQ.out).cell 7 _ rfl; have q8 := (BQ.out).cell 8 _ rfl); go_wp2_with fail)
    have hB5 := HB.out
    refine (H5.out _).mono ?_
    rintro e w6 ⟨rfl, hb⟩
    have HB6 := Lib.hid (below_then (show Below w.heap.size w _ by (repeat (first | (with_reducible exact Below.refl _ _) | (with_reducible assumption) | (with_reducible refine below_alloc ?_ _) | (with_reducible refine below_drewN ?_ _) | (with_reducible refine Below.drew ?_) | (with_reducible refine below_then ?_ (by with_reducible assumption)) | (with_reducible refine Below.setCell ?_ (by go_size) _)))) hb)
    clear hb hB5 fp fp7 fp8 fq fq7 fq8
    (clear d0 d1 d2 p0 p1 p2 p3 p4 p5 p6 p7 p8 q0 q1 q2 q3 q4 q5 q6 q7 q8)
    cases M with
    | true =>
      obtain rfl : A = false := F3.out rfl
      go_wp2_with fail
      go_returns
      exact ⟨rfl, HB6.out⟩
    | false =>
      cases A
      all_goals
        go_wp2_with fail
        go_returns
        exact ⟨rfl, HB6.out⟩
  · have hv : apV d p q = false := if_neg h0
    have h0' : ¬ apE d q p = 0 := fun h => by obtain ⟨a, b⟩ := apE_0 h; exact h0 (apE_of b a)
    have hv' : apV d q p = false := if_neg h0'
    have hy : (apE d p q != 0) = true := by simpa using h0
    rw [hv] at H1
    rw [hv'] at H2
    generalize apE d p q = E1 at *
    generalize apE d q p = E2 at *
    clear h0 h0' hv hv'
    go_enter Try.func4, Try.ntmps4
    go_wp2_with fail
    refine (law06_alive _).mono ?_
    rintro e w1 ⟨rfl, hb⟩
    have BD := Lib.hid ((((Blk.new w 23 #[.int .i64 d.x, .int .i64 d.y, .int .i64 d.z]).alloc (.cells #[.int .i64 p.b.b.x, .int .i64 p.b.b.y, .int .i64 p.b.b.z, .int .i64 p.b.s.x, .int .i64 p.b.s.y, .int .i64 p.b.s.z, .bool p.t0, .bool p.t1, .bool p.t2] 28)).alloc (.cells #[.int .i64 q.b.b.x, .int .i64 q.b.b.y, .int .i64 q.b.b.z, .int .i64 q.b.s.x, .int .i64 q.b.s.y, .int .i64 q.b.s.z, .bool q.t0, .bool q.t1, .bool q.t2] 28)).below hb)
    have bp := ((Blk.new (w.alloc (.cells #[.int .i64 d.x, .int .i64 d.y, .int .i64 d.z] 23)) 28 #[.int .i64 p.b.b.x, .int .i64 p.b.b.y, .int .i64 p.b.b.z, .int .i64 p.b.s.x, .int .i64 p.b.s.y, .int .i64 p.b.s.z, .bool p.t0, .bool p.t1, .bool p.t2]).alloc (.cells #[.int .i64 q.b.b.x, .int .i64 q.b.b.y, .int .i64 q.b.b.z, .int .i64 q.b.s.x, .int .i64 q.b.s.y, .int .i64 q.b.s.z, .bool q.t0, .bool q.t1, .bool q.t2] 28)).below hb
    have bq := (Blk.new ((w.alloc (.cells #[.int .i64 d.x, .int .i64 d.y, .int .i64 d.z] 23)).alloc (.cells #[.int .i64 p.b.b.x, .int .i64 p.b.b.y, .int .i64 p.b.b.z, .int .i64 p.b.s.x, .int .i64 p.b.s.y, .int .i64 p.b.s.z, .bool p.t0, .bool p.t1, .bool p.t2] 28)) 28 #[.int .i64 q.b.b.x, .int .i64 q.b.b.y, .int .i64 q.b.b.z, .int .i64 q.b.s.x, .int .i64 q.b.s.y, .int .i64 q.b.s.z, .bool q.t0, .bool q.t1, .bool q.t2]).below hb
    simp only [World.size_alloc] at bp bq
    have BP := Lib.hid bp
    have BQ := Lib.hid bq
    have HB := Lib.hid (below_then (show Below w.heap.size w (((w.alloc (.cells #[.int .i64 d.x, .int .i64 d.y, .int .i64 d.z] 23)).alloc (.cells #[.int .i64 p.b.b.x, .int .i64 p.b.b.y, .int .i64 p.b.b.z, .int .i64 p.b.s.x, .int .i64 p.b.s.y, .int .i64 p.b.s.z, .bool p.t0, .bool p.t1, .bool p.t2] 28)).alloc (.cells #[.int .i64 q.b.b.x, .int .i64 q.b.b.y, .int .i64 q.b.b.z, .int .i64 q.b.s.x, .int .i64 q.b.s.y, .int .i64 q.b.s.z, .bool q.t0, .bool q.t1, .bool q.t2] 28)) by (repeat (first | (with_reducible exact Below.refl _ _) | (with_reducible assumption) | (with_reducible refine below_alloc ?_ _) | (with_reducible refine below_drewN ?_ _) | (with_reducible refine Below.drew ?_) | (with_reducible refine below_then ?_ (by with_reducible assumption)) | (with_reducible refine Below.setCell ?_ (by go_size) _)))) hb)
    clear hb bp bq
    ((have d0 := (BD.out).cell 0 _ rfl; have d1 := (BD.out).cell 1 _ rfl; have d2 := (BD.out).cell 2 _ rfl); (have p0 := (BP.out).cell 0 _ rfl; have p1 := (BP.out).cell 1 _ rfl; have p2 := (BP.out).cell 2 _ rfl; have p3 := (BP.out).cell 3 _ rfl; have p4 := (BP.out).cell 4 _ rfl; have p5 := (BP.out).cell 5 _ rfl; have p6 := (BP.out).cell 6 _ rfl; have p7 := (BP.out).cell 7 _ rfl; have p8 := (BP.out).cell 8 _ rfl); (have q0 := (BQ.out).cell 0 _ rfl; have q1 := (BQ.out).cell 1 _ rfl; have q2 := (BQ.out).cell 2 _ rfl; have q3 := (BQ.out).cell 3 _ rfl; have q4 := (BQ.out).cell 4 _ rfl; have q5 := (BQ.out).cell 5 _ rfl; have q6 := (BQ.out).cell 6 _ rfl; have q7 := (BQ.out).cell 7 _ rfl; have q8 := (BQ.out).cell 8 _ rfl); go_wp2_with fail)
    refine (H1.out _).mono ?_
    rintro e w2 ⟨rfl, hb⟩
    (have BD := Lib.hid (BD.out.below hb); have BP := Lib.hid (BP.out.below hb); have BQ := Lib.hid (BQ.out.below hb); have HB := Lib.hid (below_then HB.out hb); clear hb)
    (clear d0 d1 d2 p0 p1 p2 p3 p4 p5 p6 p7 p8 q0 q1 q2 q3 q4 q5 q6 q7 q8)
    ((have d0 := (BD.out).cell 0 _ rfl; have d1 := (BD.out).cell 1 _ rfl; have d2 := (BD.out).cell 2 _ rfl); (have p0 := (BP.out).cell 0 _ rfl; have p1 := (BP.out).cell 1 _ rfl; have p2 := (BP.out).cell 2 _ rfl; have p3 := (BP.out).cell 3 _ rfl; have p4 := (BP.out).cell 4 _ rfl; have p5 := (BP.out).cell 5 _ rfl; have p6 := (BP.out).cell 6 _ rfl; have p7 := (BP.out).cell 7 _ rfl; have p8 := (BP.out).cell 8 _ rfl); (have q0 := (BQ.out).cell 0 _ rfl; have q1 := (BQ.out).cell 1 _ rfl; have q2 := (BQ.out).cell 2 _ rfl; have q3 := (BQ.out).cell 3 _ rfl; have q4 := (BQ.out).cell 4 _ rfl; have q5 := (BQ.out).cell 5 _ rfl; have q6 := (BQ.out).cell 6 _ rfl; have q7 := (BQ.out).cell 7 _ rfl; have q8 := (BQ.out).cell 8 _ rfl); go_wp2_with fail)
    refine (H2.out _).mono ?_
    rintro e w3 ⟨rfl, hb⟩
    have HB3 := below_then HB.out hb
    clear hb
    (clear d0 d1 d2 p0 p1 p2 p3 p4 p5 p6 p7 p8 q0 q1 q2 q3 q4 q5 q6 q7 q8)
    go_wp2_with fail
    go_returns
    exact ⟨rfl, HB3⟩
set_option maxRecDepth 100000 in set_option maxHeartbeats 4000000 in
theorem lift_placeApart (os : Os) (started : os.Started) (H : Type) (enc : TypeId × Value → H) :
    ReturnsInHanded {} Try.checked os 4 .any (Rows.placeApartSpec.pre6 enc Try.prog Try.f4 Rows.placeApartRow.domain false) (Rows.placeApartSpec.post enc Try.prog Try.f4 false true false false) := by
  refine returnsInHanded_of_change (C := Try.checked) ownKnob0 started (by kernel_rfl) Try.func4
    (ChangeSpec.witness6 (enc := enc) (C := Try.checked) false ⟨#[], #[.agg #[.int .i64 0, .int .i64 0, .int .i64 0], .agg #[.int .i64 0, .int .i64 0, .int .i64 0, .int .i64 0, .int .i64 0, .int .i64 0, .bool false, .bool false, .bool false], .agg #[.int .i64 0, .int .i64 0, .int .i64 0, .int .i64 0, .int .i64 0, .int .i64 0, .bool false, .bool false, .bool false]], []⟩ 8 (by kernel_rfl) (by kernel_rfl) (by kernel_rfl) (by kernel_rfl)) ?_
  intro W base args ds gs before hval0 hW hcnd _
  have hval : ∀ (j : Nat) t v, Try.f4.params[j]? = some t → args[j]? = some v → Value.okWide Try.prog W .any base t v := hval0
  have hW' := hW
  obtain ⟨p, q, hA0, hV, rfl, hfz, hnd⟩ := hW
  have hA : DataW.TrodAll enc Try.prog W 0 (fun _ => true) true Try.f4.params.toList args.toList ds p := hA0
  rw [Try.params4] at hA hval
  have hK := hA
  obtain ⟨v0, vs0, d0, ds0, p0, q0, hargs, rfl, rfl, h0, r0⟩ := trodAll_cons hA
  obtain ⟨v1, vs1, d1, ds1, p1, q1, rfl, rfl, rfl, h1, r1⟩ := trodAll_cons r0
  obtain ⟨v2, vs2, d2, ds2, p2, q2, rfl, rfl, rfl, h2, r2⟩ := trodAll_cons r1
  obtain ⟨rfl, rfl, rfl⟩ := trodAll_nil r2
  obtain rfl : args = #[v0, v1, v2] := by cases args; simp_all
  obtain ⟨d, rfl⟩ := open_dims (hval 0 _ v0 rfl rfl)
  obtain ⟨p, rfl⟩ := open_place (hval 1 _ v1 rfl rfl)
  obtain ⟨q, rfl⟩ := open_place (hval 2 _ v2 rfl rfl)
  obtain ⟨rfl, rfl⟩ := trodVars_none hV
  clear hA0 hval0
  simp only [List.append_nil] at hW' hK
  refine (law06_PlaceApart d p q W).mono fun e W' ⟨he, bel⟩ => ?_
  subst he
  refine ⟨_, rfl, _, _, _, [], _, [], hW', trodAll_mk1 (shut_bool Try.underlying4 _), trodAll_below bel _ _ _ _ ?_ hK, rfl, bel.frame _, fun h => by cases h⟩
  intro t ht
  simp at ht <;> (rcases ht with rfl | rfl | rfl <;> exact ⟨by kernel_rfl, of_decide_eq_true (by kernel_rfl)⟩)

theorem holds_placeApart : Rows.placeApartRow.holds Try.pinned (OpenSpec.ofChange Rows.placeApartSpec) :=
  OpenClaim.holds_of_wide 4 Try.f4 rfl rfl rfl rfl rfl rfl rfl ⟨rfl, rfl, rfl, rfl, rfl⟩ rfl rfl rfl rfl rfl (by kernel_rfl) Try.func4 (by kernel_rfl)
    (of_decide_eq_true (by kernel_rfl)) (by unfold Func.isWrapper; first | (rw [if_pos (by decide +kernel)]; kernel_rfl) | (rw [if_neg (by decide +kernel)]; exact ⟨rfl, rfl⟩))
    (fun os started H enc _ => lift_placeApart os started H enc)

theorem PlaceApart_holds : Rows.PlaceApartSaid := holds_placeApart
end Go.Proofs.Ythabpiphfaedaaa
