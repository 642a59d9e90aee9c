/- PlaceTells: whether a place may be, what it takes, what it passes, whether two are apart, or the errors, are the document's: the call returns true. -/
import Derived.Test.YthabpiphfaedaaaQ4PlaceTells
import Derived.Test.YthabpiphfaedaaaQ0RefPass
import Derived.Test.YthabpiphfaedaaaQ0RowPlace
namespace Go.Proofs.Ythabpiphfaedaaa

section
open Go.ChangeShapes Go.WideShapes Go.ChangeAt Go.RowKit Go.Shelf

theorem passV_len (d : V3) (p : Pl) : (passV d p).length ≤ 1000000 := by
  by_cases hz : plChk d p = 0
  · obtain ⟨hd, hb, _, _⟩ := plChk_0 hz
    rw [show passV d p = Lib.compact (sorted (outsOf d p (cabsV d p))) from if_pos hz]
    have h1 := Lib.compact_length_le (sorted (outsOf d p (cabsV d p)))
    rw [sorted_len] at h1
    have h2 := outsOf_len d p (cabsV d p)
    have h3 := cabsV_le hd hb
    omega
  · rw [show passV d p = [] from if_neg hz]
    exact Nat.zero_le _
set_option maxRecDepth 100000 in set_option maxHeartbeats 4000000 in
theorem law06_PlaceTells (d : V3) (p q : Pl) (w : World) : Calls Try.prog 6 #[.agg #[.int .i64 d.x, .int .i64 d.y, .int .i64 d.z], .agg #[.int .i64 p.b.b.x, .int .i64 p.b.b.y, .int .i64 p.b.b.z, .int .i64 p.b.s.x, .int .i64 p.b.s.y, .int .i64 p.b.s.z, .bool p.t0, .bool p.t1, .bool p.t2], .agg #[.int .i64 q.b.b.x, .int .i64 q.b.b.y, .int .i64 q.b.b.z, .int .i64 q.b.s.x, .int .i64 q.b.s.y, .int .i64 q.b.s.z, .bool q.t0, .bool q.t1, .bool q.t2]] w (RB w (.bool true)) := by
  have A1 := Lib.hid (fun W => place_Sets d p W)
  have A2 := Lib.hid (fun W => ref06_Sets d p W)
  have B1 := Lib.hid (fun W => place_Passes d p W)
  have B2 := Lib.hid (fun W => ref06_Passes d p W)
  have C1 := Lib.hid (fun W => place_Apart d p q W)
  have C2 := Lib.hid (fun W => ref06_Apart d p q W)
  have K1 := Lib.hid (fun W => place_Check d p W)
  have K2 := Lib.hid (fun W => ref06_Check d p W)
  have F := Lib.hid (And.intro (midsV_fit d p) (linksV_fit d p))
  have l1 := midsV_len d p
  have l2 := linksV_len d p
  have l3 := passV_len d p
  have S1 := Lib.hid (fun W b1 b2 c1 c2 (h : SetIn W b1 (midsV d p)) (h2 : SetIn W b2 (midsV d p)) => Calls.rb_eq (ref03_Same b1 b2 c1 c2 _ _ W h h2) (show Value.bool (decide (midsV d p = midsV d p)) = .bool true by simp))
  have S2 := Lib.hid (fun W b1 b2 c1 c2 (h : SetIn W b1 (linksV d p)) (h2 : SetIn W b2 (linksV d p)) => Calls.rb_eq (ref03_Same b1 b2 c1 c2 _ _ W h h2) (show Value.bool (decide (linksV d p = linksV d p)) = .bool true by simp))
  have S3 := Lib.hid (fun W b1 b2 c1 c2 (h : LIn W b1 (passV d p)) (h2 : LIn W b2 (passV d p)) => Calls.rb_eq (ref02_Ints b1 b2 c1 c2 _ _ W h h2) (show Value.bool (decide (passV d p = passV d p)) = .bool true by simp))
  generalize midsV d p = M at *
  generalize linksV d p = L at *
  generalize passV d p = P at *
  generalize plChk d p = x at *
  generalize apV d p q = y at *
  generalize apE d p q = z at *
  go_enter Try.func6, Try.ntmps6
  go_wp2_with fail
  refine (A1.out _).mono ?_
  rintro e w1 ⟨v, u, rfl, ov, ou, hb⟩
  have BD := Lib.hid ((((Blk.new w 23 #[.int .i64 d.x, .int .i64 d.y, .int .i64 d.z]).alloc (.cells #[.int .i64 p.b.b.x, .int .i64 p.b.b.y, .int .i64 p.b.b.z, .int .i64 p.b.s.x, .int .i64 p.b.s.y, .int .i64 p.b.s.z, .bool p.t0, .bool p.t1, .bool p.t2] 28)).alloc (.cells #[.int .i64 q.b.b.x, .int .i64 q.b.b.y, .int .i64 q.b.b.z, .int .i64 q.b.s.x, .int .i64 q.b.s.y, .int .i64 q.b.s.z, .bool q.t0, .bool q.t1, .bool q.t2] 28)).below hb)
  have bp := ((Blk.new (w.alloc (.cells #[.int .i64 d.x, .int .i64 d.y, .int .i64 d.z] 23)) 28 #[.int .i64 p.b.b.x, .int .i64 p.b.b.y, .int .i64 p.b.b.z, .int .i64 p.b.s.x, .int .i64 p.b.s.y, .int .i64 p.b.s.z, .bool p.t0, .bool p.t1, .bool p.t2]).alloc (.cells #[.int .i64 q.b.b.x, .int .i64 q.b.b.y, .int .i64 q.b.b.z, .int .i64 q.b.s.x, .int .i64 q.b.s.y, .int .i64 q.b.s.z, .bool q.t0, .bool q.t1, .bool q.t2] 28)).below hb
  have bq := (Blk.new ((w.alloc (.cells #[.int .i64 d.x, .int .i64 d.y, .int .i64 d.z] 23)).alloc (.cells #[.int .i64 p.b.b.x, .int .i64 p.b.b.y, .int .i64 p.b.b.z, .int .i64 p.b.s.x, .int .i64 p.b.s.y, .int .i64 p.b.s.z, .bool p.t0, .bool p.t1, .bool p.t2] 28)) 28 #[.int .i64 q.b.b.x, .int .i64 q.b.b.y, .int .i64 q.b.b.z, .int .i64 q.b.s.x, .int .i64 q.b.s.y, .int .i64 q.b.s.z, .bool q.t0, .bool q.t1, .bool q.t2]).below hb
  simp only [World.size_alloc] at bp bq
  have BP := Lib.hid bp
  have BQ := Lib.hid bq
  have HB := Lib.hid (below_then (show Below w.heap.size w (((w.alloc (.cells #[.int .i64 d.x, .int .i64 d.y, .int .i64 d.z] 23)).alloc (.cells #[.int .i64 p.b.b.x, .int .i64 p.b.b.y, .int .i64 p.b.b.z, .int .i64 p.b.s.x, .int .i64 p.b.s.y, .int .i64 p.b.s.z, .bool p.t0, .bool p.t1, .bool p.t2] 28)).alloc (.cells #[.int .i64 q.b.b.x, .int .i64 q.b.b.y, .int .i64 q.b.b.z, .int .i64 q.b.s.x, .int .i64 q.b.s.y, .int .i64 q.b.s.z, .bool q.t0, .bool q.t1, .bool q.t2] 28)) by (repeat (first | (with_reducible exact Below.refl _ _) | (with_reducible assumption) | (with_reducible refine below_alloc ?_ _) | (with_reducible refine below_drewN ?_ _) | (with_reducible refine Below.drew ?_) | (with_reducible refine below_then ?_ (by with_reducible assumption)) | (with_reducible refine Below.setCell ?_ (by go_size) _)))) hb)
  obtain ⟨b1, c1, rfl, s1, _⟩ := set_of_own ov (by omega) F.out.1
  obtain ⟨b2, c2, rfl, s2, _⟩ := set_of_own ou (by omega) F.out.2
  have M1 := Lib.hid s1
  have L1 := Lib.hid s2
  clear hb bp bq ov ou s1 s2 A1
  ((have d0 := (BD.out).cell 0 _ rfl; have d1 := (BD.out).cell 1 _ rfl; have d2 := (BD.out).cell 2 _ rfl); (have p0 := (BP.out).cell 0 _ rfl; have p1 := (BP.out).cell 1 _ rfl; have p2 := (BP.out).cell 2 _ rfl; have p3 := (BP.out).cell 3 _ rfl; have p4 := (BP.out).cell 4 _ rfl; have p5 := (BP.out).cell 5 _ rfl; have p6 := (BP.out).cell 6 _ rfl; have p7 := (BP.out).cell 7 _ rfl; have p8 := (BP.out).cell 8 _ rfl); go_wp2_with fail)
  refine (A2.out _).mono ?_
  rintro e w2 ⟨v, u, rfl, ov, ou, hb⟩
  (have BD := Lib.hid (BD.out.below hb); have BP := Lib.hid (BP.out.below hb); have BQ := Lib.hid (BQ.out.below hb); have HB := Lib.hid (below_then HB.out hb); (try have M1 := Lib.hid (M1.out.keep hb)); (try have L1 := Lib.hid (L1.out.keep hb)); (try have M2 := Lib.hid (M2.out.keep hb)); (try have L2 := Lib.hid (L2.out.keep hb)); (try have P1 := Lib.hid (P1.out.keep hb)); (try have P2 := Lib.hid (P2.out.keep hb)))
  obtain ⟨b3, c3, rfl, s1, _⟩ := set_of_own ov (by omega) F.out.1
  obtain ⟨b4, c4, rfl, s2, _⟩ := set_of_own ou (by omega) F.out.2
  have M2 := Lib.hid s1
  have L2 := Lib.hid s2
  clear hb ov ou s1 s2 A2
  (clear d0 d1 d2 p0 p1 p2 p3 p4 p5 p6 p7 p8)
  ((have d0 := (BD.out).cell 0 _ rfl; have d1 := (BD.out).cell 1 _ rfl; have d2 := (BD.out).cell 2 _ rfl); (have p0 := (BP.out).cell 0 _ rfl; have p1 := (BP.out).cell 1 _ rfl; have p2 := (BP.out).cell 2 _ rfl; have p3 := (BP.out).cell 3 _ rfl; have p4 := (BP.out).cell 4 _ rfl; have p5 := (BP.out).cell 5 _ rfl; have p6 := (BP.out).cell 6 _ rfl; have p7 := (BP.out).cell 7 _ rfl; have p8 := (BP.out).cell 8 _ rfl); go_wp2_with fail)
  refine (B1.out _).mono ?_
  rintro e w3 ⟨v, rfl, ov, hb⟩
  (have BD := Lib.hid (BD.out.below hb); have BP := Lib.hid (BP.out.below hb); have BQ := Lib.hid (BQ.out.below hb); have HB := Lib.hid (below_then HB.out hb); (try have M1 := Lib.hid (M1.out.keep hb)); (try have L1 := Lib.hid (L1.out.keep hb)); (try have M2 := Lib.hid (M2.out.keep hb)); (try have L2 := Lib.hid (L2.out.keep hb)); (try have P1 := Lib.hid (P1.out.keep hb)); (try have P2 := Lib.hid (P2.out.keep hb)))
  obtain ⟨b5, c5, rfl, s1, _⟩ := list_of_own ov (by omega)
  have P1 := Lib.hid s1
  clear hb ov s1 B1
  (clear d0 d1 d2 p0 p1 p2 p3 p4 p5 p6 p7 p8)
  ((have d0 := (BD.out).cell 0 _ rfl; have d1 := (BD.out).cell 1 _ rfl; have d2 := (BD.out).cell 2 _ rfl); (have p0 := (BP.out).cell 0 _ rfl; have p1 := (BP.out).cell 1 _ rfl; have p2 := (BP.out).cell 2 _ rfl; have p3 := (BP.out).cell 3 _ rfl; have p4 := (BP.out).cell 4 _ rfl; have p5 := (BP.out).cell 5 _ rfl; have p6 := (BP.out).cell 6 _ rfl; have p7 := (BP.out).cell 7 _ rfl; have p8 := (BP.out).cell 8 _ rfl); go_wp2_with fail)
  refine (B2.out _).mono ?_
  rintro e w4 ⟨v, rfl, ov, hb⟩
  (have BD := Lib.hid (BD.out.below hb); have BP := Lib.hid (BP.out.below hb); have BQ := Lib.hid (BQ.out.below hb); have HB := Lib.hid (below_then HB.out hb); (try have M1 := Lib.hid (M1.out.keep hb)); (try have L1 := Lib.hid (L1.out.keep hb)); (try have M2 := Lib.hid (M2.out.keep hb)); (try have L2 := Lib.hid (L2.out.keep hb)); (try have P1 := Lib.hid (P1.out.keep hb)); (try have P2 := Lib.hid (P2.out.keep hb)))
  obtain ⟨b6, c6, rfl, s1, _⟩ := list_of_own ov (by omega)
  have P2 := Lib.hid s1
  clear hb ov s1 B2
  (clear d0 d1 d2 p0 p1 p2 p3 p4 p5 p6 p7 p8)
  ((have d0 := (BD.out).cell 0 _ rfl; have d1 := (BD.out).cell 1 _ rfl; have d2 := (BD.out).cell 2 _ rfl); (have p0 := (BP.out).cell 0 _ rfl; have p1 := (BP.out).cell 1 _ rfl; have p2 := (BP.out).cell 2 _ rfl; have p3 := (BP.out).cell 3 _ rfl; have p4 := (BP.out).cell 4 _ rfl; have p5 := (BP.out).cell 5 _ rfl; have p6 := (BP.out).cell 6 _ rfl; have p7 := (BP.out).cell 7 _ rfl; have p8 := (BP.out).cell 8 _ rfl); (have q0 := (BQ.out).cell 0 _ rfl; have q1 := (BQ.out).cell 1 _ rfl; have q2 := (BQ.out).cell 2 _ rfl; have q3 := (BQ.out).cell 3 _ rfl; have q4 := (BQ.out).cell 4 _ rfl; have q5 := (BQ.out).cell 5 _ rfl; have q6 := (BQ.out).cell 6 _ rfl; have q7 := (BQ.out).cell 7 _ rfl; have q8 := (BQ.out).cell 8 _ rfl); go_wp2_with fail)
  refine (C1.out _).mono ?_
  rintro e w5 ⟨rfl, hb⟩
  (have BD := Lib.hid (BD.out.below hb); have BP := Lib.hid (BP.out.below hb); have BQ := Lib.hid (BQ.out.below hb); have HB := Lib.hid (below_then HB.out hb); (try have M1 := Lib.hid (M1.out.keep hb)); (try have L1 := Lib.hid (L1.out.keep hb)); (try have M2 := Lib.hid (M2.out.keep hb)); (try have L2 := Lib.hid (L2.out.keep hb)); (try have P1 := Lib.hid (P1.out.keep hb)); (try have P2 := Lib.hid (P2.out.keep hb)))
  clear hb C1
  (clear d0 d1 d2 p0 p1 p2 p3 p4 p5 p6 p7 p8)
  (clear q0 q1 q2 q3 q4 q5 q6 q7 q8)
  ((have d0 := (BD.out).cell 0 _ rfl; have d1 := (BD.out).cell 1 _ rfl; have d2 := (BD.out).cell 2 _ rfl); (have p0 := (BP.out).cell 0 _ rfl; have p1 := (BP.out).cell 1 _ rfl; have p2 := (BP.out).cell 2 _ rfl; have p3 := (BP.out).cell 3 _ rfl; have p4 := (BP.out).cell 4 _ rfl; have p5 := (BP.out).cell 5 _ rfl; have p6 := (BP.out).cell 6 _ rfl; have p7 := (BP.out).cell 7 _ rfl; have p8 := (BP.out).cell 8 _ rfl); (have q0 := (BQ.out).cell 0 _ rfl; have q1 := (BQ.out).cell 1 _ rfl; have q2 := (BQ.out).cell 2 _ rfl; have q3 := (BQ.out).cell 3 _ rfl; have q4 := (BQ.out).cell 4 _ rfl; have q5 := (BQ.out).cell 5 _ rfl; have q6 := (BQ.out).cell 6 _ rfl; have q7 := (BQ.out).cell 7 _ rfl; have q8 := (BQ.out).cell 8 _ rfl); go_wp2_with fail)
  refine (C2.out _).mono ?_
  rintro e w6 ⟨rfl, hb⟩
  (have BD := Lib.hid (BD.out.below hb); have BP := Lib.hid (BP.out.below hb); have BQ := Lib.hid (BQ.out.below hb); have HB := Lib.hid (below_then HB.out hb); (try have M1 := Lib.hid (M1.out.keep hb)); (try have L1 := Lib.hid (L1.out.keep hb)); (try have M2 := Lib.hid (M2.out.keep hb)); (try have L2 := Lib.hid (L2.out.keep hb)); (try have P1 := Lib.hid (P1.out.keep hb)); (try have P2 := Lib.hid (P2.out.keep hb)))
  clear hb C2
  (clear d0 d1 d2 p0 p1 p2 p3 p4 p5 p6 p7 p8)
  (clear q0 q1 q2 q3 q4 q5 q6 q7 q8)
  have I1 := Lib.hid (fun (y : Aft w6) => Calls.aft_of (x := y) (K1.out y.to))
  have I2 := Lib.hid (fun (y : Aft w6) => Calls.aft_of (x := y) (K2.out y.to))
  have I3 := Lib.hid (fun (y : Aft w6) => Calls.aft_of (x := y) (S1.out y.to b1 b3 c1 c3 (M1.out.keep y.h) (M2.out.keep y.h)))
  have I4 := Lib.hid (fun (y : Aft w6) => Calls.aft_of (x := y) (S2.out y.to b2 b4 c2 c4 (L1.out.keep y.h) (L2.out.keep y.h)))
  have I5 := Lib.hid (fun (y : Aft w6) => Calls.aft_of (x := y) (S3.out y.to b5 b6 c5 c6 (P1.out.keep y.h) (P2.out.keep y.h)))
  have hld := BD.out.lt
  have hlp := BP.out.lt
  clear K1 K2 S1 S2 S3 M1 M2 L1 L2 P1 P2
  (have d0 := (BD.out).cell 0 _ rfl; have d1 := (BD.out).cell 1 _ rfl; have d2 := (BD.out).cell 2 _ rfl)
  (have p0 := (BP.out).cell 0 _ rfl; have p1 := (BP.out).cell 1 _ rfl; have p2 := (BP.out).cell 2 _ rfl; have p3 := (BP.out).cell 3 _ rfl; have p4 := (BP.out).cell 4 _ rfl; have p5 := (BP.out).cell 5 _ rfl; have p6 := (BP.out).cell 6 _ rfl; have p7 := (BP.out).cell 7 _ rfl; have p8 := (BP.out).cell 8 _ rfl)
  clear BD BP BQ
  go_wp2_with fail
  (refine wp_region_aft (by kernel_rfl) (by kernel_rfl) ?_; (repeat (any_goals (first | go_big_quiet_step ((first | (go_at_call 16; with_reducible exact I1.out _) | (go_at_call 21; with_reducible exact I2.out _) | (go_at_call 22; first | with_reducible exact I3.out _ | with_reducible exact I4.out _) | (go_at_call 15; with_reducible exact I5.out _))) | quiet_step ((first | (go_at_call 16; with_reducible exact I1.out _) | (go_at_call 21; with_reducible exact I2.out _) | (go_at_call 22; first | with_reducible exact I3.out _ | with_reducible exact I4.out _) | (go_at_call 15; with_reducible exact I5.out _))) | (refine wpQuiet_step (fun K hK => ?_); go_simp; split <;> (refine hK _ ?_; clear hK K))))); all_goals (refine wpQuiet_nil ?_; intro wq hw'; obtain ⟨x1, hx1⟩ := hw'; have hbq := x1.h; rw [← hx1] at hbq; clear hx1 x1))
  all_goals
    have HB7 := Lib.hid (below_then HB.out hbq)
    clear hbq
    go_wp2_with fail
    go_returns
    exact ⟨rfl, HB7.out⟩
set_option maxRecDepth 100000 in set_option maxHeartbeats 4000000 in
theorem lift_placeTells (os : Os) (started : os.Started) (H : Type) (enc : TypeId × Value → H) :
    ReturnsInHanded {} Try.checked os 6 .any (Rows.placeTellsSpec.pre6 enc Try.prog Try.f6 Rows.placeTellsRow.domain false) (Rows.placeTellsSpec.post enc Try.prog Try.f6 false true false false) := by
  refine returnsInHanded_of_change (C := Try.checked) ownKnob0 started (by kernel_rfl) Try.func6
    (ChangeSpec.witness6 (enc := enc) (C := Try.checked) false ⟨#[], #[.agg #[.int .i64 0, .int .i64 0, .int .i64 0], .agg #[.int .i64 0, .int .i64 0, .int .i64 0, .int .i64 0, .int .i64 0, .int .i64 0, .bool false, .bool false, .bool false], .agg #[.int .i64 0, .int .i64 0, .int .i64 0, .int .i64 0, .int .i64 0, .int .i64 0, .bool false, .bool false, .bool false]], []⟩ 8 (by kernel_rfl) (by kernel_rfl) (by kernel_rfl) (by kernel_rfl)) ?_
  intro W base args ds gs before hval0 hW hcnd _
  have hval : ∀ (j : Nat) t v, Try.f6.params[j]? = some t → args[j]? = some v → Value.okWide Try.prog W .any base t v := hval0
  have hW' := hW
  obtain ⟨p, q, hA0, hV, rfl, hfz, hnd⟩ := hW
  have hA : DataW.TrodAll enc Try.prog W 0 (fun _ => true) true Try.f6.params.toList args.toList ds p := hA0
  rw [Try.params6] at hA hval
  have hK := hA
  obtain ⟨v0, vs0, d0, ds0, p0, q0, hargs, rfl, rfl, h0, r0⟩ := trodAll_cons hA
  obtain ⟨v1, vs1, d1, ds1, p1, q1, rfl, rfl, rfl, h1, r1⟩ := trodAll_cons r0
  obtain ⟨v2, vs2, d2, ds2, p2, q2, rfl, rfl, rfl, h2, r2⟩ := trodAll_cons r1
  obtain ⟨rfl, rfl, rfl⟩ := trodAll_nil r2
  obtain rfl : args = #[v0, v1, v2] := by cases args; simp_all
  obtain ⟨d, rfl⟩ := open_dims (hval 0 _ v0 rfl rfl)
  obtain ⟨p, rfl⟩ := open_place (hval 1 _ v1 rfl rfl)
  obtain ⟨q, rfl⟩ := open_place (hval 2 _ v2 rfl rfl)
  obtain ⟨rfl, rfl⟩ := trodVars_none hV
  clear hA0 hval0
  simp only [List.append_nil] at hW' hK
  refine (law06_PlaceTells d p q W).mono fun e W' ⟨he, bel⟩ => ?_
  subst he
  refine ⟨_, rfl, _, _, _, [], _, [], hW', trodAll_mk1 (shut_bool Try.underlying4 _), trodAll_below bel _ _ _ _ ?_ hK, rfl, bel.frame _, fun h => by cases h⟩
  intro t ht
  simp at ht <;> (rcases ht with rfl | rfl | rfl <;> exact ⟨by kernel_rfl, of_decide_eq_true (by kernel_rfl)⟩)

theorem holds_placeTells : Rows.placeTellsRow.holds Try.pinned (OpenSpec.ofChange Rows.placeTellsSpec) :=
  OpenClaim.holds_of_wide 6 Try.f6 rfl rfl rfl rfl rfl rfl rfl ⟨rfl, rfl, rfl, rfl, rfl⟩ rfl rfl rfl rfl rfl (by kernel_rfl) Try.func6 (by kernel_rfl)
    (of_decide_eq_true (by kernel_rfl)) (by unfold Func.isWrapper; first | (rw [if_pos (by decide +kernel)]; kernel_rfl) | (rw [if_neg (by decide +kernel)]; exact ⟨rfl, rfl⟩))
    (fun os started H enc _ => lift_placeTells os started H enc)

theorem PlaceTells_holds : Rows.PlaceTellsSaid := holds_placeTells
end
end Go.Proofs.Ythabpiphfaedaaa
