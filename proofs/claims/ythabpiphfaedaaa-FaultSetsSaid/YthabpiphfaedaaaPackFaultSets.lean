/- FaultSets: what may not be taken, and what a place stands on, is told as the document says; the marks stay: the call returns true. -/
import Derived.Test.YthabpiphfaedaaaQ0Fault9
import Derived.Test.YthabpiphfaedaaaQ9FaultSets
namespace Go.Proofs.Ythabpiphfaedaaa

section
open Go.ChangeShapes Go.WideShapes Go.ChangeAt Go.RowKit Go.Shelf

theorem badN_ok (d : V3) (a b c : List Int) : W64 (badN d a b c) ∧ (badN d a b c).length ≤ 192 := by
  unfold badN; split
  · exact ⟨ofSet_fit' _ _, ofSet_len' _ _⟩
  · exact ⟨fun x hx => by simp at hx, by simp⟩
theorem badL_ok (d : V3) (a b c : List Int) : W64 (badL d a b c) ∧ (badL d a b c).length ≤ 192 := by
  unfold badL; split
  · exact ⟨ofSet_fit' _ _, ofSet_len' _ _⟩
  · exact ⟨fun x hx => by simp at hx, by simp⟩
set_option maxRecDepth 100000 in set_option maxHeartbeats 4000000 in
theorem core_FaultSets (d : V3) (ba bb bc : Option Addr) (ca cb cc : Nat) (a b c : List Int) (p : Pl) (m k : Int) (w : World) (ra : Rd w ba (ic a)) (rb : Rd w bb (ic b)) (rc : Rd w bc (ic c))
    (na : ba = none → a.length = 0 ∧ ca = 0) (nb : bb = none → b.length = 0 ∧ cb = 0) (nc : bc = none → c.length = 0 ∧ cc = 0) (h1 : a.length ≤ 20000) (h2 : b.length ≤ 20000) (h3 : c.length ≤ 20000) :
    Calls Try.prog 7 #[.agg #[.int .i64 d.x, .int .i64 d.y, .int .i64 d.z], .slice ba a.length ca, .slice bb b.length cb, .slice bc c.length cc, .agg #[.int .i64 p.b.b.x, .int .i64 p.b.b.y, .int .i64 p.b.b.z, .int .i64 p.b.s.x, .int .i64 p.b.s.y, .int .i64 p.b.s.z, .bool p.t0, .bool p.t1, .bool p.t2], .int .i64 m, .int .i64 k] w (RB w (.bool true)) := by
  obtain ⟨i0, hi, iz0, iz1, iz2⟩ := info_parts infoInt
  have ha : IIn w ba a := ⟨ra, by omega⟩
  have hb : IIn w bb b := ⟨rb, by omega⟩
  have hc : IIn w bc c := ⟨rc, by omega⟩
  have A1 := Lib.hid (fun W bo co (h : Below w.heap.size w W) (ho : IIn W bo a) (hn : bo = none → a.length = 0 ∧ co = 0) => fault_Bad d bo bb bc co cb cc a b c W ho (hb.keep h) (hc.keep h) hn nb nc)
  have A2 := Lib.hid (fun W (h : Below w.heap.size w W) => ref17_Bad d ba bb bc ca cb cc a b c W (ha.keep h) (hb.keep h) (hc.keep h) na nb)
  have B1 := Lib.hid (fun W => fault_Hit d p m k W)
  have B2 := Lib.hid (fun W => ref17_Hit d p m k W)
  have F1 := Lib.hid (badN_ok d a b c)
  have F2 := Lib.hid (badL_ok d a b c)
  have l1 := (badN_ok d a b c).2
  have l2 := (badL_ok d a b c).2
  have S1 := Lib.hid (fun W b1 b2 c1 c2 (h : SetIn W b1 (badN d a b c)) (h2 : SetIn W b2 (badN d a b c)) => Calls.rb_eq (ref17_SameSet b1 b2 c1 c2 _ _ W h h2) (show Value.bool (decide (badN d a b c = badN d a b c)) = .bool true by simp))
  have S2 := Lib.hid (fun W b1 b2 c1 c2 (h : SetIn W b1 (badL d a b c)) (h2 : SetIn W b2 (badL d a b c)) => Calls.rb_eq (ref17_SameSet b1 b2 c1 c2 _ _ W h h2) (show Value.bool (decide (badL d a b c = badL d a b c)) = .bool true by simp))
  have S3 := Lib.hid (fun W bo co (h : Below w.heap.size w W) (ho : IIn W bo a) => Calls.rb_eq (same_ref bo ba co ca a a W ho (ha.keep h)) (show Value.bool (decide (a = a)) = .bool true by simp))
  have g1 : decide (20000 < a.length) = false := decide_eq_false (by omega)
  have g2 : decide (20000 < b.length) = false := decide_eq_false (by omega)
  have g3 : decide (20000 < c.length) = false := decide_eq_false (by omega)
  have RA := Lib.hid ra
  have NA := Lib.hid na
  clear ra rb rc na nb nc ha hb hc
  generalize badN d a b c = M at *
  generalize badL d a b c = L at *
  generalize badE d a b c = x at *
  generalize hitV d p m k = y at *
  generalize hitE d p m k = z at *
  have HB := Lib.hid (show Below w.heap.size w ((w.alloc (.cells #[.int .i64 d.x, .int .i64 d.y, .int .i64 d.z] 23)).alloc (.cells #[.int .i64 p.b.b.x, .int .i64 p.b.b.y, .int .i64 p.b.b.z, .int .i64 p.b.s.x, .int .i64 p.b.s.y, .int .i64 p.b.s.z, .bool p.t0, .bool p.t1, .bool p.t2] 28)) by (repeat (first | (with_reducible exact Below.refl _ _) | (with_reducible assumption) | (with_reducible refine below_alloc ?_ _) | (with_reducible refine below_drewN ?_ _) | (with_reducible refine Below.drew ?_) | (with_reducible refine below_then ?_ (by with_reducible assumption)) | (with_reducible refine Below.setCell ?_ (by go_size) _))))
  have RA2 := Lib.hid (RA.out.keep HB.out)
  go_enter Try.func7, Try.ntmps7
  go_wp2_with (at_builtin; refine wpList_addE _ rfl _ _ 30 rfl 3 i0 (.int .i64 0) 1 8 Try.underlying30 hi iz0 iz1 iz2 rfl (by decide) (by decide) (w.heap.size + 1 + 1) (by simp) _ (by rfl) _ _ (World.ownsRow_nil _ _ _ _) ba a.length ca (ic a) (by rfl) (by rw [ic_len]; omega) NA.out RA2.out (ic_one a) (by omega) ?_)
  intro v w1 o1 hb0
  have hb : Below ((w.alloc (.cells #[.int .i64 d.x, .int .i64 d.y, .int .i64 d.z] 23)).alloc (.cells #[.int .i64 p.b.b.x, .int .i64 p.b.b.y, .int .i64 p.b.b.z, .int .i64 p.b.s.x, .int .i64 p.b.s.y, .int .i64 p.b.s.z, .bool p.t0, .bool p.t1, .bool p.t2] 28)).heap.size ((w.alloc (.cells #[.int .i64 d.x, .int .i64 d.y, .int .i64 d.z] 23)).alloc (.cells #[.int .i64 p.b.b.x, .int .i64 p.b.b.y, .int .i64 p.b.b.z, .int .i64 p.b.s.x, .int .i64 p.b.s.y, .int .i64 p.b.s.z, .bool p.t0, .bool p.t1, .bool p.t2] 28)) w1 := by
    rw [World.size_alloc, World.size_alloc]
    exact hb0
  clear hb0
  have o1' : w1.ownsRow (w.heap.size + 1 + 1) 3 1 v a.length (ic a) := by simpa using o1
  obtain ⟨bo, co, rfl, ro, _⟩ := own_rd o1'
  have no := own_none o1'
  have HO := Lib.hid (show IIn w1 bo a from ⟨ro, by omega⟩)
  have NO := Lib.hid no
  have BD := Lib.hid (((Blk.new w 23 #[.int .i64 d.x, .int .i64 d.y, .int .i64 d.z]).alloc (.cells #[.int .i64 p.b.b.x, .int .i64 p.b.b.y, .int .i64 p.b.b.z, .int .i64 p.b.s.x, .int .i64 p.b.s.y, .int .i64 p.b.s.z, .bool p.t0, .bool p.t1, .bool p.t2] 28)).below hb)
  have BP := Lib.hid ((by have := (Blk.new (w.alloc (.cells #[.int .i64 d.x, .int .i64 d.y, .int .i64 d.z] 23)) 28 #[.int .i64 p.b.b.x, .int .i64 p.b.b.y, .int .i64 p.b.b.z, .int .i64 p.b.s.x, .int .i64 p.b.s.y, .int .i64 p.b.s.z, .bool p.t0, .bool p.t1, .bool p.t2]).below hb; rwa [World.size_alloc] at this : Blk w1 (w.heap.size + 1) 28 #[.int .i64 p.b.b.x, .int .i64 p.b.b.y, .int .i64 p.b.b.z, .int .i64 p.b.s.x, .int .i64 p.b.s.y, .int .i64 p.b.s.z, .bool p.t0, .bool p.t1, .bool p.t2]))
  have HB := Lib.hid (below_then HB.out hb)
  clear o1 o1' ro no hb RA RA2
  (have d0 := (BD.out).cell 0 _ rfl; have d1 := (BD.out).cell 1 _ rfl; have d2 := (BD.out).cell 2 _ rfl)
  go_wp2_with fail
  refine (A1.out _ _ _ HB.out HO.out NO.out).mono ?_
  rintro e w2 ⟨v, u, rfl, ov, ou, hb⟩
  (have BD := Lib.hid (BD.out.below hb); have BP := Lib.hid (BP.out.below hb); have HB := Lib.hid (below_then HB.out hb); have HO := Lib.hid (HO.out.keep hb); (try have M1 := Lib.hid (M1.out.keep hb)); (try have L1 := Lib.hid (L1.out.keep hb)); (try have M2 := Lib.hid (M2.out.keep hb)); (try have L2 := Lib.hid (L2.out.keep hb)))
  obtain ⟨b1, c1, rfl, s1, _⟩ := set_of_own ov (by omega) F1.out.1
  obtain ⟨b2, c2, rfl, s2, _⟩ := set_of_own ou (by omega) F2.out.1
  have M1 := Lib.hid s1
  have L1 := Lib.hid s2
  clear hb ov ou s1 s2 A1
  (clear d0 d1 d2)
  (have d0 := (BD.out).cell 0 _ rfl; have d1 := (BD.out).cell 1 _ rfl; have d2 := (BD.out).cell 2 _ rfl)
  go_wp2_with fail
  refine (A2.out _ HB.out).mono ?_
  rintro e w3 ⟨v, u, rfl, ov, ou, hb⟩
  (have BD := Lib.hid (BD.out.below hb); have BP := Lib.hid (BP.out.below hb); have HB := Lib.hid (below_then HB.out hb); have HO := Lib.hid (HO.out.keep hb); (try have M1 := Lib.hid (M1.out.keep hb)); (try have L1 := Lib.hid (L1.out.keep hb)); (try have M2 := Lib.hid (M2.out.keep hb)); (try have L2 := Lib.hid (L2.out.keep hb)))
  obtain ⟨b3, c3, rfl, s1, _⟩ := set_of_own ov (by omega) F1.out.1
  obtain ⟨b4, c4, rfl, s2, _⟩ := set_of_own ou (by omega) F2.out.1
  have M2 := Lib.hid s1
  have L2 := Lib.hid s2
  clear hb ov ou s1 s2 A2
  (clear d0 d1 d2)
  (have d0 := (BD.out).cell 0 _ rfl; have d1 := (BD.out).cell 1 _ rfl; have d2 := (BD.out).cell 2 _ rfl)
  (have p0 := (BP.out).cell 0 _ rfl; have p1 := (BP.out).cell 1 _ rfl; have p2 := (BP.out).cell 2 _ rfl; have p3 := (BP.out).cell 3 _ rfl; have p4 := (BP.out).cell 4 _ rfl; have p5 := (BP.out).cell 5 _ rfl; have p6 := (BP.out).cell 6 _ rfl; have p7 := (BP.out).cell 7 _ rfl; have p8 := (BP.out).cell 8 _ rfl)
  go_wp2_with fail
  refine (B1.out _).mono ?_
  rintro e w4 ⟨rfl, hb⟩
  (have BD := Lib.hid (BD.out.below hb); have BP := Lib.hid (BP.out.below hb); have HB := Lib.hid (below_then HB.out hb); have HO := Lib.hid (HO.out.keep hb); (try have M1 := Lib.hid (M1.out.keep hb)); (try have L1 := Lib.hid (L1.out.keep hb)); (try have M2 := Lib.hid (M2.out.keep hb)); (try have L2 := Lib.hid (L2.out.keep hb)))
  clear hb B1
  (clear d0 d1 d2)
  (clear p0 p1 p2 p3 p4 p5 p6 p7 p8)
  (have d0 := (BD.out).cell 0 _ rfl; have d1 := (BD.out).cell 1 _ rfl; have d2 := (BD.out).cell 2 _ rfl)
  (have p0 := (BP.out).cell 0 _ rfl; have p1 := (BP.out).cell 1 _ rfl; have p2 := (BP.out).cell 2 _ rfl; have p3 := (BP.out).cell 3 _ rfl; have p4 := (BP.out).cell 4 _ rfl; have p5 := (BP.out).cell 5 _ rfl; have p6 := (BP.out).cell 6 _ rfl; have p7 := (BP.out).cell 7 _ rfl; have p8 := (BP.out).cell 8 _ rfl)
  go_wp2_with fail
  refine (B2.out _).mono ?_
  rintro e w5 ⟨rfl, hb⟩
  (have BD := Lib.hid (BD.out.below hb); have BP := Lib.hid (BP.out.below hb); have HB := Lib.hid (below_then HB.out hb); have HO := Lib.hid (HO.out.keep hb); (try have M1 := Lib.hid (M1.out.keep hb)); (try have L1 := Lib.hid (L1.out.keep hb)); (try have M2 := Lib.hid (M2.out.keep hb)); (try have L2 := Lib.hid (L2.out.keep hb)))
  clear hb B2
  (clear d0 d1 d2)
  (clear p0 p1 p2 p3 p4 p5 p6 p7 p8)
  go_wp2_with fail
  refine (S1.out _ _ _ _ _ M1.out M2.out).mono ?_
  rintro e w6 ⟨rfl, hb⟩
  (have BD := Lib.hid (BD.out.below hb); have BP := Lib.hid (BP.out.below hb); have HB := Lib.hid (below_then HB.out hb); have HO := Lib.hid (HO.out.keep hb); (try have M1 := Lib.hid (M1.out.keep hb)); (try have L1 := Lib.hid (L1.out.keep hb)); (try have M2 := Lib.hid (M2.out.keep hb)); (try have L2 := Lib.hid (L2.out.keep hb)))
  clear hb S1
  go_wp2_with fail
  refine (S2.out _ _ _ _ _ L1.out L2.out).mono ?_
  rintro e w7 ⟨rfl, hb⟩
  (have BD := Lib.hid (BD.out.below hb); have BP := Lib.hid (BP.out.below hb); have HB := Lib.hid (below_then HB.out hb); have HO := Lib.hid (HO.out.keep hb); (try have M1 := Lib.hid (M1.out.keep hb)); (try have L1 := Lib.hid (L1.out.keep hb)); (try have M2 := Lib.hid (M2.out.keep hb)); (try have L2 := Lib.hid (L2.out.keep hb)))
  clear hb S2
  go_wp2_with fail
  refine (S3.out _ _ _ HB.out HO.out).mono ?_
  rintro e w8 ⟨rfl, hb⟩
  have HB := Lib.hid (below_then HB.out hb)
  clear hb
  go_wp2_with fail
  go_returns
  exact ⟨rfl, HB.out⟩
set_option maxRecDepth 100000 in set_option maxHeartbeats 4000000 in
theorem law17_FaultSets (d : V3) (ba bb bc : Option Addr) (ca cb cc : Nat) (a b c : List Int) (p : Pl) (m k : Int) (w : World) (ra : Rd w ba (ic a)) (rb : Rd w bb (ic b)) (rc : Rd w bc (ic c))
    (ma : a.length ≤ maxLen) (mb : b.length ≤ maxLen) (mc : c.length ≤ maxLen) (na : ba = none → a.length = 0 ∧ ca = 0) (nb : bb = none → b.length = 0 ∧ cb = 0) (nc : bc = none → c.length = 0 ∧ cc = 0) :
    Calls Try.prog 7 #[.agg #[.int .i64 d.x, .int .i64 d.y, .int .i64 d.z], .slice ba a.length ca, .slice bb b.length cb, .slice bc c.length cc, .agg #[.int .i64 p.b.b.x, .int .i64 p.b.b.y, .int .i64 p.b.b.z, .int .i64 p.b.s.x, .int .i64 p.b.s.y, .int .i64 p.b.s.z, .bool p.t0, .bool p.t1, .bool p.t2], .int .i64 m, .int .i64 k] w (RB w (.bool true)) := by
  unfold maxLen at ma mb mc
  by_cases h1 : 20000 < a.length
  · have g1 : decide (20000 < a.length) = true := decide_eq_true h1
    clear ra rb rc na nb nc
    go_enter Try.func7, Try.ntmps7
    go_wp2_with fail
    go_returns
    exact ⟨rfl, by (repeat (first | (with_reducible exact Below.refl _ _) | (with_reducible assumption) | (with_reducible refine below_alloc ?_ _) | (with_reducible refine below_drewN ?_ _) | (with_reducible refine Below.drew ?_) | (with_reducible refine below_then ?_ (by with_reducible assumption)) | (with_reducible refine Below.setCell ?_ (by go_size) _)))⟩
  by_cases h2 : 20000 < b.length
  · have g1 : decide (20000 < a.length) = false := decide_eq_false h1
    have g2 : decide (20000 < b.length) = true := decide_eq_true h2
    clear ra rb rc na nb nc
    go_enter Try.func7, Try.ntmps7
    go_wp2_with fail
    go_returns
    exact ⟨rfl, by (repeat (first | (with_reducible exact Below.refl _ _) | (with_reducible assumption) | (with_reducible refine below_alloc ?_ _) | (with_reducible refine below_drewN ?_ _) | (with_reducible refine Below.drew ?_) | (with_reducible refine below_then ?_ (by with_reducible assumption)) | (with_reducible refine Below.setCell ?_ (by go_size) _)))⟩
  by_cases h3 : 20000 < c.length
  · have g1 : decide (20000 < a.length) = false := decide_eq_false h1
    have g2 : decide (20000 < b.length) = false := decide_eq_false h2
    have g3 : decide (20000 < c.length) = true := decide_eq_true h3
    clear ra rb rc na nb nc
    go_enter Try.func7, Try.ntmps7
    go_wp2_with fail
    go_returns
    exact ⟨rfl, by (repeat (first | (with_reducible exact Below.refl _ _) | (with_reducible assumption) | (with_reducible refine below_alloc ?_ _) | (with_reducible refine below_drewN ?_ _) | (with_reducible refine Below.drew ?_) | (with_reducible refine below_then ?_ (by with_reducible assumption)) | (with_reducible refine Below.setCell ?_ (by go_size) _)))⟩
  exact core_FaultSets d ba bb bc ca cb cc a b c p m k w ra rb rc na nb nc (by omega) (by omega) (by omega)
set_option maxRecDepth 100000 in set_option maxHeartbeats 4000000 in
theorem lift_faultSets (os : Os) (started : os.Started) (H : Type) (enc : TypeId × Value → H) :
    ReturnsInHanded {} Try.checked os 7 .any (Rows.faultSetsSpec.pre6 enc Try.prog Try.f7 Rows.faultSetsRow.domain false) (Rows.faultSetsSpec.post enc Try.prog Try.f7 false true false false) := by
  refine returnsInHanded_of_change (C := Try.checked) ownKnob0 started (by kernel_rfl) Try.func7
    (ChangeSpec.witness6 (enc := enc) (C := Try.checked) false ⟨#[], #[.agg #[.int .i64 0, .int .i64 0, .int .i64 0], .slice none 0 0, .slice none 0 0, .slice none 0 0, .agg #[.int .i64 0, .int .i64 0, .int .i64 0, .int .i64 0, .int .i64 0, .int .i64 0, .bool false, .bool false, .bool false], .int .i64 0, .int .i64 0], []⟩ 8 (by kernel_rfl) (by kernel_rfl) (by kernel_rfl) (by kernel_rfl)) ?_
  intro W base args ds gs before hval0 hW hcnd _
  have hval : ∀ (j : Nat) t v, Try.f7.params[j]? = some t → args[j]? = some v → Value.okWide Try.prog W .any base t v := hval0
  have hW' := hW
  obtain ⟨p, q, hA0, hV, rfl, hfz, hnd⟩ := hW
  have hA : DataW.TrodAll enc Try.prog W 0 (fun _ => true) true Try.f7.params.toList args.toList ds p := hA0
  rw [Try.params7] at hA hval
  have hK := hA
  obtain ⟨v0, vs0, d0, ds0, p0, q0, hargs, rfl, rfl, h0, r0⟩ := trodAll_cons hA
  obtain ⟨v1, vs1, d1, ds1, p1, q1, rfl, rfl, rfl, h1, r1⟩ := trodAll_cons r0
  obtain ⟨v2, vs2, d2, ds2, p2, q2, rfl, rfl, rfl, h2, r2⟩ := trodAll_cons r1
  obtain ⟨v3, vs3, d3, ds3, p3, q3, rfl, rfl, rfl, h3, r3⟩ := trodAll_cons r2
  obtain ⟨v4, vs4, d4, ds4, p4, q4, rfl, rfl, rfl, h4, r4⟩ := trodAll_cons r3
  obtain ⟨v5, vs5, d5, ds5, p5, q5, rfl, rfl, rfl, h5, r5⟩ := trodAll_cons r4
  obtain ⟨v6, vs6, d6, ds6, p6, q6, rfl, rfl, rfl, h6, r6⟩ := trodAll_cons r5
  obtain ⟨rfl, rfl, rfl⟩ := trodAll_nil r6
  obtain rfl : args = #[v0, v1, v2, v3, v4, v5, v6] := by cases args; simp_all
  obtain ⟨d, rfl⟩ := open_dims (hval 0 _ v0 rfl rfl)
  obtain ⟨ba, a, ca, rfl, ra, ma, _, na⟩ := open_row Try.underlying30 Try.underlying3 (by kernel_rfl) (hval 1 _ v1 rfl rfl) h1
  obtain ⟨bb, b, cb, rfl, rb, mb, _, nb⟩ := open_row Try.underlying30 Try.underlying3 (by kernel_rfl) (hval 2 _ v2 rfl rfl) h2
  obtain ⟨bc, c, cc, rfl, rc, mc, _, nc⟩ := open_row Try.underlying30 Try.underlying3 (by kernel_rfl) (hval 3 _ v3 rfl rfl) h3
  obtain ⟨pp, rfl⟩ := open_place (hval 4 _ v4 rfl rfl)
  obtain ⟨m, rfl⟩ := okWide_int Try.underlying3 (hval 5 _ v5 rfl rfl)
  obtain ⟨k, rfl⟩ := okWide_int Try.underlying3 (hval 6 _ v6 rfl rfl)
  obtain ⟨rfl, rfl⟩ := trodVars_none hV
  clear hA0 hval0
  simp only [List.append_nil] at hW' hK
  refine (law17_FaultSets d ba bb bc ca cb cc a b c pp m k W ra rb rc ma mb mc na nb nc).mono fun e W' ⟨he, bel⟩ => ?_
  subst he
  refine ⟨_, rfl, _, _, _, [], _, [], hW', trodAll_mk1 (shut_bool Try.underlying4 _), trodAll_below bel _ _ _ _ ?_ hK, rfl, bel.frame _, fun h => by cases h⟩
  intro t ht
  simp at ht <;> (rcases ht with rfl | rfl | rfl | rfl | rfl | rfl | rfl <;> exact ⟨by kernel_rfl, of_decide_eq_true (by kernel_rfl)⟩)

theorem holds_faultSets : Rows.faultSetsRow.holds Try.pinned (OpenSpec.ofChange Rows.faultSetsSpec) :=
  OpenClaim.holds_of_wide 7 Try.f7 rfl rfl rfl rfl rfl rfl rfl ⟨rfl, rfl, rfl, rfl, rfl⟩ rfl rfl rfl rfl rfl (by kernel_rfl) Try.func7 (by kernel_rfl)
    (of_decide_eq_true (by kernel_rfl)) (by unfold Func.isWrapper; first | (rw [if_pos (by decide +kernel)]; kernel_rfl) | (rw [if_neg (by decide +kernel)]; exact ⟨rfl, rfl⟩))
    (fun os started H enc _ => lift_faultSets os started H enc)

theorem FaultSets_holds : Rows.FaultSetsSaid := holds_faultSets
end
end Go.Proofs.Ythabpiphfaedaaa
