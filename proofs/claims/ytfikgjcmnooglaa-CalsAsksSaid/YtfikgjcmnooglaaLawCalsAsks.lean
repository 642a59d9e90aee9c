/- CalsAsks: what is not free through a span, and what an owner has at a moment, of a machine's calendars, are the document's: the call returns true. -/
import Derived.Test.YtfikgjcmnooglaaYardC
import Derived.Test.YtfikgjcmnooglaaRowYard
namespace Go.Proofs.Ytfikgjcmnooglaa
open Go.ChangeShapes Go.WideShapes Go.ChangeAt Go.RowKit Go.Shelf

/-- What a law that looks at calendars and their twin has at hand. -/
structure Twn (w W : World) (Y S O : Nat) (tY tS tO : TypeId) (d : V3) (ns ls : List (List Sl)) (bn bl bm bk : Option Addr) (cn cl cm ck : Nat) (f t : Int) : Prop where
  yb : Blk W Y tY #[.int .i64 d.x, .int .i64 d.y, .int .i64 d.z, (.slice bn ns.length cn), (.slice bl ls.length cl)]
  sb : Blk W S tS #[.int .i64 f, .int .i64 t]
  ob : Blk W O tO #[.int .i64 d.x, .int .i64 d.y, .int .i64 d.z, (.slice bm ns.length cm), (.slice bk ls.length ck)]
  hy : YS W (.agg #[.int .i64 d.x, .int .i64 d.y, .int .i64 d.z, (.slice bn ns.length cn), (.slice bl ls.length cl)]) ⟨d, ns, ls⟩
  ho : YS W (.agg #[.int .i64 d.x, .int .i64 d.y, .int .i64 d.z, (.slice bm ns.length cm), (.slice bk ls.length ck)]) ⟨d, ns, ls⟩
  hb : Below w.heap.size w W
theorem Twn.keep {w W W' : World} {Y S O : Nat} {tY tS tO : TypeId} {d : V3} {ns ls : List (List Sl)} {bn bl bm bk : Option Addr} {cn cl cm ck : Nat} {f t : Int} (h : Twn w W Y S O tY tS tO d ns ls bn bl bm bk cn cl cm ck f t) (hb : Below W.heap.size W W') : Twn w W' Y S O tY tS tO d ns ls bn bl bm bk cn cl cm ck f t :=
  ⟨h.yb.below hb, h.sb.below hb, h.ob.below hb, h.hy.keep hb, h.ho.keep hb, below_then h.hb hb⟩
set_option maxRecDepth 100000 in set_option maxHeartbeats 4000000 in
theorem core_CalsAsks (d : V3) (bn bl : Option Addr) (cn cl : Nat) (ns ls : List (List Sl)) (ow f t a : Int) (w : World) (hn : CC w bn ns) (hl : CC w bl ls) (hg : greatB ns ls = false) (ht : tot ns + tot ls ≤ 10000)
    (hG : ∀ W, Below w.heap.size w W → Calls Try.prog 26 #[.agg #[.int .i64 d.x, .int .i64 d.y, .int .i64 d.z, (.slice bn ns.length cn), (.slice bl ls.length cl)]] W (RB W (.bool (greatB ns ls)))) :
    Calls Try.prog 4 #[.agg #[.int .i64 d.x, .int .i64 d.y, .int .i64 d.z, (.slice bn ns.length cn), (.slice bl ls.length cl)], .int .i64 ow, .agg #[.int .i64 f, .int .i64 t], .int .i64 a] w (RB w (.bool true)) := by
  have G1 := Lib.hid (fun W h => Calls.rb_eq (hG W h) (show Value.bool (greatB ns ls) = .bool false by rw [hg]))
  have G2 := Lib.hid (fun W (h : Below w.heap.size w W) => ref09_Twin d bn bl cn cl ns ls W (hn.keep h) (hl.keep h))
  have HN := Lib.hid hn
  have HL := Lib.hid hl
  have C1 := Lib.hid (fun W v (h : YS W v ⟨d, ns, ls⟩) => y_Busy h f t)
  have D1 := Lib.hid (fun W v (h : YS W v ⟨d, ns, ls⟩) => y_RBusy h f t)
  have C2 := Lib.hid (fun W v (h : YS W v ⟨d, ns, ls⟩) => y_Owned h ow a)
  have D2 := Lib.hid (fun W v (h : YS W v ⟨d, ns, ls⟩) => y_ROwned h ow a ht)
  have E1 := Lib.hid (fun W u v (x : List Nat) (h : SS W u x) (h2 : SS W v x) => Calls.rb_eq (h.same h2) (show Value.bool (decide (x = x)) = .bool true by simp))
  have E2 := Lib.hid (fun W u v (h : YS W u ⟨d, ns, ls⟩) (h2 : YS W v ⟨d, ns, ls⟩) => Calls.rb_eq (y_Same h h2) (show Value.bool _ = .bool true by rw [Yd.same_self]))
  generalize (busyV ⟨d, ns, ls⟩ f t).1 = x1 at *
  generalize (busyV ⟨d, ns, ls⟩ f t).2 = x2 at *
  generalize busyE ⟨d, ns, ls⟩ f t = x3 at *
  generalize (ownV ⟨d, ns, ls⟩ ow a).1 = x4 at *
  generalize (ownV ⟨d, ns, ls⟩ ow a).2 = x5 at *
  generalize ownE ⟨d, ns, ls⟩ a = x6 at *
  clear hn hl hg hG ht
  go_enter Try.func4, Try.ntmps4
  go_wp2_with ((with_reducible refine (G1.out _ (by (repeat (first | (with_reducible exact Below.refl _ _) | (with_reducible assumption) | (with_reducible refine below_alloc ?_ _) | (with_reducible refine below_drewN ?_ _) | (with_reducible refine Below.drew ?_) | (with_reducible refine below_then ?_ (by with_reducible assumption)) | (with_reducible refine Below.setCell ?_ (by go_size) _))))).mono ?_); rintro e w1 ⟨rfl, hb1⟩; (obtain ⟨hc1, hf1⟩ := bcell hb1; have hz1 := hb1.size; (try simp at hz1); have hB : Below w.heap.size w w1 := (by (repeat (first | (with_reducible exact Below.refl _ _) | (with_reducible assumption) | (with_reducible refine below_alloc ?_ _) | (with_reducible refine below_drewN ?_ _) | (with_reducible refine Below.drew ?_) | (with_reducible refine below_then ?_ (by with_reducible assumption)) | (with_reducible refine Below.setCell ?_ (by go_size) _)))); obtain ⟨hcB, hfB⟩ := bcell hB; (try have z0 : w.heap.size < w1.heap.size := by omega); (try have z1 : w.heap.size + 1 < w1.heap.size := by omega); (try have z2 : w.heap.size + 2 < w1.heap.size := by omega); (try have z3 : w.heap.size + 3 < w1.heap.size := by omega)))
  have G2 := Lib.hid (G2.out w1 (by (repeat (first | (with_reducible exact Below.refl _ _) | (with_reducible assumption) | (with_reducible refine below_alloc ?_ _) | (with_reducible refine below_drewN ?_ _) | (with_reducible refine Below.drew ?_) | (with_reducible refine below_then ?_ (by with_reducible assumption)) | (with_reducible refine Below.setCell ?_ (by go_size) _)))))
  have YB := Lib.hid (show Blk w1 w.heap.size 42 #[.int .i64 d.x, .int .i64 d.y, .int .i64 d.z, (.slice bn ns.length cn), (.slice bl ls.length cl)] from ((Blk.new w 42 #[.int .i64 d.x, .int .i64 d.y, .int .i64 d.z, (.slice bn ns.length cn), (.slice bl ls.length cl)]).alloc _).below hb1)
  have SB := Lib.hid (show Blk w1 (w.heap.size + 1) 24 #[.int .i64 f, .int .i64 t] from Blk.below (by rw [show w.heap.size + 1 = (w.alloc (.cells #[.int .i64 d.x, .int .i64 d.y, .int .i64 d.z, (.slice bn ns.length cn), (.slice bl ls.length cl)] 42)).heap.size by simp]; exact Blk.new ..) hb1)
  have HB := Lib.hid hB
  clear hc1 hf1 hz1 hcB hfB hB
  refine (G2.out).mono ?_
  rintro e w2 ⟨u, v, rfl, hu, hv, hb2⟩
  have HS := Lib.hid (great_cc HN.out HL.out)
  obtain ⟨bm, cm, rfl, _, hcm⟩ := hu.cc HS.out.1.1 HS.out.1.2
  obtain ⟨bk, ck, rfl, _, hck⟩ := hv.cc HS.out.2.1 HS.out.2.2
  have YB := Lib.hid (YB.out.below hb2)
  have SB := Lib.hid (SB.out.below hb2)
  have HB := Lib.hid (below_then HB.out hb2)
  have HM := Lib.hid hcm
  have HK := Lib.hid hck
  have hz2 := HB.out.size
  have hlt0 := SB.out.lt
  clear hu hv hcm hck hb2 hb1 G2 HS
  go_upto_region 4 with fail
  obtain ⟨W3, hW3⟩ : ∃ W3, W3 = w2.alloc (.cells #[.int .i64 d.x, .int .i64 d.y, .int .i64 d.z, (.slice bm ns.length cm), (.slice bk ls.length ck)] 42) := ⟨_, rfl⟩
  rw [← hW3]
  have hb3 : Below w2.heap.size w2 W3 := by rw [hW3]; (repeat (first | (with_reducible exact Below.refl _ _) | (with_reducible assumption) | (with_reducible refine below_alloc ?_ _) | (with_reducible refine below_drewN ?_ _) | (with_reducible refine Below.drew ?_) | (with_reducible refine below_then ?_ (by with_reducible assumption)) | (with_reducible refine Below.setCell ?_ (by go_size) _)))
  have OB : Blk W3 w2.heap.size 42 #[.int .i64 d.x, .int .i64 d.y, .int .i64 d.z, (.slice bm ns.length cm), (.slice bk ls.length ck)] := by
    rw [hW3]
    exact Blk.new ..
  have T := Lib.hid (show Twn w W3 w.heap.size (w.heap.size + 1) w2.heap.size 42 24 42 d ns ls bn bl bm bk cn cl cm ck f t from
    ⟨YB.out.below hb3, SB.out.below hb3, OB, ⟨bn, bl, cn, cl, rfl, HN.out.keep (below_then HB.out hb3), HL.out.keep (below_then HB.out hb3)⟩, ⟨bm, bk, cm, ck, rfl, HM.out.keep hb3, HK.out.keep hb3⟩, below_then HB.out hb3⟩)
  clear hW3 hb3 OB YB SB HB HM HK HN HL hz2 hlt0
  (have o0 := T.out.ob.cell 0 _ rfl; have o1 := T.out.ob.cell 1 _ rfl; have o2 := T.out.ob.cell 2 _ rfl; have o3 := T.out.ob.cell 3 _ rfl; have o4 := T.out.ob.cell 4 _ rfl)
  (have s0 := T.out.sb.cell 0 _ rfl; have s1 := T.out.sb.cell 1 _ rfl)
  go_wp2_with fail
  refine (C1.out _ _ T.out.ho).mono ?_
  rintro e w4 ⟨a1, a2, rfl, A1, A2, hb⟩
  have T := Lib.hid (T.out.keep hb)
  have A1 := Lib.hid A1
  have A2 := Lib.hid A2
  clear hb o0 o1 o2 o3 o4 s0 s1
  (have y0 := T.out.yb.cell 0 _ rfl; have y1 := T.out.yb.cell 1 _ rfl; have y2 := T.out.yb.cell 2 _ rfl; have y3 := T.out.yb.cell 3 _ rfl; have y4 := T.out.yb.cell 4 _ rfl)
  (have s0 := T.out.sb.cell 0 _ rfl; have s1 := T.out.sb.cell 1 _ rfl)
  go_wp2_with fail
  refine (D1.out _ _ T.out.hy).mono ?_
  rintro e w5 ⟨c1, c2, rfl, B1, B2, hb⟩
  have T := Lib.hid (T.out.keep hb)
  have A1 := Lib.hid (A1.out.keep hb)
  have A2 := Lib.hid (A2.out.keep hb)
  have B1 := Lib.hid B1
  have B2 := Lib.hid B2
  clear hb y0 y1 y2 y3 y4 s0 s1
  (have o0 := T.out.ob.cell 0 _ rfl; have o1 := T.out.ob.cell 1 _ rfl; have o2 := T.out.ob.cell 2 _ rfl; have o3 := T.out.ob.cell 3 _ rfl; have o4 := T.out.ob.cell 4 _ rfl)
  go_wp2_with fail
  refine (C2.out _ _ T.out.ho).mono ?_
  rintro e w6 ⟨g1, g2, rfl, G1, G2, hb⟩
  have T := Lib.hid (T.out.keep hb)
  have A1 := Lib.hid (A1.out.keep hb)
  have A2 := Lib.hid (A2.out.keep hb)
  have B1 := Lib.hid (B1.out.keep hb)
  have B2 := Lib.hid (B2.out.keep hb)
  have G1 := Lib.hid G1
  have G2 := Lib.hid G2
  clear hb o0 o1 o2 o3 o4
  (have y0 := T.out.yb.cell 0 _ rfl; have y1 := T.out.yb.cell 1 _ rfl; have y2 := T.out.yb.cell 2 _ rfl; have y3 := T.out.yb.cell 3 _ rfl; have y4 := T.out.yb.cell 4 _ rfl)
  go_wp2_with fail
  refine (D2.out _ _ T.out.hy).mono ?_
  rintro e w7 ⟨j1, j2, rfl, J1, J2, hb⟩
  have T := Lib.hid (T.out.keep hb)
  have A1 := Lib.hid (A1.out.keep hb)
  have A2 := Lib.hid (A2.out.keep hb)
  have B1 := Lib.hid (B1.out.keep hb)
  have B2 := Lib.hid (B2.out.keep hb)
  have G1 := Lib.hid (G1.out.keep hb)
  have G2 := Lib.hid (G2.out.keep hb)
  have J1 := Lib.hid J1
  have J2 := Lib.hid J2
  clear hb y0 y1 y2 y3 y4
  go_wp2_with fail
  refine (E1.out _ _ _ _ A1.out B1.out).mono ?_
  rintro e w8 ⟨rfl, hb⟩
  have T := Lib.hid (T.out.keep hb)
  have A2 := Lib.hid (A2.out.keep hb)
  have B2 := Lib.hid (B2.out.keep hb)
  have G1 := Lib.hid (G1.out.keep hb)
  have G2 := Lib.hid (G2.out.keep hb)
  have J1 := Lib.hid (J1.out.keep hb)
  have J2 := Lib.hid (J2.out.keep hb)
  clear hb
  go_wp2_with fail
  refine (E1.out _ _ _ _ A2.out B2.out).mono ?_
  rintro e w9 ⟨rfl, hb⟩
  have T := Lib.hid (T.out.keep hb)
  have G1 := Lib.hid (G1.out.keep hb)
  have G2 := Lib.hid (G2.out.keep hb)
  have J1 := Lib.hid (J1.out.keep hb)
  have J2 := Lib.hid (J2.out.keep hb)
  clear hb
  go_wp2_with fail
  refine (E1.out _ _ _ _ G1.out J1.out).mono ?_
  rintro e w10 ⟨rfl, hb⟩
  have T := Lib.hid (T.out.keep hb)
  have G2 := Lib.hid (G2.out.keep hb)
  have J2 := Lib.hid (J2.out.keep hb)
  clear hb
  go_wp2_with fail
  refine (E1.out _ _ _ _ G2.out J2.out).mono ?_
  rintro e w11 ⟨rfl, hb⟩
  have T := Lib.hid (T.out.keep hb)
  clear hb
  (have o0 := T.out.ob.cell 0 _ rfl; have o1 := T.out.ob.cell 1 _ rfl; have o2 := T.out.ob.cell 2 _ rfl; have o3 := T.out.ob.cell 3 _ rfl; have o4 := T.out.ob.cell 4 _ rfl)
  (have y0 := T.out.yb.cell 0 _ rfl; have y1 := T.out.yb.cell 1 _ rfl; have y2 := T.out.yb.cell 2 _ rfl; have y3 := T.out.yb.cell 3 _ rfl; have y4 := T.out.yb.cell 4 _ rfl)
  go_wp2_with fail
  refine (E2.out _ _ _ T.out.ho T.out.hy).mono ?_
  rintro e w12 ⟨rfl, hb⟩
  have HB := Lib.hid (below_then T.out.hb hb)
  clear hb
  go_wp2_with fail
  go_returns
  exact ⟨rfl, HB.out⟩
set_option maxRecDepth 100000 in set_option maxHeartbeats 4000000 in
theorem law09_CalsAsks (d : V3) (bn bl : Option Addr) (cn cl : Nat) (ns ls : List (List Sl)) (ow f t a : Int) (w : World) (hn : CR w bn ns) (hl : CR w bl ls)
    (hz : (ns.length * 24 ≤ reachBytes ∧ ∀ c ∈ ns, c.length * 24 ≤ reachBytes) ∧ (ls.length * 24 ≤ reachBytes ∧ ∀ c ∈ ls, c.length * 24 ≤ reachBytes)) :
    Calls Try.prog 4 #[.agg #[.int .i64 d.x, .int .i64 d.y, .int .i64 d.z, (.slice bn ns.length cn), (.slice bl ls.length cl)], .int .i64 ow, .agg #[.int .i64 f, .int .i64 t], .int .i64 a] w (RB w (.bool true)) := by
  have hG := fun W (h : Below w.heap.size w W) => great_reach d bn bl cn cl ns ls W (hn.keep h) (hl.keep h) hz
  cases hg : greatB ns ls with
  | true =>
    have G1 := Lib.hid (fun W h => Calls.rb_eq (hG W h) (show Value.bool (greatB ns ls) = .bool true by rw [hg]))
    clear hn hl hz hG hg
    go_enter Try.func4, Try.ntmps4
    go_wp2_with ((with_reducible refine (G1.out _ (by (repeat (first | (with_reducible exact Below.refl _ _) | (with_reducible assumption) | (with_reducible refine below_alloc ?_ _) | (with_reducible refine below_drewN ?_ _) | (with_reducible refine Below.drew ?_) | (with_reducible refine below_then ?_ (by with_reducible assumption)) | (with_reducible refine Below.setCell ?_ (by go_size) _))))).mono ?_); rintro e w1 ⟨rfl, hb1⟩; (obtain ⟨hc1, hf1⟩ := bcell hb1; have hz1 := hb1.size; (try simp at hz1); have hB : Below w.heap.size w w1 := (by (repeat (first | (with_reducible exact Below.refl _ _) | (with_reducible assumption) | (with_reducible refine below_alloc ?_ _) | (with_reducible refine below_drewN ?_ _) | (with_reducible refine Below.drew ?_) | (with_reducible refine below_then ?_ (by with_reducible assumption)) | (with_reducible refine Below.setCell ?_ (by go_size) _)))); obtain ⟨hcB, hfB⟩ := bcell hB; (try have z0 : w.heap.size < w1.heap.size := by omega); (try have z1 : w.heap.size + 1 < w1.heap.size := by omega); (try have z2 : w.heap.size + 2 < w1.heap.size := by omega); (try have z3 : w.heap.size + 3 < w1.heap.size := by omega)))
    go_returns
    exact ⟨rfl, by (repeat (first | (with_reducible exact Below.refl _ _) | (with_reducible assumption) | (with_reducible refine below_alloc ?_ _) | (with_reducible refine below_drewN ?_ _) | (with_reducible refine Below.drew ?_) | (with_reducible refine below_then ?_ (by with_reducible assumption)) | (with_reducible refine Below.setCell ?_ (by go_size) _)))⟩
  | false =>
    obtain ⟨h1, h2, h3⟩ := great_no hg
    exact core_CalsAsks d bn bl cn cl ns ls ow f t a w ⟨hn, by omega, h1.2⟩ ⟨hl, by omega, h2.2⟩ hg h3 hG

set_option maxRecDepth 100000 in set_option maxHeartbeats 4000000 in
theorem lift_calsAsks (os : Os) (started : os.Started) (H : Type) (enc : TypeId × Value → H) :
    ReturnsInHanded {} Try.checked os 4 .any (Rows.calsAsksSpec.pre6 enc Try.prog Try.f4 Rows.calsAsksRow.domain false) (Rows.calsAsksSpec.post enc Try.prog Try.f4 false true false false) := by
  refine returnsInHanded_of_change_sized (C := Try.checked) ownKnob0 started (by kernel_rfl) Try.func4
    (ChangeSpec.witness6 (enc := enc) (C := Try.checked) false ⟨#[], #[.agg #[.int .i64 (⟨0, 0, 0⟩ : V3).x, .int .i64 (⟨0, 0, 0⟩ : V3).y, .int .i64 (⟨0, 0, 0⟩ : V3).z, (.slice none 0 0), (.slice none 0 0)], .int .i64 0, .agg #[.int .i64 0, .int .i64 0], .int .i64 0], []⟩ 8 (by kernel_rfl) (by kernel_rfl) (by kernel_rfl) (by kernel_rfl)) ?_
  intro W base args ds gs before hval0 hW hcnd hwt _
  have hval : ∀ (j : Nat) t v, Try.f4.params[j]? = some t → args[j]? = some v → Value.okWide Try.prog W .any base t v := hval0
  have hW' := hW
  obtain ⟨p, q, hA0, hV, rfl, hfz, hnd⟩ := hW
  have hA : DataW.TrodAll enc Try.prog W 0 (fun _ => true) true Try.f4.params.toList args.toList ds p := hA0
  rw [Try.params4] at hA hval hwt
  have hK := hA
  obtain ⟨v0, vs0, d0, ds0, p0, q0, hargs, rfl, rfl, h0, r0⟩ := trodAll_cons hA
  obtain ⟨v1, vs1, d1, ds1, p1, q1, rfl, rfl, rfl, h1, r1⟩ := trodAll_cons r0
  obtain ⟨v2, vs2, d2, ds2, p2, q2, rfl, rfl, rfl, h2, r2⟩ := trodAll_cons r1
  obtain ⟨v3, vs3, d3, ds3, p3, q3, rfl, rfl, rfl, h3, r3⟩ := trodAll_cons r2
  obtain ⟨rfl, rfl, rfl⟩ := trodAll_nil r3
  obtain rfl : args = #[v0, v1, v2, v3] := by cases args; simp_all
  obtain ⟨d, bn, bl, ns, ls, cn, cl, rfl, hn, hl, hz⟩ := open_yard (hval 0 _ v0 rfl rfl) h0
  obtain ⟨ow, rfl⟩ := okWide_int Try.underlying3 (hval 1 _ v1 rfl rfl)
  obtain ⟨f, t, rfl⟩ := open_span (hval 2 _ v2 rfl rfl)
  obtain ⟨a, rfl⟩ := okWide_int Try.underlying3 (hval 3 _ v3 rfl rfl)
  have hz' := hz reachBytes (fun k hk => by have := List.all_eq_true.1 hwt k (DataW.weights_mem_each (j := 0) rfl rfl k hk); simpa using this)
  obtain ⟨rfl, rfl⟩ := trodVars_none hV
  clear hA0 hval0
  simp only [List.append_nil] at hW' hK
  refine (law09_CalsAsks d bn bl cn cl ns ls ow f t a W hn hl hz').mono fun e W' ⟨he, bel⟩ => ?_
  subst he
  refine ⟨_, rfl, _, _, _, [], _, [], hW', trodAll_mk1 (shut_bool Try.underlying4 _), trodAll_below bel _ _ _ _ ?_ hK, rfl, bel.frame _, fun h => by cases h⟩
  intro t ht
  simp at ht <;> (rcases ht with rfl | rfl | rfl | rfl <;> exact ⟨by kernel_rfl, of_decide_eq_true (by kernel_rfl)⟩)

theorem holds_calsAsks : Rows.calsAsksRow.holds Try.pinned (OpenSpec.ofChange Rows.calsAsksSpec) :=
  OpenClaim.holds_of_wide 4 Try.f4 rfl rfl rfl rfl rfl rfl rfl ⟨rfl, rfl, rfl, rfl, rfl⟩ rfl rfl rfl rfl rfl (by kernel_rfl) Try.func4 (by kernel_rfl)
    (of_decide_eq_true (by kernel_rfl)) (by unfold Func.isWrapper; first | (rw [if_pos (by decide +kernel)]; kernel_rfl) | (rw [if_neg (by decide +kernel)]; exact ⟨rfl, rfl⟩))
    (fun os started H enc _ => lift_calsAsks os started H enc)

theorem CalsAsks_holds : Rows.CalsAsksSaid := holds_calsAsks
end Go.Proofs.Ytfikgjcmnooglaa
