/- WhenTells: the moments at which something comes free, an owner's ends, and the last of all, or the errors, are the document's: the call returns true. -/
import Derived.Test.YtfikgjcmnooglaaWhenCode
import Derived.Test.YtfikgjcmnooglaaRowYard
import Derived.Test.YtfikgjcmnooglaaYardM
import Derived.Test.YtfikgjcmnooglaaInts
namespace Go.Proofs.Ytfikgjcmnooglaa
open Go.ChangeShapes Go.WideShapes Go.ChangeAt Go.RowKit Go.Shelf

/-- Calendars and their twin, in their boxes. -/
structure TwW (w W : World) (Y O : Nat) (y : Yd) (bn bl bm bk : Option Addr) (cn cl cm ck : Nat) : Prop where
  yb : Blk W Y 42 #[.int .i64 y.d.x, .int .i64 y.d.y, .int .i64 y.d.z, (.slice bn y.ns.length cn), (.slice bl y.ls.length cl)]
  ob : Blk W O 42 #[.int .i64 y.d.x, .int .i64 y.d.y, .int .i64 y.d.z, (.slice bm y.ns.length cm), (.slice bk y.ls.length ck)]
  hy : YS W (.agg #[.int .i64 y.d.x, .int .i64 y.d.y, .int .i64 y.d.z, (.slice bn y.ns.length cn), (.slice bl y.ls.length cl)]) y
  ho : YS W (.agg #[.int .i64 y.d.x, .int .i64 y.d.y, .int .i64 y.d.z, (.slice bm y.ns.length cm), (.slice bk y.ls.length ck)]) y
  hb : Below w.heap.size w W
theorem TwW.keep {w W W' : World} {Y O : Nat} {y : Yd} {bn bl bm bk : Option Addr} {cn cl cm ck : Nat} (h : TwW w W Y O y bn bl bm bk cn cl cm ck) (hb : Below W.heap.size W W') : TwW w W' Y O y bn bl bm bk cn cl cm ck :=
  ⟨h.yb.below hb, h.ob.below hb, h.hy.keep hb, h.ho.keep hb, below_then h.hb hb⟩
theorem mi_Ints {W : World} {u v : Value} {l : List Int} (hu : MIn W u l) (hv : MIn W v l) (hl : l.length ≤ 100000000) : Calls Try.prog 70 #[u, v] W (RB W (.bool true)) := by
  obtain ⟨b, c, rfl, h1⟩ := hu.ex
  obtain ⟨b2, c2, rfl, h2⟩ := hv.ex
  exact Calls.rb_eq (ref02_Ints b b2 c c2 l l W ⟨h1, by omega⟩ ⟨h2, by omega⟩) (show Value.bool (decide (l = l)) = .bool true by simp)
theorem timesV_len {y : Yd} {f : Int} (h : y.all.length ≤ 20000000) : (timesV y f).length ≤ 100000000 := by
  unfold timesV
  split
  · have h1 := pmsL_len (endsL (afterB f) y.all) [f]
    have h2 := endsL_len (afterB f) y.all
    simp at h1
    omega
  · exact Nat.zero_le _
theorem endsV_len {y : Yd} {o : Int} (h : y.all.length ≤ 20000000) : (endsV y o).length ≤ 100000000 := by
  unfold endsV
  split
  · have h1 := pmsL_len (endsL (ownerB o) y.all) []
    have h2 := endsL_len (ownerB o) y.all
    simp at h1
    omega
  · exact Nat.zero_le _
set_option maxRecDepth 100000 in set_option maxHeartbeats 4000000 in
theorem core_WhenTells (y : Yd) (bn bl : Option Addr) (cn cl : Nat) (fr ow : Int) (w : World) (hn : CC w bn y.ns) (hl : CC w bl y.ls)
    (hG : ∀ W, Below w.heap.size w W → Calls Try.prog 26 #[.agg #[.int .i64 y.d.x, .int .i64 y.d.y, .int .i64 y.d.z, (.slice bn y.ns.length cn), (.slice bl y.ls.length cl)]] W (RB W (.bool false))) :
    Calls Try.prog 14 #[.agg #[.int .i64 y.d.x, .int .i64 y.d.y, .int .i64 y.d.z, (.slice bn y.ns.length cn), (.slice bl y.ls.length cl)], .int .i64 fr, .int .i64 ow] w (RB w (.bool true)) := by
  have G1 := Lib.hid hG
  have G2 := Lib.hid (fun W (h : Below w.heap.size w W) => ref09_Twin y.d bn bl cn cl y.ns y.ls W (hn.keep h) (hl.keep h))
  have HN := Lib.hid hn
  have HL := Lib.hid hl
  have hal := YS.all_len (show YS w (.agg #[.int .i64 y.d.x, .int .i64 y.d.y, .int .i64 y.d.z, (.slice bn y.ns.length cn), (.slice bl y.ls.length cl)]) y from ⟨bn, bl, cn, cl, rfl, hn, hl⟩)
  have T1 := Lib.hid (fun W v (h : YS W v y) => when_Times fr v y W h)
  have T2 := Lib.hid (fun W v (h : YS W v y) => ref10_Times v y fr W h)
  have D1 := Lib.hid (fun W v (h : YS W v y) => (when_Ends ow v y W h).mono (fun _ _ hh => hh.me))
  have D2 := Lib.hid (fun W v (h : YS W v y) => by have hh := ref10_Ends v y ow W h; rw [← chk_eq] at hh; exact hh)
  have L1 := Lib.hid (fun W v (h : YS W v y) => when_Last v y W h)
  have L2 := Lib.hid (fun W v (h : YS W v y) => by have hh := ref10_Last v y W h; rw [← chk_eq] at hh; exact hh)
  have E1 := Lib.hid (fun W u v (h : MIn W u (timesV y fr)) (h2 : MIn W v (timesV y fr)) => mi_Ints h h2 (timesV_len hal))
  have E2 := Lib.hid (fun W u v (h : MIn W u (endsV y ow)) (h2 : MIn W v (endsV y ow)) => mi_Ints h h2 (endsV_len hal))
  have E3 := Lib.hid (fun W u v (h : YS W u y) (h2 : YS W v y) => Calls.rb_eq (y_Same h h2) (show Value.bool _ = .bool true by rw [Yd.same_self]))
  generalize timesV y fr = l1 at *
  generalize timesE y fr = x1 at *
  generalize endsV y ow = l2 at *
  generalize y.chk = x2 at *
  generalize lastV y = x3 at *
  clear hn hl hG hal
  go_enter Try.func14, Try.ntmps14
  go_wp2_with ((with_reducible refine (G1.out _ (by (repeat (first | (with_reducible exact Below.refl _ _) | (with_reducible assumption) | (with_reducible refine below_alloc ?_ _) | (with_reducible refine below_drewN ?_ _) | (with_reducible refine Below.drew ?_) | (with_reducible refine below_then ?_ (by with_reducible assumption)) | (with_reducible refine Below.setCell ?_ (by go_size) _))))).mono ?_); rintro e w1 ⟨rfl, hb1⟩; (obtain ⟨hc1, hf1⟩ := bcell hb1; have hz1 := hb1.size; (try simp at hz1); have hB : Below w.heap.size w w1 := (by (repeat (first | (with_reducible exact Below.refl _ _) | (with_reducible assumption) | (with_reducible refine below_alloc ?_ _) | (with_reducible refine below_drewN ?_ _) | (with_reducible refine Below.drew ?_) | (with_reducible refine below_then ?_ (by with_reducible assumption)) | (with_reducible refine Below.setCell ?_ (by go_size) _)))); obtain ⟨hcB, hfB⟩ := bcell hB; (try have z0 : w.heap.size < w1.heap.size := by omega); (try have z1 : w.heap.size + 1 < w1.heap.size := by omega); (try have z2 : w.heap.size + 2 < w1.heap.size := by omega); (try have z3 : w.heap.size + 3 < w1.heap.size := by omega)))
  have YB := Lib.hid (show Blk w1 w.heap.size 42 #[.int .i64 y.d.x, .int .i64 y.d.y, .int .i64 y.d.z, (.slice bn y.ns.length cn), (.slice bl y.ls.length cl)] from (Blk.new w 42 #[.int .i64 y.d.x, .int .i64 y.d.y, .int .i64 y.d.z, (.slice bn y.ns.length cn), (.slice bl y.ls.length cl)]).below hb1)
  have HB := Lib.hid hB
  refine (G2.out w1 hB).mono ?_
  clear hc1 hf1 hz1 hcB hfB hB hb1
  rintro e w2 ⟨u, v, rfl, hu, hv, hb2⟩
  have HS := Lib.hid (great_cc HN.out HL.out)
  obtain ⟨bm, cm, rfl, _, hcm⟩ := hu.cc HS.out.1.1 HS.out.1.2
  obtain ⟨bk, ck, rfl, _, hck⟩ := hv.cc HS.out.2.1 HS.out.2.2
  have YB := Lib.hid (YB.out.below hb2)
  have HB := Lib.hid (below_then HB.out hb2)
  have HM := Lib.hid hcm
  have HK := Lib.hid hck
  clear hu hv hcm hck hb2 HS
  go_upto_region 4 with fail
  obtain ⟨W3, hW3⟩ : ∃ W3, W3 = w2.alloc (.cells #[.int .i64 y.d.x, .int .i64 y.d.y, .int .i64 y.d.z, (.slice bm y.ns.length cm), (.slice bk y.ls.length ck)] 42) := ⟨_, rfl⟩
  rw [← hW3]
  have hb3 : Below w2.heap.size w2 W3 := by rw [hW3]; (repeat (first | (with_reducible exact Below.refl _ _) | (with_reducible assumption) | (with_reducible refine below_alloc ?_ _) | (with_reducible refine below_drewN ?_ _) | (with_reducible refine Below.drew ?_) | (with_reducible refine below_then ?_ (by with_reducible assumption)) | (with_reducible refine Below.setCell ?_ (by go_size) _)))
  have OB : Blk W3 w2.heap.size 42 #[.int .i64 y.d.x, .int .i64 y.d.y, .int .i64 y.d.z, (.slice bm y.ns.length cm), (.slice bk y.ls.length ck)] := by
    rw [hW3]
    exact Blk.new ..
  have T := Lib.hid (show TwW w W3 w.heap.size w2.heap.size y bn bl bm bk cn cl cm ck from
    ⟨YB.out.below hb3, OB, ⟨bn, bl, cn, cl, rfl, HN.out.keep (below_then HB.out hb3), HL.out.keep (below_then HB.out hb3)⟩, ⟨bm, bk, cm, ck, rfl, HM.out.keep hb3, HK.out.keep hb3⟩, below_then HB.out hb3⟩)
  clear hW3 hb3 OB YB HB HM HK HN HL G1 G2
  (have o0 := T.out.ob.cell 0 _ rfl; have o1 := T.out.ob.cell 1 _ rfl; have o2 := T.out.ob.cell 2 _ rfl; have o3 := T.out.ob.cell 3 _ rfl; have o4 := T.out.ob.cell 4 _ rfl)
  go_wp2_with fail
  refine (T1.out _ _ T.out.ho).mono ?_
  rintro e w4 ⟨a1, rfl, A1, hb⟩
  have A1 := Lib.hid A1
  have T := Lib.hid (T.out.keep hb)
  clear hb
  clear o0 o1 o2 o3 o4
  (have y0 := T.out.yb.cell 0 _ rfl; have y1 := T.out.yb.cell 1 _ rfl; have y2 := T.out.yb.cell 2 _ rfl; have y3 := T.out.yb.cell 3 _ rfl; have y4 := T.out.yb.cell 4 _ rfl)
  go_wp2_with fail
  refine (T2.out _ _ T.out.hy).mono ?_
  rintro e w5 ⟨a2, rfl, A2, hb⟩
  have A2 := Lib.hid A2
  have T := Lib.hid (T.out.keep hb)
  have A1 := Lib.hid (A1.out.keep hb)
  clear hb
  clear y0 y1 y2 y3 y4
  (have o0 := T.out.ob.cell 0 _ rfl; have o1 := T.out.ob.cell 1 _ rfl; have o2 := T.out.ob.cell 2 _ rfl; have o3 := T.out.ob.cell 3 _ rfl; have o4 := T.out.ob.cell 4 _ rfl)
  go_wp2_with fail
  refine (D1.out _ _ T.out.ho).mono ?_
  rintro e w6 ⟨b1, rfl, B1, hb⟩
  have B1 := Lib.hid B1
  have T := Lib.hid (T.out.keep hb)
  have A1 := Lib.hid (A1.out.keep hb)
  have A2 := Lib.hid (A2.out.keep hb)
  clear hb
  clear o0 o1 o2 o3 o4
  (have y0 := T.out.yb.cell 0 _ rfl; have y1 := T.out.yb.cell 1 _ rfl; have y2 := T.out.yb.cell 2 _ rfl; have y3 := T.out.yb.cell 3 _ rfl; have y4 := T.out.yb.cell 4 _ rfl)
  go_wp2_with fail
  refine (D2.out _ _ T.out.hy).mono ?_
  rintro e w7 ⟨b2, rfl, B2, hb⟩
  have B2 := Lib.hid B2
  have T := Lib.hid (T.out.keep hb)
  have A1 := Lib.hid (A1.out.keep hb)
  have A2 := Lib.hid (A2.out.keep hb)
  have B1 := Lib.hid (B1.out.keep hb)
  clear hb
  clear y0 y1 y2 y3 y4
  (have o0 := T.out.ob.cell 0 _ rfl; have o1 := T.out.ob.cell 1 _ rfl; have o2 := T.out.ob.cell 2 _ rfl; have o3 := T.out.ob.cell 3 _ rfl; have o4 := T.out.ob.cell 4 _ rfl)
  go_wp2_with fail
  refine (L1.out _ _ T.out.ho).mono ?_
  rintro e w8 ⟨rfl, hb⟩
  (have T := Lib.hid (T.out.keep hb); (try have A1 := Lib.hid (A1.out.keep hb)); (try have A2 := Lib.hid (A2.out.keep hb)); (try have B1 := Lib.hid (B1.out.keep hb)); (try have B2 := Lib.hid (B2.out.keep hb)))
  clear hb
  clear o0 o1 o2 o3 o4
  (have y0 := T.out.yb.cell 0 _ rfl; have y1 := T.out.yb.cell 1 _ rfl; have y2 := T.out.yb.cell 2 _ rfl; have y3 := T.out.yb.cell 3 _ rfl; have y4 := T.out.yb.cell 4 _ rfl)
  go_wp2_with fail
  refine (L2.out _ _ T.out.hy).mono ?_
  rintro e w9 ⟨rfl, hb⟩
  (have T := Lib.hid (T.out.keep hb); (try have A1 := Lib.hid (A1.out.keep hb)); (try have A2 := Lib.hid (A2.out.keep hb)); (try have B1 := Lib.hid (B1.out.keep hb)); (try have B2 := Lib.hid (B2.out.keep hb)))
  clear hb
  clear y0 y1 y2 y3 y4
  go_wp2_with fail
  refine (E1.out _ _ _ A1.out A2.out).mono ?_
  rintro e w10 ⟨rfl, hb⟩
  (have T := Lib.hid (T.out.keep hb); (try have A1 := Lib.hid (A1.out.keep hb)); (try have A2 := Lib.hid (A2.out.keep hb)); (try have B1 := Lib.hid (B1.out.keep hb)); (try have B2 := Lib.hid (B2.out.keep hb)))
  clear hb
  go_wp2_with fail
  refine (E2.out _ _ _ B1.out B2.out).mono ?_
  rintro e w11 ⟨rfl, hb⟩
  (have T := Lib.hid (T.out.keep hb); (try have A1 := Lib.hid (A1.out.keep hb)); (try have A2 := Lib.hid (A2.out.keep hb)); (try have B1 := Lib.hid (B1.out.keep hb)); (try have B2 := Lib.hid (B2.out.keep hb)))
  clear hb
  (have o0 := T.out.ob.cell 0 _ rfl; have o1 := T.out.ob.cell 1 _ rfl; have o2 := T.out.ob.cell 2 _ rfl; have o3 := T.out.ob.cell 3 _ rfl; have o4 := T.out.ob.cell 4 _ rfl)
  (have y0 := T.out.yb.cell 0 _ rfl; have y1 := T.out.yb.cell 1 _ rfl; have y2 := T.out.yb.cell 2 _ rfl; have y3 := T.out.yb.cell 3 _ rfl; have y4 := T.out.yb.cell 4 _ rfl)
  go_wp2_with fail
  refine (E3.out _ _ _ T.out.ho T.out.hy).mono ?_
  rintro e w12 ⟨rfl, hb⟩
  have HB := Lib.hid (below_then T.out.hb hb)
  clear hb
  go_wp2_with fail
  go_returns
  exact ⟨rfl, HB.out⟩
set_option maxRecDepth 100000 in set_option maxHeartbeats 4000000 in
theorem law10_WhenTells (d : V3) (bn bl : Option Addr) (cn cl : Nat) (ns ls : List (List Sl)) (fr ow : Int) (w : World) (hn : CR w bn ns) (hl : CR w bl ls)
    (hz : (ns.length * 24 ≤ reachBytes ∧ ∀ c ∈ ns, c.length * 24 ≤ reachBytes) ∧ (ls.length * 24 ≤ reachBytes ∧ ∀ c ∈ ls, c.length * 24 ≤ reachBytes)) :
    Calls Try.prog 14 #[.agg #[.int .i64 d.x, .int .i64 d.y, .int .i64 d.z, (.slice bn ns.length cn), (.slice bl ls.length cl)], .int .i64 fr, .int .i64 ow] w (RB w (.bool true)) := by
  have hG := fun W (h : Below w.heap.size w W) => great_reach d bn bl cn cl ns ls W (hn.keep h) (hl.keep h) hz
  cases hg : greatB ns ls with
  | true =>
    rw [hg] at hG
    have G1 := Lib.hid hG
    clear hG hg hn hl hz
    go_enter Try.func14, Try.ntmps14
    go_wp2_with ((with_reducible refine (G1.out _ (by (repeat (first | (with_reducible exact Below.refl _ _) | (with_reducible assumption) | (with_reducible refine below_alloc ?_ _) | (with_reducible refine below_drewN ?_ _) | (with_reducible refine Below.drew ?_) | (with_reducible refine below_then ?_ (by with_reducible assumption)) | (with_reducible refine Below.setCell ?_ (by go_size) _))))).mono ?_); rintro e w1 ⟨rfl, hb1⟩; (obtain ⟨hc1, hf1⟩ := bcell hb1; have hz1 := hb1.size; (try simp at hz1); have hB : Below w.heap.size w w1 := (by (repeat (first | (with_reducible exact Below.refl _ _) | (with_reducible assumption) | (with_reducible refine below_alloc ?_ _) | (with_reducible refine below_drewN ?_ _) | (with_reducible refine Below.drew ?_) | (with_reducible refine below_then ?_ (by with_reducible assumption)) | (with_reducible refine Below.setCell ?_ (by go_size) _)))); obtain ⟨hcB, hfB⟩ := bcell hB; (try have z0 : w.heap.size < w1.heap.size := by omega); (try have z1 : w.heap.size + 1 < w1.heap.size := by omega); (try have z2 : w.heap.size + 2 < w1.heap.size := by omega); (try have z3 : w.heap.size + 3 < w1.heap.size := by omega)))
    go_returns
    exact ⟨rfl, by (repeat (first | (with_reducible exact Below.refl _ _) | (with_reducible assumption) | (with_reducible refine below_alloc ?_ _) | (with_reducible refine below_drewN ?_ _) | (with_reducible refine Below.drew ?_) | (with_reducible refine below_then ?_ (by with_reducible assumption)) | (with_reducible refine Below.setCell ?_ (by go_size) _)))⟩
  | false =>
    rw [hg] at hG
    have hs := great_small hg
    exact core_WhenTells ⟨d, ns, ls⟩ bn bl cn cl fr ow w ⟨hn, hs.1.1, hs.1.2⟩ ⟨hl, hs.2.1, hs.2.2⟩ hG

set_option maxRecDepth 100000 in set_option maxHeartbeats 4000000 in
theorem lift_whenTells (os : Os) (started : os.Started) (H : Type) (enc : TypeId × Value → H) :
    ReturnsInHanded {} Try.checked os 14 .any (Rows.whenTellsSpec.pre6 enc Try.prog Try.f14 Rows.whenTellsRow.domain false) (Rows.whenTellsSpec.post enc Try.prog Try.f14 false true false false) := by
  refine returnsInHanded_of_change_sized (C := Try.checked) ownKnob0 started (by kernel_rfl) Try.func14
    (ChangeSpec.witness6 (enc := enc) (C := Try.checked) false ⟨#[], #[.agg #[.int .i64 (⟨0, 0, 0⟩ : V3).x, .int .i64 (⟨0, 0, 0⟩ : V3).y, .int .i64 (⟨0, 0, 0⟩ : V3).z, (.slice none 0 0), (.slice none 0 0)], .int .i64 0, .int .i64 0], []⟩ 8 (by kernel_rfl) (by kernel_rfl) (by kernel_rfl) (by kernel_rfl)) ?_
  intro W base args ds gs before hval0 hW hcnd hwt _
  have hval : ∀ (j : Nat) t v, Try.f14.params[j]? = some t → args[j]? = some v → Value.okWide Try.prog W .any base t v := hval0
  have hW' := hW
  obtain ⟨p, q, hA0, hV, rfl, hfz, hnd⟩ := hW
  have hA : DataW.TrodAll enc Try.prog W 0 (fun _ => true) true Try.f14.params.toList args.toList ds p := hA0
  rw [Try.params14] at hA hval hwt
  have hK := hA
  obtain ⟨v0, vs0, d0, ds0, p0, q0, hargs, rfl, rfl, h0, r0⟩ := trodAll_cons hA
  obtain ⟨v1, vs1, d1, ds1, p1, q1, rfl, rfl, rfl, h1, r1⟩ := trodAll_cons r0
  obtain ⟨v2, vs2, d2, ds2, p2, q2, rfl, rfl, rfl, h2, r2⟩ := trodAll_cons r1
  obtain ⟨rfl, rfl, rfl⟩ := trodAll_nil r2
  obtain rfl : args = #[v0, v1, v2] := by cases args; simp_all
  obtain ⟨d, bn, bl, ns, ls, cn, cl, rfl, hn, hl, hz⟩ := open_yard (hval 0 _ v0 rfl rfl) h0
  obtain ⟨fr, rfl⟩ := okWide_int Try.underlying3 (hval 1 _ v1 rfl rfl)
  obtain ⟨ow, rfl⟩ := okWide_int Try.underlying3 (hval 2 _ v2 rfl rfl)
  have hz' := hz reachBytes (fun k hk => by have := List.all_eq_true.1 hwt k (DataW.weights_mem_each (j := 0) rfl rfl k hk); simpa using this)
  obtain ⟨rfl, rfl⟩ := trodVars_none hV
  clear hA0 hval0
  simp only [List.append_nil] at hW' hK
  refine (law10_WhenTells d bn bl cn cl ns ls fr ow W hn hl hz').mono fun e W' ⟨he, bel⟩ => ?_
  subst he
  refine ⟨_, rfl, _, _, _, [], _, [], hW', trodAll_mk1 (shut_bool Try.underlying4 _), trodAll_below bel _ _ _ _ ?_ hK, rfl, bel.frame _, fun h => by cases h⟩
  intro t ht
  simp at ht <;> (rcases ht with rfl | rfl | rfl <;> exact ⟨by kernel_rfl, of_decide_eq_true (by kernel_rfl)⟩)

theorem holds_whenTells : Rows.whenTellsRow.holds Try.pinned (OpenSpec.ofChange Rows.whenTellsSpec) :=
  OpenClaim.holds_of_wide 14 Try.f14 rfl rfl rfl rfl rfl rfl rfl ⟨rfl, rfl, rfl, rfl, rfl⟩ rfl rfl rfl rfl rfl (by kernel_rfl) Try.func14 (by kernel_rfl)
    (of_decide_eq_true (by kernel_rfl)) (by unfold Func.isWrapper; first | (rw [if_pos (by decide +kernel)]; kernel_rfl) | (rw [if_neg (by decide +kernel)]; exact ⟨rfl, rfl⟩))
    (fun os started H enc _ => lift_whenTells os started H enc)

theorem WhenTells_holds : Rows.WhenTellsSaid := holds_whenTells
end Go.Proofs.Ytfikgjcmnooglaa
