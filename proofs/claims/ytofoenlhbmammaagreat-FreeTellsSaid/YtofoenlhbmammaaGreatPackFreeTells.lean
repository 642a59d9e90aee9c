/- FreeTells: what is to be avoided, whether a place is free of it, and when it is soon, or the errors, are the document's; calendars stay: the call returns true. -/
import Derived.Test.YtofoenlhbmammaaGreatQ10FreeTells
import Derived.Test.YtofoenlhbmammaaGreatQ14FreeTells
import Derived.Test.YtofoenlhbmammaaGreatQ0FreeR2
import Derived.Test.YtofoenlhbmammaaGreatQ0RowYard
namespace Go.Proofs.YtofoenlhbmammaaGreat

section
open Go.ChangeShapes Go.WideShapes Go.ChangeAt Go.RowKit Go.Shelf

/-- Calendars and their twin, a place, a span and two sets, in their boxes. -/
structure FrW (w W : World) (Y P S O : Nat) (y : Yd) (p : Pl) (f t : Int) (u v : Value) (ms ks : List Nat) (bn bl bm bk : Option Addr) (cn cl cm ck : Nat) : Prop where
  yb : Blk W Y 26 #[.int .i64 y.d.x, .int .i64 y.d.y, .int .i64 y.d.z, (.slice bn y.ns.length cn), (.slice bl y.ls.length cl)]
  pb : Blk W P 31 #[.int .i64 p.b.b.x, .int .i64 p.b.b.y, .int .i64 p.b.b.z, .int .i64 p.b.s.x, .int .i64 p.b.s.y, .int .i64 p.b.s.z, .bool p.t0, .bool p.t1, .bool p.t2]
  sb : Blk W S 35 #[.int .i64 f, .int .i64 t]
  ob : Blk W O 26 #[.int .i64 y.d.x, .int .i64 y.d.y, .int .i64 y.d.z, (.slice bm y.ns.length cm), (.slice bk y.ls.length ck)]
  hy : YS W (.agg #[.int .i64 y.d.x, .int .i64 y.d.y, .int .i64 y.d.z, (.slice bn y.ns.length cn), (.slice bl y.ls.length cl)]) y
  ho : YS W (.agg #[.int .i64 y.d.x, .int .i64 y.d.y, .int .i64 y.d.z, (.slice bm y.ns.length cm), (.slice bk y.ls.length ck)]) y
  hu : SS W u ms
  hv : SS W v ks
  hb : Below w.heap.size w W
theorem FrW.keep {w W W' : World} {Y P S O : Nat} {y : Yd} {p : Pl} {f t : Int} {u v : Value} {ms ks : List Nat} {bn bl bm bk : Option Addr} {cn cl cm ck : Nat} (h : FrW w W Y P S O y p f t u v ms ks bn bl bm bk cn cl cm ck) (hb : Below W.heap.size W W') : FrW w W' Y P S O y p f t u v ms ks bn bl bm bk cn cl cm ck :=
  ⟨h.yb.below hb, h.pb.below hb, h.sb.below hb, h.ob.below hb, h.hy.keep hb, h.ho.keep hb, h.hu.keep hb, h.hv.keep hb, below_then h.hb hb⟩
set_option maxRecDepth 100000 in set_option maxHeartbeats 4000000 in
theorem core_FreeTells (y : Yd) (bn bl : Option Addr) (cn cl : Nat) (p : Pl) (bu bv : Option Addr) (cu cv : Nat) (ms ks : List Nat) (f t fr long : Int) (w : World) (hn : CC w bn y.ns) (hl : CC w bl y.ls) (su : SetIn w bu ms) (sv : SetIn w bv ks) (l1 : ms.length ≤ 100) (l2 : ks.length ≤ 100)
    (hG : ∀ W, Below w.heap.size w W → Calls Tryz.prog 8 #[.agg #[.int .i64 y.d.x, .int .i64 y.d.y, .int .i64 y.d.z, (.slice bn y.ns.length cn), (.slice bl y.ls.length cl)]] W (RB W (.bool false))) :
    Calls Tryz.prog 3 #[.agg #[.int .i64 y.d.x, .int .i64 y.d.y, .int .i64 y.d.z, (.slice bn y.ns.length cn), (.slice bl y.ls.length cl)], .agg #[.int .i64 p.b.b.x, .int .i64 p.b.b.y, .int .i64 p.b.b.z, .int .i64 p.b.s.x, .int .i64 p.b.s.y, .int .i64 p.b.s.z, .bool p.t0, .bool p.t1, .bool p.t2], .slice bu ms.length cu, .slice bv ks.length cv, .agg #[.int .i64 f, .int .i64 t], .int .i64 fr, .int .i64 long] w (RB w (.bool true)) := by
  have G1 := Lib.hid hG
  have G2 := Lib.hid (fun W (h : Below w.heap.size w W) => ref09_Twin y.d bn bl cn cl y.ns y.ls W (hn.keep h) (hl.keep h))
  have HN := Lib.hid hn
  have HL := Lib.hid hl
  have SU := Lib.hid (show SS w (.slice bu ms.length cu) ms from ⟨bu, cu, rfl, su⟩)
  have SV := Lib.hid (show SS w (.slice bv ks.length cv) ks from ⟨bv, cv, rfl, sv⟩)
  have T1 := Lib.hid (fun W v a b (h : YS W v y) (h1 : SS W a ms) (h2 : SS W b ks) => free_Avoid v y a b ms ks f t W h h1 h2)
  have T2 := Lib.hid (fun W v a b (h : YS W v y) (h1 : SS W a ms) (h2 : SS W b ks) => ref11_Avoid v y a b ms ks f t W h h1 h2)
  have D1 := Lib.hid (fun W a b (h1 : SS W a ms) (h2 : SS W b ks) => free_Holds y.d p a b ms ks W h1 h2)
  have D2 := Lib.hid (fun W a b (h1 : SS W a ms) (h2 : SS W b ks) => ref11_Holds y.d p a b ms ks W h1 h2)
  have L1 := Lib.hid (fun W v a b (h : YS W v y) (h1 : SS W a ms) (h2 : SS W b ks) => free_Soon v y p a b ms ks fr long W h h1 h2)
  have L2 := Lib.hid (fun W v a b (h : YS W v y) (h1 : SS W a ms) (h2 : SS W b ks) => ref11_Soon v y p a b ms ks fr long W h h1 h2)
  have E1 := Lib.hid (fun W u v (h : SS W u (avV y ms ks f t).1) (h2 : SS W v (avV y ms ks f t).1) => Calls.rb_eq (SS.same h h2) (show Value.bool (decide ((avV y ms ks f t).1 = (avV y ms ks f t).1)) = .bool true by simp))
  have E2 := Lib.hid (fun W u v (h : SS W u (avV y ms ks f t).2) (h2 : SS W v (avV y ms ks f t).2) => Calls.rb_eq (SS.same h h2) (show Value.bool (decide ((avV y ms ks f t).2 = (avV y ms ks f t).2)) = .bool true by simp))
  have E3 := Lib.hid (fun W u v (h : YS W u y) (h2 : YS W v y) => Calls.rb_eq (y_Same h h2) (show Value.bool _ = .bool true by rw [Yd.same_self]))
  have q1 : decide (100 < ms.length) = false := decide_eq_false (by omega)
  have q2 : decide (100 < ks.length) = false := decide_eq_false (by omega)
  generalize (avV y ms ks f t).1 = X1 at *
  generalize (avV y ms ks f t).2 = X2 at *
  generalize avE y ms ks f t = x3 at *
  generalize holdV y.d p ms ks = x4 at *
  generalize holdE y.d p ms ks = x5 at *
  generalize soonV y p ms ks fr long = x6 at *
  generalize soonE y p ms ks fr long = x7 at *
  clear hn hl hG su sv
  have hb00 : Below w.heap.size w (((w.alloc (.cells #[.int .i64 y.d.x, .int .i64 y.d.y, .int .i64 y.d.z, (.slice bn y.ns.length cn), (.slice bl y.ls.length cl)] 26)).alloc (.cells #[.int .i64 p.b.b.x, .int .i64 p.b.b.y, .int .i64 p.b.b.z, .int .i64 p.b.s.x, .int .i64 p.b.s.y, .int .i64 p.b.s.z, .bool p.t0, .bool p.t1, .bool p.t2] 31)).alloc (.cells #[.int .i64 f, .int .i64 t] 35)) := by (repeat (first | (with_reducible exact Below.refl _ _) | (with_reducible assumption) | (with_reducible refine below_alloc ?_ _) | (with_reducible refine below_drewN ?_ _) | (with_reducible refine Below.drew ?_) | (with_reducible refine below_then ?_ (by with_reducible assumption)) | (with_reducible refine Below.setCell ?_ (by go_size) _)))
  have YB := Lib.hid (((Blk.new w 26 #[.int .i64 y.d.x, .int .i64 y.d.y, .int .i64 y.d.z, (.slice bn y.ns.length cn), (.slice bl y.ls.length cl)]).alloc (.cells #[.int .i64 p.b.b.x, .int .i64 p.b.b.y, .int .i64 p.b.b.z, .int .i64 p.b.s.x, .int .i64 p.b.s.y, .int .i64 p.b.s.z, .bool p.t0, .bool p.t1, .bool p.t2] 31)).alloc (.cells #[.int .i64 f, .int .i64 t] 35))
  have pb := ((Blk.new (w.alloc (.cells #[.int .i64 y.d.x, .int .i64 y.d.y, .int .i64 y.d.z, (.slice bn y.ns.length cn), (.slice bl y.ls.length cl)] 26)) 31 #[.int .i64 p.b.b.x, .int .i64 p.b.b.y, .int .i64 p.b.b.z, .int .i64 p.b.s.x, .int .i64 p.b.s.y, .int .i64 p.b.s.z, .bool p.t0, .bool p.t1, .bool p.t2]).alloc (.cells #[.int .i64 f, .int .i64 t] 35))
  have sb := (Blk.new ((w.alloc (.cells #[.int .i64 y.d.x, .int .i64 y.d.y, .int .i64 y.d.z, (.slice bn y.ns.length cn), (.slice bl y.ls.length cl)] 26)).alloc (.cells #[.int .i64 p.b.b.x, .int .i64 p.b.b.y, .int .i64 p.b.b.z, .int .i64 p.b.s.x, .int .i64 p.b.s.y, .int .i64 p.b.s.z, .bool p.t0, .bool p.t1, .bool p.t2] 31)) 35 #[.int .i64 f, .int .i64 t])
  simp only [World.size_alloc] at pb sb
  have PB := Lib.hid pb
  have SB := Lib.hid sb
  have HB := Lib.hid hb00
  clear pb sb hb00
  go_enter Tryz.func3, Tryz.ntmps3
  go_wp2_with fail
  refine (G1.out _ HB.out).mono ?_
  rintro e w1 ⟨rfl, hb⟩
  have YB := Lib.hid (YB.out.below hb)
  have PB := Lib.hid (PB.out.below hb)
  have SB := Lib.hid (SB.out.below hb)
  have HB := Lib.hid (below_then HB.out hb)
  clear hb
  have y0 := YB.out.cell 0 _ rfl
  have y1 := YB.out.cell 1 _ rfl
  have y2 := YB.out.cell 2 _ rfl
  have y3 := YB.out.cell 3 _ rfl
  have y4 := YB.out.cell 4 _ rfl
  go_wp2_with fail
  refine (G2.out w1 HB.out).mono ?_
  rintro e w2 ⟨u, v, rfl, hu, hv, hb2⟩
  have HS := Lib.hid (great_cc HN.out HL.out)
  obtain ⟨bm, cm, rfl, _, hcm⟩ := hu.cc HS.out.1.1 HS.out.1.2
  obtain ⟨bk, ck, rfl, _, hck⟩ := hv.cc HS.out.2.1 HS.out.2.2
  have YB := Lib.hid (YB.out.below hb2)
  have PB := Lib.hid (PB.out.below hb2)
  have SB := Lib.hid (SB.out.below hb2)
  have HB := Lib.hid (below_then HB.out hb2)
  have HM := Lib.hid hcm
  have HK := Lib.hid hck
  clear hu hv hcm hck hb2 HS
  clear y0 y1 y2 y3 y4
  go_upto_region 4 with fail
  obtain ⟨W3, hW3⟩ : ∃ W3, W3 = w2.alloc (.cells #[.int .i64 y.d.x, .int .i64 y.d.y, .int .i64 y.d.z, (.slice bm y.ns.length cm), (.slice bk y.ls.length ck)] 26) := ⟨_, rfl⟩
  rw [← hW3]
  have hb3 : Below w2.heap.size w2 W3 := by rw [hW3]; (repeat (first | (with_reducible exact Below.refl _ _) | (with_reducible assumption) | (with_reducible refine below_alloc ?_ _) | (with_reducible refine below_drewN ?_ _) | (with_reducible refine Below.drew ?_) | (with_reducible refine below_then ?_ (by with_reducible assumption)) | (with_reducible refine Below.setCell ?_ (by go_size) _)))
  have OB : Blk W3 w2.heap.size 26 #[.int .i64 y.d.x, .int .i64 y.d.y, .int .i64 y.d.z, (.slice bm y.ns.length cm), (.slice bk y.ls.length ck)] := by
    rw [hW3]
    exact Blk.new ..
  have T := Lib.hid (show FrW w W3 w.heap.size (w.heap.size + 1) (w.heap.size + 1 + 1) w2.heap.size y p f t (.slice bu ms.length cu) (.slice bv ks.length cv) ms ks bn bl bm bk cn cl cm ck from
    ⟨YB.out.below hb3, PB.out.below hb3, SB.out.below hb3, OB, ⟨bn, bl, cn, cl, rfl, HN.out.keep (below_then HB.out hb3), HL.out.keep (below_then HB.out hb3)⟩, ⟨bm, bk, cm, ck, rfl, HM.out.keep hb3, HK.out.keep hb3⟩, SU.out.keep (below_then HB.out hb3), SV.out.keep (below_then HB.out hb3), below_then HB.out hb3⟩)
  clear hW3 hb3 OB YB PB SB HB HM HK HN HL SU SV G1 G2
  (have o0 := T.out.ob.cell 0 _ rfl; have o1 := T.out.ob.cell 1 _ rfl; have o2 := T.out.ob.cell 2 _ rfl; have o3 := T.out.ob.cell 3 _ rfl; have o4 := T.out.ob.cell 4 _ rfl)
  (have s0 := T.out.sb.cell 0 _ rfl; have s1 := T.out.sb.cell 1 _ rfl)
  go_wp2_with fail
  refine (T1.out _ _ _ _ T.out.ho T.out.hu T.out.hv).mono ?_
  rintro e w4 ⟨a1, b1, rfl, A1, B1, hb⟩
  have A1 := Lib.hid A1
  have B1 := Lib.hid B1
  have T := Lib.hid (T.out.keep hb)
  clear hb
  clear o0 o1 o2 o3 o4
  clear s0 s1
  (have y0 := T.out.yb.cell 0 _ rfl; have y1 := T.out.yb.cell 1 _ rfl; have y2 := T.out.yb.cell 2 _ rfl; have y3 := T.out.yb.cell 3 _ rfl; have y4 := T.out.yb.cell 4 _ rfl)
  (have s0 := T.out.sb.cell 0 _ rfl; have s1 := T.out.sb.cell 1 _ rfl)
  go_wp2_with fail
  refine (T2.out _ _ _ _ T.out.hy T.out.hu T.out.hv).mono ?_
  rintro e w5 ⟨a2, b2, rfl, A2, B2, hb⟩
  have A2 := Lib.hid A2
  have B2 := Lib.hid B2
  have T := Lib.hid (T.out.keep hb)
  have A1 := Lib.hid (A1.out.keep hb)
  have B1 := Lib.hid (B1.out.keep hb)
  clear hb
  clear y0 y1 y2 y3 y4
  clear s0 s1
  (have o0 := T.out.ob.cell 0 _ rfl; have o1 := T.out.ob.cell 1 _ rfl; have o2 := T.out.ob.cell 2 _ rfl; have o3 := T.out.ob.cell 3 _ rfl; have o4 := T.out.ob.cell 4 _ rfl)
  (have p0 := T.out.pb.cell 0 _ rfl; have p1 := T.out.pb.cell 1 _ rfl; have p2 := T.out.pb.cell 2 _ rfl; have p3 := T.out.pb.cell 3 _ rfl; have p4 := T.out.pb.cell 4 _ rfl; have p5 := T.out.pb.cell 5 _ rfl; have p6 := T.out.pb.cell 6 _ rfl; have p7 := T.out.pb.cell 7 _ rfl; have p8 := T.out.pb.cell 8 _ rfl)
  go_wp2_with fail
  refine (D1.out _ _ _ T.out.hu T.out.hv).mono ?_
  rintro e w6 ⟨rfl, hb⟩
  (have T := Lib.hid (T.out.keep hb); (try have A1 := Lib.hid (A1.out.keep hb)); (try have A2 := Lib.hid (A2.out.keep hb)); (try have B1 := Lib.hid (B1.out.keep hb)); (try have B2 := Lib.hid (B2.out.keep hb)))
  clear hb
  clear o0 o1 o2 o3 o4
  clear p0 p1 p2 p3 p4 p5 p6 p7 p8
  (have y0 := T.out.yb.cell 0 _ rfl; have y1 := T.out.yb.cell 1 _ rfl; have y2 := T.out.yb.cell 2 _ rfl; have y3 := T.out.yb.cell 3 _ rfl; have y4 := T.out.yb.cell 4 _ rfl)
  (have p0 := T.out.pb.cell 0 _ rfl; have p1 := T.out.pb.cell 1 _ rfl; have p2 := T.out.pb.cell 2 _ rfl; have p3 := T.out.pb.cell 3 _ rfl; have p4 := T.out.pb.cell 4 _ rfl; have p5 := T.out.pb.cell 5 _ rfl; have p6 := T.out.pb.cell 6 _ rfl; have p7 := T.out.pb.cell 7 _ rfl; have p8 := T.out.pb.cell 8 _ rfl)
  go_wp2_with fail
  refine (D2.out _ _ _ T.out.hu T.out.hv).mono ?_
  rintro e w7 ⟨rfl, hb⟩
  (have T := Lib.hid (T.out.keep hb); (try have A1 := Lib.hid (A1.out.keep hb)); (try have A2 := Lib.hid (A2.out.keep hb)); (try have B1 := Lib.hid (B1.out.keep hb)); (try have B2 := Lib.hid (B2.out.keep hb)))
  clear hb
  clear y0 y1 y2 y3 y4
  clear p0 p1 p2 p3 p4 p5 p6 p7 p8
  (have o0 := T.out.ob.cell 0 _ rfl; have o1 := T.out.ob.cell 1 _ rfl; have o2 := T.out.ob.cell 2 _ rfl; have o3 := T.out.ob.cell 3 _ rfl; have o4 := T.out.ob.cell 4 _ rfl)
  (have p0 := T.out.pb.cell 0 _ rfl; have p1 := T.out.pb.cell 1 _ rfl; have p2 := T.out.pb.cell 2 _ rfl; have p3 := T.out.pb.cell 3 _ rfl; have p4 := T.out.pb.cell 4 _ rfl; have p5 := T.out.pb.cell 5 _ rfl; have p6 := T.out.pb.cell 6 _ rfl; have p7 := T.out.pb.cell 7 _ rfl; have p8 := T.out.pb.cell 8 _ rfl)
  go_wp2_with fail
  refine (L1.out _ _ _ _ T.out.ho T.out.hu T.out.hv).mono ?_
  rintro e w8 ⟨rfl, hb⟩
  (have T := Lib.hid (T.out.keep hb); (try have A1 := Lib.hid (A1.out.keep hb)); (try have A2 := Lib.hid (A2.out.keep hb)); (try have B1 := Lib.hid (B1.out.keep hb)); (try have B2 := Lib.hid (B2.out.keep hb)))
  clear hb
  clear o0 o1 o2 o3 o4
  clear p0 p1 p2 p3 p4 p5 p6 p7 p8
  (have y0 := T.out.yb.cell 0 _ rfl; have y1 := T.out.yb.cell 1 _ rfl; have y2 := T.out.yb.cell 2 _ rfl; have y3 := T.out.yb.cell 3 _ rfl; have y4 := T.out.yb.cell 4 _ rfl)
  (have p0 := T.out.pb.cell 0 _ rfl; have p1 := T.out.pb.cell 1 _ rfl; have p2 := T.out.pb.cell 2 _ rfl; have p3 := T.out.pb.cell 3 _ rfl; have p4 := T.out.pb.cell 4 _ rfl; have p5 := T.out.pb.cell 5 _ rfl; have p6 := T.out.pb.cell 6 _ rfl; have p7 := T.out.pb.cell 7 _ rfl; have p8 := T.out.pb.cell 8 _ rfl)
  go_wp2_with fail
  refine (L2.out _ _ _ _ T.out.hy T.out.hu T.out.hv).mono ?_
  rintro e w9 ⟨rfl, hb⟩
  (have T := Lib.hid (T.out.keep hb); (try have A1 := Lib.hid (A1.out.keep hb)); (try have A2 := Lib.hid (A2.out.keep hb)); (try have B1 := Lib.hid (B1.out.keep hb)); (try have B2 := Lib.hid (B2.out.keep hb)))
  clear hb
  clear y0 y1 y2 y3 y4
  clear p0 p1 p2 p3 p4 p5 p6 p7 p8
  go_wp2_with fail
  refine (E1.out _ _ _ A1.out A2.out).mono ?_
  rintro e w10 ⟨rfl, hb⟩
  (have T := Lib.hid (T.out.keep hb); (try have A1 := Lib.hid (A1.out.keep hb)); (try have A2 := Lib.hid (A2.out.keep hb)); (try have B1 := Lib.hid (B1.out.keep hb)); (try have B2 := Lib.hid (B2.out.keep hb)))
  clear hb
  go_wp2_with fail
  refine (E2.out _ _ _ B1.out B2.out).mono ?_
  rintro e w11 ⟨rfl, hb⟩
  (have T := Lib.hid (T.out.keep hb); (try have A1 := Lib.hid (A1.out.keep hb)); (try have A2 := Lib.hid (A2.out.keep hb)); (try have B1 := Lib.hid (B1.out.keep hb)); (try have B2 := Lib.hid (B2.out.keep hb)))
  clear hb
  (have o0 := T.out.ob.cell 0 _ rfl; have o1 := T.out.ob.cell 1 _ rfl; have o2 := T.out.ob.cell 2 _ rfl; have o3 := T.out.ob.cell 3 _ rfl; have o4 := T.out.ob.cell 4 _ rfl)
  (have y0 := T.out.yb.cell 0 _ rfl; have y1 := T.out.yb.cell 1 _ rfl; have y2 := T.out.yb.cell 2 _ rfl; have y3 := T.out.yb.cell 3 _ rfl; have y4 := T.out.yb.cell 4 _ rfl)
  go_wp2_with fail
  refine (E3.out _ _ _ T.out.ho T.out.hy).mono ?_
  rintro e w12 ⟨rfl, hb⟩
  have HB := Lib.hid (below_then T.out.hb hb)
  clear hb
  go_wp2_with fail
  go_returns
  exact ⟨rfl, HB.out⟩
set_option maxRecDepth 100000 in set_option maxHeartbeats 4000000 in
theorem law11_FreeTells (d : V3) (bn bl : Option Addr) (cn cl : Nat) (ns ls : List (List Sl)) (p : Pl) (bu bv : Option Addr) (cu cv : Nat) (ms ks : List Nat) (f t fr long : Int) (w : World) (hn : CR w bn ns) (hl : CR w bl ls)
    (hz : (ns.length * 24 ≤ reachBytes ∧ ∀ c ∈ ns, c.length * 24 ≤ reachBytes) ∧ (ls.length * 24 ≤ reachBytes ∧ ∀ c ∈ ls, c.length * 24 ≤ reachBytes)) (ha : Rd w bu (wcells ms) ∧ W64 ms) (hb : Rd w bv (wcells ks) ∧ W64 ks) :
    Calls Tryz.prog 3 #[.agg #[.int .i64 d.x, .int .i64 d.y, .int .i64 d.z, (.slice bn ns.length cn), (.slice bl ls.length cl)], .agg #[.int .i64 p.b.b.x, .int .i64 p.b.b.y, .int .i64 p.b.b.z, .int .i64 p.b.s.x, .int .i64 p.b.s.y, .int .i64 p.b.s.z, .bool p.t0, .bool p.t1, .bool p.t2], .slice bu ms.length cu, .slice bv ks.length cv, .agg #[.int .i64 f, .int .i64 t], .int .i64 fr, .int .i64 long] w (RB w (.bool true)) := by
  have hG := fun W (h : Below w.heap.size w W) => great_reach d bn bl cn cl ns ls W (hn.keep h) (hl.keep h) hz
  cases hg : greatB ns ls with
  | true =>
    rw [hg] at hG
    have G1 := Lib.hid hG
    clear hG hg hn hl hz ha hb
    go_enter Tryz.func3, Tryz.ntmps3
    go_wp2_with fail
    refine (G1.out _ (by (repeat (first | (with_reducible exact Below.refl _ _) | (with_reducible assumption) | (with_reducible refine below_alloc ?_ _) | (with_reducible refine below_drewN ?_ _) | (with_reducible refine Below.drew ?_) | (with_reducible refine below_then ?_ (by with_reducible assumption)) | (with_reducible refine Below.setCell ?_ (by go_size) _))))).mono ?_
    rintro e w1 ⟨rfl, hb⟩
    have HB := Lib.hid (below_then (show Below w.heap.size w _ by (repeat (first | (with_reducible exact Below.refl _ _) | (with_reducible assumption) | (with_reducible refine below_alloc ?_ _) | (with_reducible refine below_drewN ?_ _) | (with_reducible refine Below.drew ?_) | (with_reducible refine below_then ?_ (by with_reducible assumption)) | (with_reducible refine Below.setCell ?_ (by go_size) _)))) hb)
    clear hb
    go_wp2_with fail
    go_returns
    exact ⟨rfl, HB.out⟩
  | false =>
    rw [hg] at hG
    by_cases l1 : 100 < ms.length
    · have q1 : decide (100 < ms.length) = true := decide_eq_true l1
      have G1 := Lib.hid hG
      clear hG hg hn hl hz ha hb
      go_enter Tryz.func3, Tryz.ntmps3
      go_wp2_with fail
      refine (G1.out _ (by (repeat (first | (with_reducible exact Below.refl _ _) | (with_reducible assumption) | (with_reducible refine below_alloc ?_ _) | (with_reducible refine below_drewN ?_ _) | (with_reducible refine Below.drew ?_) | (with_reducible refine below_then ?_ (by with_reducible assumption)) | (with_reducible refine Below.setCell ?_ (by go_size) _))))).mono ?_
      rintro e w1 ⟨rfl, hb⟩
      have HB := Lib.hid (below_then (show Below w.heap.size w _ by (repeat (first | (with_reducible exact Below.refl _ _) | (with_reducible assumption) | (with_reducible refine below_alloc ?_ _) | (with_reducible refine below_drewN ?_ _) | (with_reducible refine Below.drew ?_) | (with_reducible refine below_then ?_ (by with_reducible assumption)) | (with_reducible refine Below.setCell ?_ (by go_size) _)))) hb)
      clear hb
      go_wp2_with fail
      go_returns
      exact ⟨rfl, HB.out⟩
    by_cases l2 : 100 < ks.length
    · have q1 : decide (100 < ms.length) = false := decide_eq_false l1
      have q2 : decide (100 < ks.length) = true := decide_eq_true l2
      have G1 := Lib.hid hG
      clear hG hg hn hl hz ha hb
      go_enter Tryz.func3, Tryz.ntmps3
      go_wp2_with fail
      refine (G1.out _ (by (repeat (first | (with_reducible exact Below.refl _ _) | (with_reducible assumption) | (with_reducible refine below_alloc ?_ _) | (with_reducible refine below_drewN ?_ _) | (with_reducible refine Below.drew ?_) | (with_reducible refine below_then ?_ (by with_reducible assumption)) | (with_reducible refine Below.setCell ?_ (by go_size) _))))).mono ?_
      rintro e w1 ⟨rfl, hb⟩
      have HB := Lib.hid (below_then (show Below w.heap.size w _ by (repeat (first | (with_reducible exact Below.refl _ _) | (with_reducible assumption) | (with_reducible refine below_alloc ?_ _) | (with_reducible refine below_drewN ?_ _) | (with_reducible refine Below.drew ?_) | (with_reducible refine below_then ?_ (by with_reducible assumption)) | (with_reducible refine Below.setCell ?_ (by go_size) _)))) hb)
      clear hb
      go_wp2_with fail
      go_returns
      exact ⟨rfl, HB.out⟩
    have hs := great_small hg
    exact core_FreeTells ⟨d, ns, ls⟩ bn bl cn cl p bu bv cu cv ms ks f t fr long w ⟨hn, hs.1.1, hs.1.2⟩ ⟨hl, hs.2.1, hs.2.2⟩ (SetIn.mk ha.1 (by omega) ha.2) (SetIn.mk hb.1 (by omega) hb.2) (by omega) (by omega) hG

set_option maxRecDepth 100000 in set_option maxHeartbeats 4000000 in
theorem lift_freeTells (os : Os) (started : os.Started) (H : Type) (enc : TypeId × Value → H) :
    ReturnsInHanded {} Tryz.checked os 3 .any (Rows.freeTellsSpec.pre6 enc Tryz.prog Tryz.f3 Rows.freeTellsRow.domain false) (Rows.freeTellsSpec.post enc Tryz.prog Tryz.f3 false true false false) := by
  refine returnsInHanded_of_change_sized (C := Tryz.checked) ownKnob0 started (by kernel_rfl) Tryz.func3
    (ChangeSpec.witness6 (enc := enc) (C := Tryz.checked) false ⟨#[], #[.agg #[.int .i64 (⟨0, 0, 0⟩ : V3).x, .int .i64 (⟨0, 0, 0⟩ : V3).y, .int .i64 (⟨0, 0, 0⟩ : V3).z, (.slice none 0 0), (.slice none 0 0)], .agg #[.int .i64 0, .int .i64 0, .int .i64 0, .int .i64 0, .int .i64 0, .int .i64 0, .bool false, .bool false, .bool false], .slice none 0 0, .slice none 0 0, .agg #[.int .i64 0, .int .i64 0], .int .i64 0, .int .i64 0], []⟩ 8 (by kernel_rfl) (by kernel_rfl) (by kernel_rfl) (by kernel_rfl)) ?_
  intro W base args ds gs before hval0 hW hcnd hwt _
  have hval : ∀ (j : Nat) t v, Tryz.f3.params[j]? = some t → args[j]? = some v → Value.okWide Tryz.prog W .any base t v := hval0
  have hW' := hW
  obtain ⟨p, q, hA0, hV, rfl, hfz, hnd⟩ := hW
  have hA : DataW.TrodAll enc Tryz.prog W 0 (fun _ => true) true Tryz.f3.params.toList args.toList ds p := hA0
  rw [Tryz.params3] at hA hval hwt
  have hK := hA
  obtain ⟨v0, vs0, d0, ds0, p0, q0, hargs, rfl, rfl, h0, r0⟩ := trodAll_cons hA
  obtain ⟨v1, vs1, d1, ds1, p1, q1, rfl, rfl, rfl, h1, r1⟩ := trodAll_cons r0
  obtain ⟨v2, vs2, d2, ds2, p2, q2, rfl, rfl, rfl, h2, r2⟩ := trodAll_cons r1
  obtain ⟨v3, vs3, d3, ds3, p3, q3, rfl, rfl, rfl, h3, r3⟩ := trodAll_cons r2
  obtain ⟨v4, vs4, d4, ds4, p4, q4, rfl, rfl, rfl, h4, r4⟩ := trodAll_cons r3
  obtain ⟨v5, vs5, d5, ds5, p5, q5, rfl, rfl, rfl, h5, r5⟩ := trodAll_cons r4
  obtain ⟨v6, vs6, d6, ds6, p6, q6, rfl, rfl, rfl, h6, r6⟩ := trodAll_cons r5
  obtain ⟨rfl, rfl, rfl⟩ := trodAll_nil r6
  obtain rfl : args = #[v0, v1, v2, v3, v4, v5, v6] := by cases args; simp_all
  obtain ⟨d, bn, bl, ns, ls, cn, cl, rfl, hn, hl, hz⟩ := open_yard (hval 0 _ v0 rfl rfl) h0
  obtain ⟨pp, rfl⟩ := open_place (hval 1 _ v1 rfl rfl)
  obtain ⟨bu, ms, cu, rfl, ha, _⟩ := open_set (hval 2 _ v2 rfl rfl) h2
  obtain ⟨bv, ks, cv, rfl, hb, _⟩ := open_set (hval 3 _ v3 rfl rfl) h3
  obtain ⟨f, t, rfl⟩ := open_span (hval 4 _ v4 rfl rfl)
  obtain ⟨fr, rfl⟩ := okWide_int Tryz.underlying3 (hval 5 _ v5 rfl rfl)
  obtain ⟨long, rfl⟩ := okWide_int Tryz.underlying3 (hval 6 _ v6 rfl rfl)
  have hz' := hz reachBytes (fun k hk => by have := List.all_eq_true.1 hwt k (DataW.weights_mem_each (j := 0) rfl rfl k hk); simpa using this)
  obtain ⟨rfl, rfl⟩ := trodVars_none hV
  clear hA0 hval0
  simp only [List.append_nil] at hW' hK
  refine (law11_FreeTells d bn bl cn cl ns ls pp bu bv cu cv ms ks f t fr long W hn hl hz' ha hb).mono fun e W' ⟨he, bel⟩ => ?_
  subst he
  refine ⟨_, rfl, _, _, _, [], _, [], hW', trodAll_mk1 (shut_bool Tryz.underlying4 _), trodAll_below bel _ _ _ _ ?_ hK, rfl, bel.frame _, fun h => by cases h⟩
  intro t ht
  simp at ht <;> (rcases ht with rfl | rfl | rfl | rfl | rfl | rfl | rfl <;> exact ⟨by kernel_rfl, of_decide_eq_true (by kernel_rfl)⟩)

theorem holds_freeTells : Rows.freeTellsRow.holds Tryz.pinned (OpenSpec.ofChange Rows.freeTellsSpec) :=
  OpenClaim.holds_of_wide 3 Tryz.f3 rfl rfl rfl rfl rfl rfl rfl ⟨rfl, rfl, rfl, rfl, rfl⟩ rfl rfl rfl rfl rfl (by kernel_rfl) Tryz.func3 (by kernel_rfl)
    (of_decide_eq_true (by kernel_rfl)) (by unfold Func.isWrapper; first | (rw [if_pos (by decide +kernel)]; kernel_rfl) | (rw [if_neg (by decide +kernel)]; exact ⟨rfl, rfl⟩))
    (fun os started H enc _ => lift_freeTells os started H enc)

theorem FreeTells_holds : Rows.FreeTellsSaid := holds_freeTells
end
end Go.Proofs.YtofoenlhbmammaaGreat
