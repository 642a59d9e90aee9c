/- FREE: is a place free from a moment on? The statement's own question. -/
import Derived.Test.YtofoenlhbmammaaGreatQ0FreeSF11
import Derived.Test.YtofoenlhbmammaaGreatQ0FreeMoreF11
set_option linter.unusedVariables false
set_option linter.unusedSimpArgs false
namespace Go.Proofs.YtofoenlhbmammaaGreat

section
open Go.RowKit Go.Shelf

/-- Calendars and a place in their boxes, and two sets. -/
def AtT (w W : World) (y : Yd) (bn bl : Option Addr) (cn cl : Nat) (p : Pl) (u v : Value) (ms ks : List Nat) : Prop :=
  Blk W w.heap.size 26 #[.int .i64 y.d.x, .int .i64 y.d.y, .int .i64 y.d.z, (.slice bn y.ns.length cn), (.slice bl y.ls.length cl)] ∧ Blk W (w.heap.size + 1) 31 #[.int .i64 p.b.b.x, .int .i64 p.b.b.y, .int .i64 p.b.b.z, .int .i64 p.b.s.x, .int .i64 p.b.s.y, .int .i64 p.b.s.z, .bool p.t0, .bool p.t1, .bool p.t2] ∧ YS W (.agg #[.int .i64 y.d.x, .int .i64 y.d.y, .int .i64 y.d.z, (.slice bn y.ns.length cn), (.slice bl y.ls.length cl)]) y ∧ SS W u ms ∧ SS W v ks ∧ Below w.heap.size w W
theorem at_keep {w W W' : World} {y : Yd} {bn bl : Option Addr} {cn cl : Nat} {p : Pl} {u v : Value} {ms ks : List Nat} (h : AtT w W y bn bl cn cl p u v ms ks) (hb : Below W.heap.size W W') : AtT w W' y bn bl cn cl p u v ms ks :=
  ⟨h.1.below hb, h.2.1.below hb, h.2.2.1.keep hb, h.2.2.2.1.keep hb, h.2.2.2.2.1.keep hb, below_then h.2.2.2.2.2 hb⟩
theorem at_new {w w1 : World} {y : Yd} {bn bl : Option Addr} {cn cl : Nat} {p : Pl} {u v : Value} {ms ks : List Nat} (hy : YS w (.agg #[.int .i64 y.d.x, .int .i64 y.d.y, .int .i64 y.d.z, (.slice bn y.ns.length cn), (.slice bl y.ls.length cl)]) y) (hu : SS w u ms) (hv : SS w v ks) (hb : Below ((w.alloc (.cells #[.int .i64 y.d.x, .int .i64 y.d.y, .int .i64 y.d.z, (.slice bn y.ns.length cn), (.slice bl y.ls.length cl)] 26)).alloc (.cells #[.int .i64 p.b.b.x, .int .i64 p.b.b.y, .int .i64 p.b.b.z, .int .i64 p.b.s.x, .int .i64 p.b.s.y, .int .i64 p.b.s.z, .bool p.t0, .bool p.t1, .bool p.t2] 31)).heap.size ((w.alloc (.cells #[.int .i64 y.d.x, .int .i64 y.d.y, .int .i64 y.d.z, (.slice bn y.ns.length cn), (.slice bl y.ls.length cl)] 26)).alloc (.cells #[.int .i64 p.b.b.x, .int .i64 p.b.b.y, .int .i64 p.b.b.z, .int .i64 p.b.s.x, .int .i64 p.b.s.y, .int .i64 p.b.s.z, .bool p.t0, .bool p.t1, .bool p.t2] 31)) w1) : AtT w w1 y bn bl cn cl p u v ms ks := by
  have h0 : Below w.heap.size w ((w.alloc (.cells #[.int .i64 y.d.x, .int .i64 y.d.y, .int .i64 y.d.z, (.slice bn y.ns.length cn), (.slice bl y.ls.length cl)] 26)).alloc (.cells #[.int .i64 p.b.b.x, .int .i64 p.b.b.y, .int .i64 p.b.b.z, .int .i64 p.b.s.x, .int .i64 p.b.s.y, .int .i64 p.b.s.z, .bool p.t0, .bool p.t1, .bool p.t2] 31)) := by (repeat (first | (with_reducible exact Below.refl _ _) | (with_reducible assumption) | (with_reducible refine below_alloc ?_ _) | (with_reducible refine below_drewN ?_ _) | (with_reducible refine Below.drew ?_) | (with_reducible refine below_then ?_ (by with_reducible assumption)) | (with_reducible refine Below.setCell ?_ (by go_size) _)))
  have bp := (Blk.new (w.alloc (.cells #[.int .i64 y.d.x, .int .i64 y.d.y, .int .i64 y.d.z, (.slice bn y.ns.length cn), (.slice bl y.ls.length cl)] 26)) 31 #[.int .i64 p.b.b.x, .int .i64 p.b.b.y, .int .i64 p.b.b.z, .int .i64 p.b.s.x, .int .i64 p.b.s.y, .int .i64 p.b.s.z, .bool p.t0, .bool p.t1, .bool p.t2]).below hb
  simp only [World.size_alloc] at bp
  exact ⟨((Blk.new w 26 #[.int .i64 y.d.x, .int .i64 y.d.y, .int .i64 y.d.z, (.slice bn y.ns.length cn), (.slice bl y.ls.length cl)]).alloc (.cells #[.int .i64 p.b.b.x, .int .i64 p.b.b.y, .int .i64 p.b.b.z, .int .i64 p.b.s.x, .int .i64 p.b.s.y, .int .i64 p.b.s.z, .bool p.t0, .bool p.t1, .bool p.t2] 31)).below hb, bp, hy.keep (below_then h0 hb), hu.keep (below_then h0 hb), hv.keep (below_then h0 hb), below_then h0 hb⟩
set_option maxRecDepth 100000 in set_option maxHeartbeats 4000000 in
theorem law11_at (vy : Value) (y : Yd) (p : Pl) (u v : Value) (ms ks : List Nat) (fr long : Int) (w : World) (hy : YS w vy y) (hu : SS w u ms) (hv : SS w v ks) (hok : y.okB = true) (hh : holdE y.d p ms ks = 0) (h0 : 0 ≤ fr) (hl : 1 ≤ long) (hm : fr + long ≤ 1099511627776) :
    Calls Tryz.prog 21 #[vy, .agg #[.int .i64 p.b.b.x, .int .i64 p.b.b.y, .int .i64 p.b.b.z, .int .i64 p.b.s.x, .int .i64 p.b.s.y, .int .i64 p.b.s.z, .bool p.t0, .bool p.t1, .bool p.t2], u, v, .int .i64 fr, .int .i64 long] w (RB w (.bool (freeAt y (midsV y.d p) (linksV y.d p) long fr && holdB y.d p ms ks))) := by
  obtain ⟨f1, f2⟩ : W64 ms ∧ W64 ks := by
    obtain ⟨_, _, _, h1⟩ := hu.ex
    obtain ⟨_, _, _, h2⟩ := hv.ex
    exact ⟨h1.fit, h2.fit⟩
  obtain ⟨a1, a2, a3⟩ := at_plain hok hh h0 hl hm f1 f2
  have K1 := Lib.hid (fun W z (h : YS W z y) a b (ha : SS W a ms) (hb : SS W b ks) => by have := free_Avoid z y a b ms ks fr (fr + long) W h ha hb; rw [a1] at this; exact this)
  have K2 := Lib.hid (fun W a b (ha : SS W a (avV y ms ks fr (fr + long)).1) (hb : SS W b (avV y ms ks fr (fr + long)).2) => by have := free_Holds y.d p a b _ _ W ha hb; rw [show holdV y.d p (avV y ms ks fr (fr + long)).1 (avV y ms ks fr (fr + long)).2 = _ from if_pos a2, a2, a3] at this; exact this)
  obtain ⟨bn, bl, cn, cl, rfl, _, _⟩ := hy.ex
  have HY := Lib.hid hy
  have HU := Lib.hid hu
  have HV := Lib.hid hv
  generalize (avV y ms ks fr (fr + long)).1 = X1 at *
  generalize (avV y ms ks fr (fr + long)).2 = X2 at *
  generalize (freeAt y (midsV y.d p) (linksV y.d p) long fr && holdB y.d p ms ks) = x at *
  have q : IntKind.i64.wrap (fr + long) = fr + long := IntWalk.i64_in _ (by omega)
  have T := Lib.hid (at_new (p := p) HY.out HU.out HV.out (Below.refl _ _))
  clear hy hu hv hok hh f1 f2 a1 a2 a3 HY HU HV hm
  (have y0 := T.out.1.cell 0 _ rfl; have y1 := T.out.1.cell 1 _ rfl; have y2 := T.out.1.cell 2 _ rfl; have y3 := T.out.1.cell 3 _ rfl; have y4 := T.out.1.cell 4 _ rfl)
  go_enter Tryz.func21, Tryz.ntmps21
  go_wp2_with fail
  refine (K1.out _ _ T.out.2.2.1 _ _ T.out.2.2.2.1 T.out.2.2.2.2.1).mono ?_
  rintro e w2 ⟨x1, x2, rfl, hx1, hx2, hb⟩
  have T := Lib.hid (at_keep T.out hb)
  have X1 := Lib.hid hx1
  have X2 := Lib.hid hx2
  clear hb hx1 hx2
  clear y0 y1 y2 y3 y4
  (have y0 := T.out.1.cell 0 _ rfl; have y1 := T.out.1.cell 1 _ rfl; have y2 := T.out.1.cell 2 _ rfl; have y3 := T.out.1.cell 3 _ rfl; have y4 := T.out.1.cell 4 _ rfl)
  (have p0 := T.out.2.1.cell 0 _ rfl; have p1 := T.out.2.1.cell 1 _ rfl; have p2 := T.out.2.1.cell 2 _ rfl; have p3 := T.out.2.1.cell 3 _ rfl; have p4 := T.out.2.1.cell 4 _ rfl; have p5 := T.out.2.1.cell 5 _ rfl; have p6 := T.out.2.1.cell 6 _ rfl; have p7 := T.out.2.1.cell 7 _ rfl; have p8 := T.out.2.1.cell 8 _ rfl)
  go_wp2_with fail
  refine (K2.out _ _ _ X1.out X2.out).mono ?_
  rintro e w3 ⟨rfl, hb⟩
  have T := Lib.hid (at_keep T.out hb)
  clear hb
  clear y0 y1 y2 y3 y4
  clear p0 p1 p2 p3 p4 p5 p6 p7 p8
  go_wp2_with fail
  go_returns
  exact ⟨rfl, T.out.2.2.2.2.2⟩
end
end Go.Proofs.YtofoenlhbmammaaGreat
