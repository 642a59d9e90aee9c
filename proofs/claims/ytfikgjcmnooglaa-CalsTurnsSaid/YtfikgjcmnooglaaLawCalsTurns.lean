/- CalsTurns: calendars with an owner's midplanes and cables, and with an owner's ended, or the errors, are the document's, in new memory: the call returns true. -/
import Derived.Test.YtfikgjcmnooglaaTurnsW
import Derived.Test.YtfikgjcmnooglaaRowYard
namespace Go.Proofs.Ytfikgjcmnooglaa
open Go.ChangeShapes Go.WideShapes Go.ChangeAt Go.RowKit Go.Shelf

/-- A box with calendars. -/
structure PBox (W : World) (B : Nat) (bn bl : Option Addr) (cn cl : Nat) (y : Yd) : Prop where
  blk : Blk W B 42 #[.int .i64 y.d.x, .int .i64 y.d.y, .int .i64 y.d.z, (.slice bn y.ns.length cn), (.slice bl y.ls.length cl)]
  hn : CW W bn y.ns
  hl : CW W bl y.ls
theorem PBox.keep {w W : World} {B : Nat} {bn bl : Option Addr} {cn cl : Nat} {y : Yd} (h : PBox w B bn bl cn cl y) (hb : Below w.heap.size w W) : PBox W B bn bl cn cl y := ⟨h.blk.below hb, h.hn.keep hb, h.hl.keep hb⟩
theorem PBox.ys {W : World} {B : Nat} {bn bl : Option Addr} {cn cl : Nat} {y : Yd} (h : PBox W B bn bl cn cl y) (hs : y.small) : YS W (.agg #[.int .i64 y.d.x, .int .i64 y.d.y, .int .i64 y.d.z, (.slice bn y.ns.length cn), (.slice bl y.ls.length cl)]) y :=
  ⟨bn, bl, cn, cl, rfl, ⟨h.hn.rd, hs.1.1, hs.1.2⟩, ⟨h.hl.rd, hs.2.1, hs.2.2⟩⟩
theorem PBox.same {W : World} {B C : Nat} {bn bl bm bk : Option Addr} {cn cl cm ck : Nat} {y z : Yd} (h : PBox W B bn bl cn cl y) (h2 : PBox W C bm bk cm ck z) :
    Calls Try.prog 33 #[.agg #[.int .i64 y.d.x, .int .i64 y.d.y, .int .i64 y.d.z, (.slice bn y.ns.length cn), (.slice bl y.ls.length cl)], .agg #[.int .i64 z.d.x, .int .i64 z.d.y, .int .i64 z.d.z, (.slice bm z.ns.length cm), (.slice bk z.ls.length ck)]] W (RB W (.bool (y.same z))) :=
  wide_Same y.d z.d bn bl bm bk cn cl cm ck y.ns y.ls z.ns z.ls W h.hn h.hl h2.hn h2.hl
/-- What New, Put, Cut, Take hand back, ready for a box. -/
def RYW (w : World) (y : Yd) (x : Int) : Ending → World → Prop := fun e w' => ∃ bn bl cn cl, e = .returned (.tuple #[.agg #[.int .i64 y.d.x, .int .i64 y.d.y, .int .i64 y.d.z, (.slice bn y.ns.length cn), (.slice bl y.ls.length cl)], .int .i64 x]) ∧ LO w' w.heap.size (.slice bn y.ns.length cn) y.ns ∧ CW w' bn y.ns ∧ CW w' bl y.ls ∧ Below w.heap.size w w'
theorem RYW.of {P : Program} {f : FuncId} {args : Array Value} {w : World} {y : Yd} {x : Int} (h : Calls P f args w (RYE w y x)) (h1 : (y.ns.length ≤ 100000 ∧ ∀ c ∈ y.ns, c.length ≤ 10000) ∧ (y.ls.length ≤ 100000 ∧ ∀ c ∈ y.ls, c.length ≤ 10000)) : Calls P f args w (RYW w y x) :=
  h.mono fun e w' ⟨u, v, he, hu, hv, hb⟩ => by
    obtain ⟨b1, k1, rfl, g1⟩ := hu.cw h1.1.1 h1.1.2
    obtain ⟨b2, k2, rfl, g2⟩ := hv.cw h1.2.1 h1.2.2
    exact ⟨b1, b2, k1, k2, he, hu, g1, g2, hb⟩
theorem Yd.small.wide {y : Yd} (h : y.small) : (y.ns.length ≤ 100000 ∧ ∀ c ∈ y.ns, c.length ≤ 10000) ∧ (y.ls.length ≤ 100000 ∧ ∀ c ∈ y.ls, c.length ≤ 10000) := ⟨⟨by have := h.1.1; omega, h.1.2⟩, ⟨by have := h.2.1; omega, h.2.2⟩⟩
section
variable {W : World} {v a b : Value} {y : Yd} {ms ks : List Nat} (h : YS W v y) (hs : y.small)
include h hs
theorem w_Put (s : Sl) (ha : SS W a ms) (hb : SS W b ks) : Calls Try.prog 48 #[v, .int .i64 s.o, a, b, .agg #[.int .i64 s.f, .int .i64 s.t]] W (RYW W (yPutV y ms ks s) (yPutE y ms ks s)) := by
  have hw := (yPutV_small (ms := ms) (ks := ks) (s := s) hs).wide
  obtain ⟨bn, bl, cn, cl, rfl, h1, h2⟩ := h.ex
  obtain ⟨bm, cm, rfl, hm⟩ := ha.ex
  obtain ⟨bk, ck, rfl, hk⟩ := hb.ex
  refine RYW.of ?_ hw
  cases hok : y.okB with
  | true => exact cals_Put_go y.d bn bl cn cl y.ns y.ls bm bk cm ck ms ks s W h1 h2 hm hk hok
  | false =>
    have hE : yPutE y ms ks s = 8 := by unfold yPutE; rw [hok]; rfl
    have hV : yPutV y ms ks s = Yd.zero := by unfold yPutV; rw [hE]; rfl
    rw [hE, hV]
    exact cals_Put_bad y.d bn bl cn cl y.ns y.ls bm bk cm ck ms ks s W h1 h2 hok
theorem w_RPut (s : Sl) (ha : SS W a ms) (hb : SS W b ks) : Calls Try.prog 51 #[v, .int .i64 s.o, a, b, .agg #[.int .i64 s.f, .int .i64 s.t]] W (RYW W (yPutV y ms ks s) (yPutE y ms ks s)) := by
  have hw := (yPutV_small (ms := ms) (ks := ks) (s := s) hs).wide
  obtain ⟨bn, bl, cn, cl, rfl, h1, h2⟩ := h.ex
  obtain ⟨bm, cm, rfl, hm⟩ := ha.ex
  obtain ⟨bk, ck, rfl, hk⟩ := hb.ex
  exact RYW.of (ref09_Put y.d bn bl cn cl y.ns y.ls bm bk cm ck ms ks s W h1 h2 hm hk) hw
theorem w_Cut (ow tm : Int) : Calls Try.prog 52 #[v, .int .i64 ow, .int .i64 tm] W (RYW W (yCutV ow tm y) y.chk) := by
  obtain ⟨bn, bl, cn, cl, rfl, h1, h2⟩ := h.ex
  exact RYW.of (cals_Cut y.d bn bl cn cl y.ns y.ls ow tm W h1 h2) (yCutV_small hs).wide
theorem w_RCut (ow tm : Int) : Calls Try.prog 53 #[v, .int .i64 ow, .int .i64 tm] W (RYW W (yCutV ow tm y) y.chk) := by
  obtain ⟨bn, bl, cn, cl, rfl, h1, h2⟩ := h.ex
  exact RYW.of (ref09_Cut y.d bn bl cn cl y.ns y.ls ow tm W h1 h2) (yCutV_small hs).wide
theorem w_Take (ow : Int) : Calls Try.prog 54 #[v, .int .i64 ow] W (RYW W (yCutV ow 0 y) y.chk) := by
  obtain ⟨bn, bl, cn, cl, rfl, h1, h2⟩ := h.ex
  exact RYW.of (cals_Take y.d bn bl cn cl y.ns y.ls ow W h1 h2) (yCutV_small hs).wide
theorem w_RTake (ow : Int) : Calls Try.prog 55 #[v, .int .i64 ow] W (RYW W (yCutV ow 0 y) y.chk) := by
  obtain ⟨bn, bl, cn, cl, rfl, h1, h2⟩ := h.ex
  exact RYW.of (ref09_Take y.d bn bl cn cl y.ns y.ls ow W h1 h2) (yCutV_small hs).wide
end
theorem ys_Check {W : World} {v : Value} {y : Yd} (h : YS W v y) : Calls Try.prog 50 #[v] W (RB W (.int .i64 y.chk)) := by
  obtain ⟨bn, bl, cn, cl, rfl, h1, h2⟩ := h.ex
  exact cals_Check y.d bn bl cn cl y.ns y.ls W h1 h2
theorem ys_RCheck {W : World} {v : Value} {y : Yd} (h : YS W v y) : Calls Try.prog 58 #[v] W (RB W (.int .i64 y.chk)) := by
  obtain ⟨bn, bl, cn, cl, rfl, h1, h2⟩ := h.ex
  exact ref09_Check y.d bn bl cn cl y.ns y.ls W h1 h2
theorem ys_CSame {W : World} {v u : Value} {y z : Yd} (h : YS W v y) (hu : YS W u z) : Calls Try.prog 59 #[v, u] W (RB W (.bool (y.same z))) := by
  obtain ⟨bn, bl, cn, cl, rfl, h1, h2⟩ := h.ex
  obtain ⟨bm, bk, cm, ck, rfl, h3, h4⟩ := hu.ex
  exact cals_Same y.d z.d bn bl bm bk cn cl cm ck y.ns y.ls z.ns z.ls W h1 h2 h3 h4
theorem w_New (d : V3) (W : World) : Calls Try.prog 56 #[.agg #[.int .i64 d.x, .int .i64 d.y, .int .i64 d.z]] W (RYW W (newV d) d.err) := RYW.of (cals_New d W) (newV_wide d)
theorem w_RNew (d : V3) (W : World) : Calls Try.prog 57 #[.agg #[.int .i64 d.x, .int .i64 d.y, .int .i64 d.z]] W (RYW W (newV d) d.err) := RYW.of (ref09_New d W) (newV_wide d)
set_option maxRecDepth 100000 in set_option maxHeartbeats 4000000 in
theorem core_CalsTurns (y o : Yd) (bn bl bo bq : Option Addr) (cn cl co cq : Nat) (bm bk : Option Addr) (cm ck : Nat) (ms ks : List Nat) (ow f t tm : Int) (w : World) (hn : CC w bn y.ns) (hl : CC w bl y.ls) (ho : CC w bo o.ns) (hq : CC w bq o.ls)
    (hG1 : ∀ W, Below w.heap.size w W → Calls Try.prog 26 #[.agg #[.int .i64 y.d.x, .int .i64 y.d.y, .int .i64 y.d.z, (.slice bn y.ns.length cn), (.slice bl y.ls.length cl)]] W (RB W (.bool false))) (hG2 : ∀ W, Below w.heap.size w W → Calls Try.prog 26 #[.agg #[.int .i64 o.d.x, .int .i64 o.d.y, .int .i64 o.d.z, (.slice bo o.ns.length co), (.slice bq o.ls.length cq)]] W (RB W (.bool false)))
    (hm : SetIn w bm ms) (hk : SetIn w bk ks) (m1 : ms.length ≤ 100) (k1 : ks.length ≤ 100) :
    Calls Try.prog 11 #[.agg #[.int .i64 y.d.x, .int .i64 y.d.y, .int .i64 y.d.z, (.slice bn y.ns.length cn), (.slice bl y.ls.length cl)], .agg #[.int .i64 o.d.x, .int .i64 o.d.y, .int .i64 o.d.z, (.slice bo o.ns.length co), (.slice bq o.ls.length cq)], .int .i64 ow, .slice bm ms.length cm, .slice bk ks.length ck, .agg #[.int .i64 f, .int .i64 t], .int .i64 tm] w (RB w (.bool true)) := by
  have ys : y.small := ⟨⟨hn.many, hn.small⟩, ⟨hl.many, hl.small⟩⟩
  have os : o.small := ⟨⟨ho.many, ho.small⟩, ⟨hq.many, hq.small⟩⟩
  obtain ⟨W0, hW0⟩ : ∃ W0, W0 = ((w.alloc (.cells #[.int .i64 y.d.x, .int .i64 y.d.y, .int .i64 y.d.z, (.slice bn y.ns.length cn), (.slice bl y.ls.length cl)] 42)).alloc (.cells #[.int .i64 o.d.x, .int .i64 o.d.y, .int .i64 o.d.z, (.slice bo o.ns.length co), (.slice bq o.ls.length cq)] 42)).alloc (.cells #[.int .i64 f, .int .i64 t] 24) := ⟨_, rfl⟩
  have hb0 : Below w.heap.size w W0 := by rw [hW0]; (repeat (first | (with_reducible exact Below.refl _ _) | (with_reducible assumption) | (with_reducible refine below_alloc ?_ _) | (with_reducible refine below_drewN ?_ _) | (with_reducible refine Below.drew ?_) | (with_reducible refine below_then ?_ (by with_reducible assumption)) | (with_reducible refine Below.setCell ?_ (by go_size) _)))
  have e1 : w.heap.size + 1 = (w.alloc (.cells #[.int .i64 y.d.x, .int .i64 y.d.y, .int .i64 y.d.z, (.slice bn y.ns.length cn), (.slice bl y.ls.length cl)] 42)).heap.size := by simp
  have e2 : w.heap.size + 1 + 1 = ((w.alloc (.cells #[.int .i64 y.d.x, .int .i64 y.d.y, .int .i64 y.d.z, (.slice bn y.ns.length cn), (.slice bl y.ls.length cl)] 42)).alloc (.cells #[.int .i64 o.d.x, .int .i64 o.d.y, .int .i64 o.d.z, (.slice bo o.ns.length co), (.slice bq o.ls.length cq)] 42)).heap.size := by simp
  have XY := Lib.hid (show PBox W0 w.heap.size bn bl cn cl y from ⟨by rw [hW0]; exact ((Blk.new ..).alloc _).alloc _, hn.cw.keep hb0, hl.cw.keep hb0⟩)
  have XO := Lib.hid (show PBox W0 (w.heap.size + 1) bo bq co cq o from ⟨by rw [hW0, e1]; exact (Blk.new ..).alloc _, ho.cw.keep hb0, hq.cw.keep hb0⟩)
  have SPB := Lib.hid (show Blk W0 (w.heap.size + 1 + 1) 24 #[.int .i64 f, .int .i64 t] by rw [hW0, e2]; exact Blk.new ..)
  have HB := Lib.hid hb0
  have HW := Lib.hid hW0
  have G1 := Lib.hid hG1
  have G2 := Lib.hid hG2
  have T1 := Lib.hid (fun W (h : Below w.heap.size w W) => (show Calls Try.prog 27 #[.agg #[.int .i64 y.d.x, .int .i64 y.d.y, .int .i64 y.d.z, (.slice bn y.ns.length cn), (.slice bl y.ls.length cl)]] W (RY W y) from ref09_Twin y.d bn bl cn cl y.ns y.ls W (hn.keep h) (hl.keep h)))
  have SM := Lib.hid (show SS w (.slice bm ms.length cm) ms from ⟨bm, cm, rfl, hm⟩)
  have SK := Lib.hid (show SS w (.slice bk ks.length ck) ks from ⟨bk, ck, rfl, hk⟩)
  have YSm := Lib.hid ys
  have P1 := Lib.hid (fun (W : World) v a b (h : YS W v y) (ha : SS W a ms) (hb : SS W b ks) => w_Put h ys ⟨f, t, ow⟩ ha hb)
  have P2 := Lib.hid (fun (W : World) v a b (h : YS W v y) (ha : SS W a ms) (hb : SS W b ks) => w_RPut h ys ⟨f, t, ow⟩ ha hb)
  have C1 := Lib.hid (fun (W : World) v (h : YS W v y) => w_Cut h ys ow tm)
  have C2 := Lib.hid (fun (W : World) v (h : YS W v y) => w_RCut h ys ow tm)
  have D1 := Lib.hid (fun (W : World) v (h : YS W v y) => w_Take h ys ow)
  have D2 := Lib.hid (fun (W : World) v (h : YS W v y) => w_RTake h ys ow)
  have N1 := Lib.hid (fun (W : World) => w_New y.d W)
  have N2 := Lib.hid (fun (W : World) => w_RNew y.d W)
  have K1 := Lib.hid (fun (W : World) v (h : YS W v y) => ys_Check h)
  have K2 := Lib.hid (fun (W : World) v (h : YS W v y) => ys_RCheck h)
  have S1 := Lib.hid (fun (W : World) v u (h : YS W v y) (h2 : YS W u o) => ys_CSame h h2)
  have S2 := Lib.hid (fun (W : World) v u (h : YS W v y) (h2 : YS W u o) => y_Same h h2)
  have S3 := Lib.hid (fun (W : World) v u (h : YS W v y) (h2 : YS W u y) => Calls.rb_eq (y_Same h h2) (show Value.bool _ = .bool true by rw [Yd.same_self]))
  have OSm := Lib.hid os
  have ys1 := (yPutV_small (ms := ms) (ks := ks) (s := ⟨f, t, ow⟩) ys).1.1
  have ysl := ys.1.1
  generalize yPutV y ms ks ⟨f, t, ow⟩ = p1 at *
  generalize yPutE y ms ks ⟨f, t, ow⟩ = pe at *
  generalize yCutV ow tm y = c1 at *
  generalize yCutV ow 0 y = c2 at *
  generalize newV y.d = n1 at *
  generalize V3.err y.d = ne at *
  generalize y.chk = ce at *
  generalize y.same o = sb at *
  clear hn hl ho hq hG1 hG2 hm hk hb0 e1 e2 hW0 ys os
  go_enter Try.func11, Try.ntmps11
  go_upto_region 1 with fail
  rw [← HW.out]
  (have y0 := XY.out.blk.cell 0 _ rfl; have y1 := XY.out.blk.cell 1 _ rfl; have y2 := XY.out.blk.cell 2 _ rfl; have y3 := XY.out.blk.cell 3 _ rfl; have y4 := XY.out.blk.cell 4 _ rfl)
  go_wp2_with fail
  refine (G1.out _ HB.out).mono ?_
  rintro e w1 ⟨rfl, hb⟩
  (have HB := Lib.hid (below_then HB.out hb); (try have H4 := Lib.hid (below_then H4.out hb)); have SPB := Lib.hid (SPB.out.below hb); (try have XY := Lib.hid (XY.out.keep hb)); (try have XO := Lib.hid (XO.out.keep hb)); (try have XT := Lib.hid (XT.out.keep hb)); (try have XA := Lib.hid (XA.out.keep hb)); (try have XB := Lib.hid (XB.out.keep hb)); (try have XC := Lib.hid (XC.out.keep hb)); (try have XD := Lib.hid (XD.out.keep hb)); (try have XE := Lib.hid (XE.out.keep hb)); (try have XF := Lib.hid (XF.out.keep hb)); (try have XG := Lib.hid (XG.out.keep hb)); (try have XH := Lib.hid (XH.out.keep hb)); (try have HU := Lib.hid (HU.out.keep hb)))
  clear hb
  clear y0 y1 y2 y3 y4
  (have y0 := XO.out.blk.cell 0 _ rfl; have y1 := XO.out.blk.cell 1 _ rfl; have y2 := XO.out.blk.cell 2 _ rfl; have y3 := XO.out.blk.cell 3 _ rfl; have y4 := XO.out.blk.cell 4 _ rfl)
  go_wp2_with fail
  refine (G2.out _ HB.out).mono ?_
  rintro e w2 ⟨rfl, hb⟩
  (have HB := Lib.hid (below_then HB.out hb); (try have H4 := Lib.hid (below_then H4.out hb)); have SPB := Lib.hid (SPB.out.below hb); (try have XY := Lib.hid (XY.out.keep hb)); (try have XO := Lib.hid (XO.out.keep hb)); (try have XT := Lib.hid (XT.out.keep hb)); (try have XA := Lib.hid (XA.out.keep hb)); (try have XB := Lib.hid (XB.out.keep hb)); (try have XC := Lib.hid (XC.out.keep hb)); (try have XD := Lib.hid (XD.out.keep hb)); (try have XE := Lib.hid (XE.out.keep hb)); (try have XF := Lib.hid (XF.out.keep hb)); (try have XG := Lib.hid (XG.out.keep hb)); (try have XH := Lib.hid (XH.out.keep hb)); (try have HU := Lib.hid (HU.out.keep hb)))
  clear hb
  clear y0 y1 y2 y3 y4
  (have y0 := XY.out.blk.cell 0 _ rfl; have y1 := XY.out.blk.cell 1 _ rfl; have y2 := XY.out.blk.cell 2 _ rfl; have y3 := XY.out.blk.cell 3 _ rfl; have y4 := XY.out.blk.cell 4 _ rfl)
  go_wp2_with fail
  refine (T1.out _ HB.out).mono ?_
  rintro e w3 ⟨u, v, rfl, hu, hv, hb⟩
  obtain ⟨bu, cu, rfl, g1⟩ := hu.cw YSm.out.wide.1.1 YSm.out.wide.1.2
  obtain ⟨bv, cv, rfl, g2⟩ := hv.cw YSm.out.wide.2.1 YSm.out.wide.2.2
  (have HB := Lib.hid (below_then HB.out hb); (try have H4 := Lib.hid (below_then H4.out hb)); have SPB := Lib.hid (SPB.out.below hb); (try have XY := Lib.hid (XY.out.keep hb)); (try have XO := Lib.hid (XO.out.keep hb)); (try have XT := Lib.hid (XT.out.keep hb)); (try have XA := Lib.hid (XA.out.keep hb)); (try have XB := Lib.hid (XB.out.keep hb)); (try have XC := Lib.hid (XC.out.keep hb)); (try have XD := Lib.hid (XD.out.keep hb)); (try have XE := Lib.hid (XE.out.keep hb)); (try have XF := Lib.hid (XF.out.keep hb)); (try have XG := Lib.hid (XG.out.keep hb)); (try have XH := Lib.hid (XH.out.keep hb)); (try have HU := Lib.hid (HU.out.keep hb)))
  have GW1 := Lib.hid g1
  have GW2 := Lib.hid g2
  clear hb hu hv g1 g2
  clear y0 y1 y2 y3 y4
  go_upto_region 4 with fail
  obtain ⟨w4, hw4⟩ : ∃ wb, wb = w3.alloc (.cells #[.int .i64 y.d.x, .int .i64 y.d.y, .int .i64 y.d.z, (.slice bu y.ns.length cu), (.slice bv y.ls.length cv)] 42) := ⟨_, rfl⟩
  rw [← hw4]
  have hb2 : Below w3.heap.size w3 w4 := by rw [hw4]; (repeat (first | (with_reducible exact Below.refl _ _) | (with_reducible assumption) | (with_reducible refine below_alloc ?_ _) | (with_reducible refine below_drewN ?_ _) | (with_reducible refine Below.drew ?_) | (with_reducible refine below_then ?_ (by with_reducible assumption)) | (with_reducible refine Below.setCell ?_ (by go_size) _)))
  (have HB := Lib.hid (below_then HB.out hb2); (try have H4 := Lib.hid (below_then H4.out hb2)); have SPB := Lib.hid (SPB.out.below hb2); (try have XY := Lib.hid (XY.out.keep hb2)); (try have XO := Lib.hid (XO.out.keep hb2)); (try have XT := Lib.hid (XT.out.keep hb2)); (try have XA := Lib.hid (XA.out.keep hb2)); (try have XB := Lib.hid (XB.out.keep hb2)); (try have XC := Lib.hid (XC.out.keep hb2)); (try have XD := Lib.hid (XD.out.keep hb2)); (try have XE := Lib.hid (XE.out.keep hb2)); (try have XF := Lib.hid (XF.out.keep hb2)); (try have XG := Lib.hid (XG.out.keep hb2)); (try have XH := Lib.hid (XH.out.keep hb2)); (try have HU := Lib.hid (HU.out.keep hb2)))
  have XT := Lib.hid (show PBox w4 w3.heap.size bu bv cu cv y from ⟨by rw [hw4]; exact Blk.new .., GW1.out.keep hb2, GW2.out.keep hb2⟩)
  clear hb2 hw4 GW1 GW2
  have TY := XY
  have TO := XO
  have TT := XT
  have TB := HB
  have H4 := Lib.hid (Below.refl w4.heap.size w4)
  (have y0 := XT.out.blk.cell 0 _ rfl; have y1 := XT.out.blk.cell 1 _ rfl; have y2 := XT.out.blk.cell 2 _ rfl; have y3 := XT.out.blk.cell 3 _ rfl; have y4 := XT.out.blk.cell 4 _ rfl)
  (have s0 := SPB.out.cell 0 _ rfl; have s1 := SPB.out.cell 1 _ rfl)
  go_wp2_with fail
  refine (P1.out _ _ _ _ (XT.out.ys YSm.out) (SM.out.keep HB.out) (SK.out.keep HB.out)).mono ?_
  clear y0 y1 y2 y3 y4
  clear s0 s1
  (rintro e wa ⟨an, al, can, cal, rfl, hu, g1, g2, hb⟩; (have HB := Lib.hid (below_then HB.out hb); (try have H4 := Lib.hid (below_then H4.out hb)); have SPB := Lib.hid (SPB.out.below hb); (try have XY := Lib.hid (XY.out.keep hb)); (try have XO := Lib.hid (XO.out.keep hb)); (try have XT := Lib.hid (XT.out.keep hb)); (try have XA := Lib.hid (XA.out.keep hb)); (try have XB := Lib.hid (XB.out.keep hb)); (try have XC := Lib.hid (XC.out.keep hb)); (try have XD := Lib.hid (XD.out.keep hb)); (try have XE := Lib.hid (XE.out.keep hb)); (try have XF := Lib.hid (XF.out.keep hb)); (try have XG := Lib.hid (XG.out.keep hb)); (try have XH := Lib.hid (XH.out.keep hb)); (try have HU := Lib.hid (HU.out.keep hb))); have GW1 := Lib.hid g1; have GW2 := Lib.hid g2; have HUx := Lib.hid hu; clear hb g1 g2 hu; go_upto_region 5 with fail; obtain ⟨wb, hwb⟩ : ∃ wb, wb = wa.alloc (.cells #[.int .i64 p1.d.x, .int .i64 p1.d.y, .int .i64 p1.d.z, (.slice an p1.ns.length can), (.slice al p1.ls.length cal)] 42) := ⟨_, rfl⟩; rw [← hwb]; have hb2 : Below wa.heap.size wa wb := (by rw [hwb]; (repeat (first | (with_reducible exact Below.refl _ _) | (with_reducible assumption) | (with_reducible refine below_alloc ?_ _) | (with_reducible refine below_drewN ?_ _) | (with_reducible refine Below.drew ?_) | (with_reducible refine below_then ?_ (by with_reducible assumption)) | (with_reducible refine Below.setCell ?_ (by go_size) _)))); (have HB := Lib.hid (below_then HB.out hb2); (try have H4 := Lib.hid (below_then H4.out hb2)); have SPB := Lib.hid (SPB.out.below hb2); (try have XY := Lib.hid (XY.out.keep hb2)); (try have XO := Lib.hid (XO.out.keep hb2)); (try have XT := Lib.hid (XT.out.keep hb2)); (try have XA := Lib.hid (XA.out.keep hb2)); (try have XB := Lib.hid (XB.out.keep hb2)); (try have XC := Lib.hid (XC.out.keep hb2)); (try have XD := Lib.hid (XD.out.keep hb2)); (try have XE := Lib.hid (XE.out.keep hb2)); (try have XF := Lib.hid (XF.out.keep hb2)); (try have XG := Lib.hid (XG.out.keep hb2)); (try have XH := Lib.hid (XH.out.keep hb2)); (try have HU := Lib.hid (HU.out.keep hb2))); have XA := Lib.hid (show PBox wb wa.heap.size an al can cal p1 from ⟨by rw [hwb]; exact Blk.new .., GW1.out.keep hb2, GW2.out.keep hb2⟩); have HUx := Lib.hid (HUx.out.keep hb2); clear hb2 hwb GW1 GW2; generalize wa.heap.size = Ba at *)
  have HU := HUx
  clear HUx
  (have y0 := XY.out.blk.cell 0 _ rfl; have y1 := XY.out.blk.cell 1 _ rfl; have y2 := XY.out.blk.cell 2 _ rfl; have y3 := XY.out.blk.cell 3 _ rfl; have y4 := XY.out.blk.cell 4 _ rfl)
  (have s0 := SPB.out.cell 0 _ rfl; have s1 := SPB.out.cell 1 _ rfl)
  go_wp2_with fail
  refine (P2.out _ _ _ _ (XY.out.ys YSm.out) (SM.out.keep HB.out) (SK.out.keep HB.out)).mono ?_
  clear y0 y1 y2 y3 y4
  clear s0 s1
  (rintro e wa ⟨rn, rl, rcn, rcl, rfl, hu, g1, g2, hb⟩; (have HB := Lib.hid (below_then HB.out hb); (try have H4 := Lib.hid (below_then H4.out hb)); have SPB := Lib.hid (SPB.out.below hb); (try have XY := Lib.hid (XY.out.keep hb)); (try have XO := Lib.hid (XO.out.keep hb)); (try have XT := Lib.hid (XT.out.keep hb)); (try have XA := Lib.hid (XA.out.keep hb)); (try have XB := Lib.hid (XB.out.keep hb)); (try have XC := Lib.hid (XC.out.keep hb)); (try have XD := Lib.hid (XD.out.keep hb)); (try have XE := Lib.hid (XE.out.keep hb)); (try have XF := Lib.hid (XF.out.keep hb)); (try have XG := Lib.hid (XG.out.keep hb)); (try have XH := Lib.hid (XH.out.keep hb)); (try have HU := Lib.hid (HU.out.keep hb))); have GW1 := Lib.hid g1; have GW2 := Lib.hid g2; have HUx := Lib.hid hu; clear hb g1 g2 hu; go_upto_region 6 with fail; obtain ⟨wb, hwb⟩ : ∃ wb, wb = wa.alloc (.cells #[.int .i64 p1.d.x, .int .i64 p1.d.y, .int .i64 p1.d.z, (.slice rn p1.ns.length rcn), (.slice rl p1.ls.length rcl)] 42) := ⟨_, rfl⟩; rw [← hwb]; have hb2 : Below wa.heap.size wa wb := (by rw [hwb]; (repeat (first | (with_reducible exact Below.refl _ _) | (with_reducible assumption) | (with_reducible refine below_alloc ?_ _) | (with_reducible refine below_drewN ?_ _) | (with_reducible refine Below.drew ?_) | (with_reducible refine below_then ?_ (by with_reducible assumption)) | (with_reducible refine Below.setCell ?_ (by go_size) _)))); (have HB := Lib.hid (below_then HB.out hb2); (try have H4 := Lib.hid (below_then H4.out hb2)); have SPB := Lib.hid (SPB.out.below hb2); (try have XY := Lib.hid (XY.out.keep hb2)); (try have XO := Lib.hid (XO.out.keep hb2)); (try have XT := Lib.hid (XT.out.keep hb2)); (try have XA := Lib.hid (XA.out.keep hb2)); (try have XB := Lib.hid (XB.out.keep hb2)); (try have XC := Lib.hid (XC.out.keep hb2)); (try have XD := Lib.hid (XD.out.keep hb2)); (try have XE := Lib.hid (XE.out.keep hb2)); (try have XF := Lib.hid (XF.out.keep hb2)); (try have XG := Lib.hid (XG.out.keep hb2)); (try have XH := Lib.hid (XH.out.keep hb2)); (try have HU := Lib.hid (HU.out.keep hb2))); have XB := Lib.hid (show PBox wb wa.heap.size rn rl rcn rcl p1 from ⟨by rw [hwb]; exact Blk.new .., GW1.out.keep hb2, GW2.out.keep hb2⟩); have HUx := Lib.hid (HUx.out.keep hb2); clear hb2 hwb GW1 GW2)
  clear HUx
  (have y0 := XT.out.blk.cell 0 _ rfl; have y1 := XT.out.blk.cell 1 _ rfl; have y2 := XT.out.blk.cell 2 _ rfl; have y3 := XT.out.blk.cell 3 _ rfl; have y4 := XT.out.blk.cell 4 _ rfl)
  go_wp2_with fail
  refine (C1.out _ _ (XT.out.ys YSm.out)).mono ?_
  clear y0 y1 y2 y3 y4
  (rintro e wa ⟨rn, rl, rcn, rcl, rfl, hu, g1, g2, hb⟩; (have HB := Lib.hid (below_then HB.out hb); (try have H4 := Lib.hid (below_then H4.out hb)); have SPB := Lib.hid (SPB.out.below hb); (try have XY := Lib.hid (XY.out.keep hb)); (try have XO := Lib.hid (XO.out.keep hb)); (try have XT := Lib.hid (XT.out.keep hb)); (try have XA := Lib.hid (XA.out.keep hb)); (try have XB := Lib.hid (XB.out.keep hb)); (try have XC := Lib.hid (XC.out.keep hb)); (try have XD := Lib.hid (XD.out.keep hb)); (try have XE := Lib.hid (XE.out.keep hb)); (try have XF := Lib.hid (XF.out.keep hb)); (try have XG := Lib.hid (XG.out.keep hb)); (try have XH := Lib.hid (XH.out.keep hb)); (try have HU := Lib.hid (HU.out.keep hb))); have GW1 := Lib.hid g1; have GW2 := Lib.hid g2; have HUx := Lib.hid hu; clear hb g1 g2 hu; go_upto_region 7 with fail; obtain ⟨wb, hwb⟩ : ∃ wb, wb = wa.alloc (.cells #[.int .i64 c1.d.x, .int .i64 c1.d.y, .int .i64 c1.d.z, (.slice rn c1.ns.length rcn), (.slice rl c1.ls.length rcl)] 42) := ⟨_, rfl⟩; rw [← hwb]; have hb2 : Below wa.heap.size wa wb := (by rw [hwb]; (repeat (first | (with_reducible exact Below.refl _ _) | (with_reducible assumption) | (with_reducible refine below_alloc ?_ _) | (with_reducible refine below_drewN ?_ _) | (with_reducible refine Below.drew ?_) | (with_reducible refine below_then ?_ (by with_reducible assumption)) | (with_reducible refine Below.setCell ?_ (by go_size) _)))); (have HB := Lib.hid (below_then HB.out hb2); (try have H4 := Lib.hid (below_then H4.out hb2)); have SPB := Lib.hid (SPB.out.below hb2); (try have XY := Lib.hid (XY.out.keep hb2)); (try have XO := Lib.hid (XO.out.keep hb2)); (try have XT := Lib.hid (XT.out.keep hb2)); (try have XA := Lib.hid (XA.out.keep hb2)); (try have XB := Lib.hid (XB.out.keep hb2)); (try have XC := Lib.hid (XC.out.keep hb2)); (try have XD := Lib.hid (XD.out.keep hb2)); (try have XE := Lib.hid (XE.out.keep hb2)); (try have XF := Lib.hid (XF.out.keep hb2)); (try have XG := Lib.hid (XG.out.keep hb2)); (try have XH := Lib.hid (XH.out.keep hb2)); (try have HU := Lib.hid (HU.out.keep hb2))); have XC := Lib.hid (show PBox wb wa.heap.size rn rl rcn rcl c1 from ⟨by rw [hwb]; exact Blk.new .., GW1.out.keep hb2, GW2.out.keep hb2⟩); have HUx := Lib.hid (HUx.out.keep hb2); clear hb2 hwb GW1 GW2)
  clear HUx
  (have y0 := XY.out.blk.cell 0 _ rfl; have y1 := XY.out.blk.cell 1 _ rfl; have y2 := XY.out.blk.cell 2 _ rfl; have y3 := XY.out.blk.cell 3 _ rfl; have y4 := XY.out.blk.cell 4 _ rfl)
  go_wp2_with fail
  refine (C2.out _ _ (XY.out.ys YSm.out)).mono ?_
  clear y0 y1 y2 y3 y4
  (rintro e wa ⟨rn, rl, rcn, rcl, rfl, hu, g1, g2, hb⟩; (have HB := Lib.hid (below_then HB.out hb); (try have H4 := Lib.hid (below_then H4.out hb)); have SPB := Lib.hid (SPB.out.below hb); (try have XY := Lib.hid (XY.out.keep hb)); (try have XO := Lib.hid (XO.out.keep hb)); (try have XT := Lib.hid (XT.out.keep hb)); (try have XA := Lib.hid (XA.out.keep hb)); (try have XB := Lib.hid (XB.out.keep hb)); (try have XC := Lib.hid (XC.out.keep hb)); (try have XD := Lib.hid (XD.out.keep hb)); (try have XE := Lib.hid (XE.out.keep hb)); (try have XF := Lib.hid (XF.out.keep hb)); (try have XG := Lib.hid (XG.out.keep hb)); (try have XH := Lib.hid (XH.out.keep hb)); (try have HU := Lib.hid (HU.out.keep hb))); have GW1 := Lib.hid g1; have GW2 := Lib.hid g2; have HUx := Lib.hid hu; clear hb g1 g2 hu; go_upto_region 8 with fail; obtain ⟨wb, hwb⟩ : ∃ wb, wb = wa.alloc (.cells #[.int .i64 c1.d.x, .int .i64 c1.d.y, .int .i64 c1.d.z, (.slice rn c1.ns.length rcn), (.slice rl c1.ls.length rcl)] 42) := ⟨_, rfl⟩; rw [← hwb]; have hb2 : Below wa.heap.size wa wb := (by rw [hwb]; (repeat (first | (with_reducible exact Below.refl _ _) | (with_reducible assumption) | (with_reducible refine below_alloc ?_ _) | (with_reducible refine below_drewN ?_ _) | (with_reducible refine Below.drew ?_) | (with_reducible refine below_then ?_ (by with_reducible assumption)) | (with_reducible refine Below.setCell ?_ (by go_size) _)))); (have HB := Lib.hid (below_then HB.out hb2); (try have H4 := Lib.hid (below_then H4.out hb2)); have SPB := Lib.hid (SPB.out.below hb2); (try have XY := Lib.hid (XY.out.keep hb2)); (try have XO := Lib.hid (XO.out.keep hb2)); (try have XT := Lib.hid (XT.out.keep hb2)); (try have XA := Lib.hid (XA.out.keep hb2)); (try have XB := Lib.hid (XB.out.keep hb2)); (try have XC := Lib.hid (XC.out.keep hb2)); (try have XD := Lib.hid (XD.out.keep hb2)); (try have XE := Lib.hid (XE.out.keep hb2)); (try have XF := Lib.hid (XF.out.keep hb2)); (try have XG := Lib.hid (XG.out.keep hb2)); (try have XH := Lib.hid (XH.out.keep hb2)); (try have HU := Lib.hid (HU.out.keep hb2))); have XD := Lib.hid (show PBox wb wa.heap.size rn rl rcn rcl c1 from ⟨by rw [hwb]; exact Blk.new .., GW1.out.keep hb2, GW2.out.keep hb2⟩); have HUx := Lib.hid (HUx.out.keep hb2); clear hb2 hwb GW1 GW2)
  clear HUx
  (have y0 := XT.out.blk.cell 0 _ rfl; have y1 := XT.out.blk.cell 1 _ rfl; have y2 := XT.out.blk.cell 2 _ rfl; have y3 := XT.out.blk.cell 3 _ rfl; have y4 := XT.out.blk.cell 4 _ rfl)
  go_wp2_with fail
  refine (D1.out _ _ (XT.out.ys YSm.out)).mono ?_
  clear y0 y1 y2 y3 y4
  (rintro e wa ⟨rn, rl, rcn, rcl, rfl, hu, g1, g2, hb⟩; (have HB := Lib.hid (below_then HB.out hb); (try have H4 := Lib.hid (below_then H4.out hb)); have SPB := Lib.hid (SPB.out.below hb); (try have XY := Lib.hid (XY.out.keep hb)); (try have XO := Lib.hid (XO.out.keep hb)); (try have XT := Lib.hid (XT.out.keep hb)); (try have XA := Lib.hid (XA.out.keep hb)); (try have XB := Lib.hid (XB.out.keep hb)); (try have XC := Lib.hid (XC.out.keep hb)); (try have XD := Lib.hid (XD.out.keep hb)); (try have XE := Lib.hid (XE.out.keep hb)); (try have XF := Lib.hid (XF.out.keep hb)); (try have XG := Lib.hid (XG.out.keep hb)); (try have XH := Lib.hid (XH.out.keep hb)); (try have HU := Lib.hid (HU.out.keep hb))); have GW1 := Lib.hid g1; have GW2 := Lib.hid g2; have HUx := Lib.hid hu; clear hb g1 g2 hu; go_upto_region 9 with fail; obtain ⟨wb, hwb⟩ : ∃ wb, wb = wa.alloc (.cells #[.int .i64 c2.d.x, .int .i64 c2.d.y, .int .i64 c2.d.z, (.slice rn c2.ns.length rcn), (.slice rl c2.ls.length rcl)] 42) := ⟨_, rfl⟩; rw [← hwb]; have hb2 : Below wa.heap.size wa wb := (by rw [hwb]; (repeat (first | (with_reducible exact Below.refl _ _) | (with_reducible assumption) | (with_reducible refine below_alloc ?_ _) | (with_reducible refine below_drewN ?_ _) | (with_reducible refine Below.drew ?_) | (with_reducible refine below_then ?_ (by with_reducible assumption)) | (with_reducible refine Below.setCell ?_ (by go_size) _)))); (have HB := Lib.hid (below_then HB.out hb2); (try have H4 := Lib.hid (below_then H4.out hb2)); have SPB := Lib.hid (SPB.out.below hb2); (try have XY := Lib.hid (XY.out.keep hb2)); (try have XO := Lib.hid (XO.out.keep hb2)); (try have XT := Lib.hid (XT.out.keep hb2)); (try have XA := Lib.hid (XA.out.keep hb2)); (try have XB := Lib.hid (XB.out.keep hb2)); (try have XC := Lib.hid (XC.out.keep hb2)); (try have XD := Lib.hid (XD.out.keep hb2)); (try have XE := Lib.hid (XE.out.keep hb2)); (try have XF := Lib.hid (XF.out.keep hb2)); (try have XG := Lib.hid (XG.out.keep hb2)); (try have XH := Lib.hid (XH.out.keep hb2)); (try have HU := Lib.hid (HU.out.keep hb2))); have XE := Lib.hid (show PBox wb wa.heap.size rn rl rcn rcl c2 from ⟨by rw [hwb]; exact Blk.new .., GW1.out.keep hb2, GW2.out.keep hb2⟩); have HUx := Lib.hid (HUx.out.keep hb2); clear hb2 hwb GW1 GW2)
  clear HUx
  (have y0 := XY.out.blk.cell 0 _ rfl; have y1 := XY.out.blk.cell 1 _ rfl; have y2 := XY.out.blk.cell 2 _ rfl; have y3 := XY.out.blk.cell 3 _ rfl; have y4 := XY.out.blk.cell 4 _ rfl)
  go_wp2_with fail
  refine (D2.out _ _ (XY.out.ys YSm.out)).mono ?_
  clear y0 y1 y2 y3 y4
  (rintro e wa ⟨rn, rl, rcn, rcl, rfl, hu, g1, g2, hb⟩; (have HB := Lib.hid (below_then HB.out hb); (try have H4 := Lib.hid (below_then H4.out hb)); have SPB := Lib.hid (SPB.out.below hb); (try have XY := Lib.hid (XY.out.keep hb)); (try have XO := Lib.hid (XO.out.keep hb)); (try have XT := Lib.hid (XT.out.keep hb)); (try have XA := Lib.hid (XA.out.keep hb)); (try have XB := Lib.hid (XB.out.keep hb)); (try have XC := Lib.hid (XC.out.keep hb)); (try have XD := Lib.hid (XD.out.keep hb)); (try have XE := Lib.hid (XE.out.keep hb)); (try have XF := Lib.hid (XF.out.keep hb)); (try have XG := Lib.hid (XG.out.keep hb)); (try have XH := Lib.hid (XH.out.keep hb)); (try have HU := Lib.hid (HU.out.keep hb))); have GW1 := Lib.hid g1; have GW2 := Lib.hid g2; have HUx := Lib.hid hu; clear hb g1 g2 hu; go_upto_region 10 with fail; obtain ⟨wb, hwb⟩ : ∃ wb, wb = wa.alloc (.cells #[.int .i64 c2.d.x, .int .i64 c2.d.y, .int .i64 c2.d.z, (.slice rn c2.ns.length rcn), (.slice rl c2.ls.length rcl)] 42) := ⟨_, rfl⟩; rw [← hwb]; have hb2 : Below wa.heap.size wa wb := (by rw [hwb]; (repeat (first | (with_reducible exact Below.refl _ _) | (with_reducible assumption) | (with_reducible refine below_alloc ?_ _) | (with_reducible refine below_drewN ?_ _) | (with_reducible refine Below.drew ?_) | (with_reducible refine below_then ?_ (by with_reducible assumption)) | (with_reducible refine Below.setCell ?_ (by go_size) _)))); (have HB := Lib.hid (below_then HB.out hb2); (try have H4 := Lib.hid (below_then H4.out hb2)); have SPB := Lib.hid (SPB.out.below hb2); (try have XY := Lib.hid (XY.out.keep hb2)); (try have XO := Lib.hid (XO.out.keep hb2)); (try have XT := Lib.hid (XT.out.keep hb2)); (try have XA := Lib.hid (XA.out.keep hb2)); (try have XB := Lib.hid (XB.out.keep hb2)); (try have XC := Lib.hid (XC.out.keep hb2)); (try have XD := Lib.hid (XD.out.keep hb2)); (try have XE := Lib.hid (XE.out.keep hb2)); (try have XF := Lib.hid (XF.out.keep hb2)); (try have XG := Lib.hid (XG.out.keep hb2)); (try have XH := Lib.hid (XH.out.keep hb2)); (try have HU := Lib.hid (HU.out.keep hb2))); have XF := Lib.hid (show PBox wb wa.heap.size rn rl rcn rcl c2 from ⟨by rw [hwb]; exact Blk.new .., GW1.out.keep hb2, GW2.out.keep hb2⟩); have HUx := Lib.hid (HUx.out.keep hb2); clear hb2 hwb GW1 GW2)
  clear HUx
  (have y0 := XY.out.blk.cell 0 _ rfl; have y1 := XY.out.blk.cell 1 _ rfl; have y2 := XY.out.blk.cell 2 _ rfl; have y3 := XY.out.blk.cell 3 _ rfl; have y4 := XY.out.blk.cell 4 _ rfl)
  go_wp2_with fail
  refine (N1.out _).mono ?_
  clear y0 y1 y2 y3 y4
  (rintro e wa ⟨rn, rl, rcn, rcl, rfl, hu, g1, g2, hb⟩; (have HB := Lib.hid (below_then HB.out hb); (try have H4 := Lib.hid (below_then H4.out hb)); have SPB := Lib.hid (SPB.out.below hb); (try have XY := Lib.hid (XY.out.keep hb)); (try have XO := Lib.hid (XO.out.keep hb)); (try have XT := Lib.hid (XT.out.keep hb)); (try have XA := Lib.hid (XA.out.keep hb)); (try have XB := Lib.hid (XB.out.keep hb)); (try have XC := Lib.hid (XC.out.keep hb)); (try have XD := Lib.hid (XD.out.keep hb)); (try have XE := Lib.hid (XE.out.keep hb)); (try have XF := Lib.hid (XF.out.keep hb)); (try have XG := Lib.hid (XG.out.keep hb)); (try have XH := Lib.hid (XH.out.keep hb)); (try have HU := Lib.hid (HU.out.keep hb))); have GW1 := Lib.hid g1; have GW2 := Lib.hid g2; have HUx := Lib.hid hu; clear hb g1 g2 hu; go_upto_region 11 with fail; obtain ⟨wb, hwb⟩ : ∃ wb, wb = wa.alloc (.cells #[.int .i64 n1.d.x, .int .i64 n1.d.y, .int .i64 n1.d.z, (.slice rn n1.ns.length rcn), (.slice rl n1.ls.length rcl)] 42) := ⟨_, rfl⟩; rw [← hwb]; have hb2 : Below wa.heap.size wa wb := (by rw [hwb]; (repeat (first | (with_reducible exact Below.refl _ _) | (with_reducible assumption) | (with_reducible refine below_alloc ?_ _) | (with_reducible refine below_drewN ?_ _) | (with_reducible refine Below.drew ?_) | (with_reducible refine below_then ?_ (by with_reducible assumption)) | (with_reducible refine Below.setCell ?_ (by go_size) _)))); (have HB := Lib.hid (below_then HB.out hb2); (try have H4 := Lib.hid (below_then H4.out hb2)); have SPB := Lib.hid (SPB.out.below hb2); (try have XY := Lib.hid (XY.out.keep hb2)); (try have XO := Lib.hid (XO.out.keep hb2)); (try have XT := Lib.hid (XT.out.keep hb2)); (try have XA := Lib.hid (XA.out.keep hb2)); (try have XB := Lib.hid (XB.out.keep hb2)); (try have XC := Lib.hid (XC.out.keep hb2)); (try have XD := Lib.hid (XD.out.keep hb2)); (try have XE := Lib.hid (XE.out.keep hb2)); (try have XF := Lib.hid (XF.out.keep hb2)); (try have XG := Lib.hid (XG.out.keep hb2)); (try have XH := Lib.hid (XH.out.keep hb2)); (try have HU := Lib.hid (HU.out.keep hb2))); have XG := Lib.hid (show PBox wb wa.heap.size rn rl rcn rcl n1 from ⟨by rw [hwb]; exact Blk.new .., GW1.out.keep hb2, GW2.out.keep hb2⟩); have HUx := Lib.hid (HUx.out.keep hb2); clear hb2 hwb GW1 GW2)
  clear HUx
  (have y0 := XY.out.blk.cell 0 _ rfl; have y1 := XY.out.blk.cell 1 _ rfl; have y2 := XY.out.blk.cell 2 _ rfl; have y3 := XY.out.blk.cell 3 _ rfl; have y4 := XY.out.blk.cell 4 _ rfl)
  go_wp2_with fail
  refine (N2.out _).mono ?_
  clear y0 y1 y2 y3 y4
  (rintro e wa ⟨rn, rl, rcn, rcl, rfl, hu, g1, g2, hb⟩; (have HB := Lib.hid (below_then HB.out hb); (try have H4 := Lib.hid (below_then H4.out hb)); have SPB := Lib.hid (SPB.out.below hb); (try have XY := Lib.hid (XY.out.keep hb)); (try have XO := Lib.hid (XO.out.keep hb)); (try have XT := Lib.hid (XT.out.keep hb)); (try have XA := Lib.hid (XA.out.keep hb)); (try have XB := Lib.hid (XB.out.keep hb)); (try have XC := Lib.hid (XC.out.keep hb)); (try have XD := Lib.hid (XD.out.keep hb)); (try have XE := Lib.hid (XE.out.keep hb)); (try have XF := Lib.hid (XF.out.keep hb)); (try have XG := Lib.hid (XG.out.keep hb)); (try have XH := Lib.hid (XH.out.keep hb)); (try have HU := Lib.hid (HU.out.keep hb))); have GW1 := Lib.hid g1; have GW2 := Lib.hid g2; have HUx := Lib.hid hu; clear hb g1 g2 hu; go_upto_region 12 with fail; obtain ⟨wb, hwb⟩ : ∃ wb, wb = wa.alloc (.cells #[.int .i64 n1.d.x, .int .i64 n1.d.y, .int .i64 n1.d.z, (.slice rn n1.ns.length rcn), (.slice rl n1.ls.length rcl)] 42) := ⟨_, rfl⟩; rw [← hwb]; have hb2 : Below wa.heap.size wa wb := (by rw [hwb]; (repeat (first | (with_reducible exact Below.refl _ _) | (with_reducible assumption) | (with_reducible refine below_alloc ?_ _) | (with_reducible refine below_drewN ?_ _) | (with_reducible refine Below.drew ?_) | (with_reducible refine below_then ?_ (by with_reducible assumption)) | (with_reducible refine Below.setCell ?_ (by go_size) _)))); (have HB := Lib.hid (below_then HB.out hb2); (try have H4 := Lib.hid (below_then H4.out hb2)); have SPB := Lib.hid (SPB.out.below hb2); (try have XY := Lib.hid (XY.out.keep hb2)); (try have XO := Lib.hid (XO.out.keep hb2)); (try have XT := Lib.hid (XT.out.keep hb2)); (try have XA := Lib.hid (XA.out.keep hb2)); (try have XB := Lib.hid (XB.out.keep hb2)); (try have XC := Lib.hid (XC.out.keep hb2)); (try have XD := Lib.hid (XD.out.keep hb2)); (try have XE := Lib.hid (XE.out.keep hb2)); (try have XF := Lib.hid (XF.out.keep hb2)); (try have XG := Lib.hid (XG.out.keep hb2)); (try have XH := Lib.hid (XH.out.keep hb2)); (try have HU := Lib.hid (HU.out.keep hb2))); have XH := Lib.hid (show PBox wb wa.heap.size rn rl rcn rcl n1 from ⟨by rw [hwb]; exact Blk.new .., GW1.out.keep hb2, GW2.out.keep hb2⟩); have HUx := Lib.hid (HUx.out.keep hb2); clear hb2 hwb GW1 GW2)
  clear HUx
  ((have y0 := XA.out.blk.cell 0 _ rfl; have y1 := XA.out.blk.cell 1 _ rfl; have y2 := XA.out.blk.cell 2 _ rfl; have y3 := XA.out.blk.cell 3 _ rfl; have y4 := XA.out.blk.cell 4 _ rfl); (have z0 := XB.out.blk.cell 0 _ rfl; have z1 := XB.out.blk.cell 1 _ rfl; have z2 := XB.out.blk.cell 2 _ rfl; have z3 := XB.out.blk.cell 3 _ rfl; have z4 := XB.out.blk.cell 4 _ rfl); go_wp2_with fail; refine (Calls.rb_eq (XA.out.same XB.out) (show Value.bool _ = .bool true by rw [Yd.same_self])).mono ?_; rintro e wa ⟨rfl, hb⟩; (have HB := Lib.hid (below_then HB.out hb); (try have H4 := Lib.hid (below_then H4.out hb)); have SPB := Lib.hid (SPB.out.below hb); (try have XY := Lib.hid (XY.out.keep hb)); (try have XO := Lib.hid (XO.out.keep hb)); (try have XT := Lib.hid (XT.out.keep hb)); (try have XA := Lib.hid (XA.out.keep hb)); (try have XB := Lib.hid (XB.out.keep hb)); (try have XC := Lib.hid (XC.out.keep hb)); (try have XD := Lib.hid (XD.out.keep hb)); (try have XE := Lib.hid (XE.out.keep hb)); (try have XF := Lib.hid (XF.out.keep hb)); (try have XG := Lib.hid (XG.out.keep hb)); (try have XH := Lib.hid (XH.out.keep hb)); (try have HU := Lib.hid (HU.out.keep hb))); clear hb; clear y0 y1 y2 y3 y4; clear z0 z1 z2 z3 z4)
  ((have y0 := XC.out.blk.cell 0 _ rfl; have y1 := XC.out.blk.cell 1 _ rfl; have y2 := XC.out.blk.cell 2 _ rfl; have y3 := XC.out.blk.cell 3 _ rfl; have y4 := XC.out.blk.cell 4 _ rfl); (have z0 := XD.out.blk.cell 0 _ rfl; have z1 := XD.out.blk.cell 1 _ rfl; have z2 := XD.out.blk.cell 2 _ rfl; have z3 := XD.out.blk.cell 3 _ rfl; have z4 := XD.out.blk.cell 4 _ rfl); go_wp2_with fail; refine (Calls.rb_eq (XC.out.same XD.out) (show Value.bool _ = .bool true by rw [Yd.same_self])).mono ?_; rintro e wa ⟨rfl, hb⟩; (have HB := Lib.hid (below_then HB.out hb); (try have H4 := Lib.hid (below_then H4.out hb)); have SPB := Lib.hid (SPB.out.below hb); (try have XY := Lib.hid (XY.out.keep hb)); (try have XO := Lib.hid (XO.out.keep hb)); (try have XT := Lib.hid (XT.out.keep hb)); (try have XA := Lib.hid (XA.out.keep hb)); (try have XB := Lib.hid (XB.out.keep hb)); (try have XC := Lib.hid (XC.out.keep hb)); (try have XD := Lib.hid (XD.out.keep hb)); (try have XE := Lib.hid (XE.out.keep hb)); (try have XF := Lib.hid (XF.out.keep hb)); (try have XG := Lib.hid (XG.out.keep hb)); (try have XH := Lib.hid (XH.out.keep hb)); (try have HU := Lib.hid (HU.out.keep hb))); clear hb; clear y0 y1 y2 y3 y4; clear z0 z1 z2 z3 z4)
  ((have y0 := XE.out.blk.cell 0 _ rfl; have y1 := XE.out.blk.cell 1 _ rfl; have y2 := XE.out.blk.cell 2 _ rfl; have y3 := XE.out.blk.cell 3 _ rfl; have y4 := XE.out.blk.cell 4 _ rfl); (have z0 := XF.out.blk.cell 0 _ rfl; have z1 := XF.out.blk.cell 1 _ rfl; have z2 := XF.out.blk.cell 2 _ rfl; have z3 := XF.out.blk.cell 3 _ rfl; have z4 := XF.out.blk.cell 4 _ rfl); go_wp2_with fail; refine (Calls.rb_eq (XE.out.same XF.out) (show Value.bool _ = .bool true by rw [Yd.same_self])).mono ?_; rintro e wa ⟨rfl, hb⟩; (have HB := Lib.hid (below_then HB.out hb); (try have H4 := Lib.hid (below_then H4.out hb)); have SPB := Lib.hid (SPB.out.below hb); (try have XY := Lib.hid (XY.out.keep hb)); (try have XO := Lib.hid (XO.out.keep hb)); (try have XT := Lib.hid (XT.out.keep hb)); (try have XA := Lib.hid (XA.out.keep hb)); (try have XB := Lib.hid (XB.out.keep hb)); (try have XC := Lib.hid (XC.out.keep hb)); (try have XD := Lib.hid (XD.out.keep hb)); (try have XE := Lib.hid (XE.out.keep hb)); (try have XF := Lib.hid (XF.out.keep hb)); (try have XG := Lib.hid (XG.out.keep hb)); (try have XH := Lib.hid (XH.out.keep hb)); (try have HU := Lib.hid (HU.out.keep hb))); clear hb; clear y0 y1 y2 y3 y4; clear z0 z1 z2 z3 z4)
  ((have y0 := XG.out.blk.cell 0 _ rfl; have y1 := XG.out.blk.cell 1 _ rfl; have y2 := XG.out.blk.cell 2 _ rfl; have y3 := XG.out.blk.cell 3 _ rfl; have y4 := XG.out.blk.cell 4 _ rfl); (have z0 := XH.out.blk.cell 0 _ rfl; have z1 := XH.out.blk.cell 1 _ rfl; have z2 := XH.out.blk.cell 2 _ rfl; have z3 := XH.out.blk.cell 3 _ rfl; have z4 := XH.out.blk.cell 4 _ rfl); go_wp2_with fail; refine (Calls.rb_eq (XG.out.same XH.out) (show Value.bool _ = .bool true by rw [Yd.same_self])).mono ?_; rintro e wa ⟨rfl, hb⟩; (have HB := Lib.hid (below_then HB.out hb); (try have H4 := Lib.hid (below_then H4.out hb)); have SPB := Lib.hid (SPB.out.below hb); (try have XY := Lib.hid (XY.out.keep hb)); (try have XO := Lib.hid (XO.out.keep hb)); (try have XT := Lib.hid (XT.out.keep hb)); (try have XA := Lib.hid (XA.out.keep hb)); (try have XB := Lib.hid (XB.out.keep hb)); (try have XC := Lib.hid (XC.out.keep hb)); (try have XD := Lib.hid (XD.out.keep hb)); (try have XE := Lib.hid (XE.out.keep hb)); (try have XF := Lib.hid (XF.out.keep hb)); (try have XG := Lib.hid (XG.out.keep hb)); (try have XH := Lib.hid (XH.out.keep hb)); (try have HU := Lib.hid (HU.out.keep hb))); clear hb; clear y0 y1 y2 y3 y4; clear z0 z1 z2 z3 z4)
  have AH := Lib.hid XA.out.blk
  have AW := Lib.hid HU.out.ar
  have HPN := Lib.hid XA.out.hn.small
  have y3 := AH.out.cell 3 _ rfl
  clear XY XO XT XA XB XC XD XE XF XG XH HU SPB HB G1 G2 T1 SM SK P1 P2 C1 C2 D1 D2 N1 N2
  go_wp2_with fail
  clear y3
  go_loopw [33] (fun i wr => ∃ k : Nat, k ≤ p1.ns.length ∧ i = .int .i64 k ∧ AR wr w4.heap.size (.slice an p1.ns.length can) (p1.ns.map List.length) ∧ Blk wr Ba 42 #[.int .i64 p1.d.x, .int .i64 p1.d.y, .int .i64 p1.d.z, (.slice an p1.ns.length can), (.slice al p1.ls.length cal)] ∧ Below w4.heap.size w4 wr) (fun i _ => p1.ns.length - (intOf i).toNat)
  case atStart => exact ⟨0, Nat.zero_le _, rfl, AW.out, AH.out, H4.out⟩
  case round =>
    clear AW AH H4
    obtain ⟨k, hk, rfl, ha, hy, hbl⟩ := hrel
    have AW := Lib.hid ha
    have AH := Lib.hid hy
    have H4 := Lib.hid hbl
    clear ha hy hbl
    have y3 := AH.out.cell 3 _ rfl
    by_cases hlt : k < p1.ns.length
    · obtain ⟨c, hc⟩ : ∃ c, p1.ns[k]? = some c := ⟨_, List.getElem?_eq_getElem hlt⟩
      have HL := Lib.hid (show (p1.ns.map List.length)[k]? = some c.length by rw [List.getElem?_map, hc]; rfl)
      have hcl := HPN.out c (List.mem_of_getElem? hc)
      clear hc
      generalize c.length = n at *
      go_wp2_with fail
      clear y3
      go_loopw [34] (fun j wr => ∃ m : Nat, m ≤ n ∧ j = .int .i64 m ∧ AR wr w4.heap.size (.slice an p1.ns.length can) (p1.ns.map List.length) ∧ Blk wr Ba 42 #[.int .i64 p1.d.x, .int .i64 p1.d.y, .int .i64 p1.d.z, (.slice an p1.ns.length can), (.slice al p1.ls.length cal)] ∧ Below w4.heap.size w4 wr) (fun j _ => n - (intOf j).toNat)
      case atStart => exact ⟨0, Nat.zero_le _, rfl, AW.out, AH.out, H4.out⟩
      case round =>
        clear AW AH H4
        obtain ⟨m, hm, rfl, ha, hy, hbl⟩ := hrel
        have AW := Lib.hid ha
        have AH := Lib.hid hy
        have H4 := Lib.hid hbl
        clear ha hy hbl
        have y3 := AH.out.cell 3 _ rfl
        by_cases hltm : m < n
        · obtain ⟨g, cap2, kk, b2, e1, hcell, hkk, hgg, z, hz, hfz, hst⟩ := AW.out.step HL.out hltm
          have e2 := (Value.slice.inj e1).1
          clear e1
          subst e2
          have HS := Lib.hid hst
          clear hst
          go_wp2_with fail
          go_roundw
          case rel => exact ⟨m + 1, by omega, by go_num, (HS.out _).1, (HS.out _).2 _ _ _ AH.out (by decide), Below.setCell H4.out hkk _⟩
          case measure => (simp [intOf] <;> omega)
        · obtain rfl : m = n := by omega
          obtain ⟨g, b, cp, e2, hcell⟩ := AW.out.row HL.out
          subst e2
          go_wp2_with fail
          go_roundw
          case rel => exact ⟨k + 1, by omega, by go_num, AW.out, AH.out, H4.out⟩
          case measure => (simp [intOf] <;> omega)
    · obtain rfl : k = p1.ns.length := by omega
      have XT := Lib.hid (TT.out.keep H4.out)
      have XY := Lib.hid (TY.out.keep H4.out)
      have XO := Lib.hid (TO.out.keep H4.out)
      have HB := Lib.hid (below_then TB.out H4.out)
      (have y0 := XT.out.blk.cell 0 _ rfl; have y1 := XT.out.blk.cell 1 _ rfl; have y2 := XT.out.blk.cell 2 _ rfl; have y3 := XT.out.blk.cell 3 _ rfl; have y4 := XT.out.blk.cell 4 _ rfl)
      (have z0 := XY.out.blk.cell 0 _ rfl; have z1 := XY.out.blk.cell 1 _ rfl; have z2 := XY.out.blk.cell 2 _ rfl; have z3 := XY.out.blk.cell 3 _ rfl; have z4 := XY.out.blk.cell 4 _ rfl)
      have u0 := XO.out.blk.cell 0 _ rfl
      have u1 := XO.out.blk.cell 1 _ rfl
      have u2 := XO.out.blk.cell 2 _ rfl
      have u3 := XO.out.blk.cell 3 _ rfl
      have u4 := XO.out.blk.cell 4 _ rfl
      have I1 := Lib.hid (fun (x : Aft wr) => Calls.aft_of (x := x) (K1.out x.to _ ((XT.out.keep x.h).ys YSm.out)))
      have I2 := Lib.hid (fun (x : Aft wr) => Calls.aft_of (x := x) (K2.out x.to _ ((XY.out.keep x.h).ys YSm.out)))
      have I3 := Lib.hid (fun (x : Aft wr) => Calls.aft_of (x := x) (S1.out x.to _ _ ((XY.out.keep x.h).ys YSm.out) ((XO.out.keep x.h).ys OSm.out)))
      have I4 := Lib.hid (fun (x : Aft wr) => Calls.aft_of (x := x) (S2.out x.to _ _ ((XY.out.keep x.h).ys YSm.out) ((XO.out.keep x.h).ys OSm.out)))
      have I5 := Lib.hid (fun (x : Aft wr) => Calls.aft_of (x := x) (S3.out x.to _ _ ((XT.out.keep x.h).ys YSm.out) ((XY.out.keep x.h).ys YSm.out)))
      have b1 := XT.out.blk.lt
      have b2 := XY.out.blk.lt
      have b3 := XO.out.blk.lt
      clear XT XY XO TT TY TO TB AW AH K1 K2 S1 S2 S3
      go_wp2_with (refine wp_region_aft (by kernel_rfl) (by kernel_rfl) ?_; (repeat (any_goals (first | go_big_quiet_step (first | (with_reducible exact I1.out _) | (with_reducible exact I2.out _) | (with_reducible exact I3.out _) | (with_reducible exact I4.out _) | (with_reducible exact I5.out _)) | quiet_step (first | (with_reducible exact I1.out _) | (with_reducible exact I2.out _) | (with_reducible exact I3.out _) | (with_reducible exact I4.out _) | (with_reducible exact I5.out _)) | (refine wpQuiet_step (fun K hK => ?_); go_simp; split <;> (refine hK _ ?_; clear hK K))))); all_goals (refine wpQuiet_nil ?_; intro wq hw'; obtain ⟨x1, hx1⟩ := hw'; have hbq := x1.h; rw [← hx1] at hbq; clear hx1 x1))
      all_goals
        go_returns
        exact ⟨rfl, below_then HB.out hbq⟩
set_option maxRecDepth 100000 in set_option maxHeartbeats 4000000 in
theorem turns_great (y o : Yd) (bn bl bo bq : Option Addr) (cn cl co cq : Nat) (bm bk : Option Addr) (cm ck : Nat) (ms ks : List Nat) (ow f t tm : Int) (w : World) (gy go : Bool)
    (hG1 : ∀ W, Below w.heap.size w W → Calls Try.prog 26 #[.agg #[.int .i64 y.d.x, .int .i64 y.d.y, .int .i64 y.d.z, (.slice bn y.ns.length cn), (.slice bl y.ls.length cl)]] W (RB W (.bool gy))) (hG2 : ∀ W, Below w.heap.size w W → Calls Try.prog 26 #[.agg #[.int .i64 o.d.x, .int .i64 o.d.y, .int .i64 o.d.z, (.slice bo o.ns.length co), (.slice bq o.ls.length cq)]] W (RB W (.bool go)))
    (hc : gy = true ∨ (gy = false ∧ go = true) ∨ (gy = false ∧ go = false ∧ 100 < ms.length) ∨ (gy = false ∧ go = false ∧ ms.length ≤ 100 ∧ 100 < ks.length)) :
    Calls Try.prog 11 #[.agg #[.int .i64 y.d.x, .int .i64 y.d.y, .int .i64 y.d.z, (.slice bn y.ns.length cn), (.slice bl y.ls.length cl)], .agg #[.int .i64 o.d.x, .int .i64 o.d.y, .int .i64 o.d.z, (.slice bo o.ns.length co), (.slice bq o.ls.length cq)], .int .i64 ow, .slice bm ms.length cm, .slice bk ks.length ck, .agg #[.int .i64 f, .int .i64 t], .int .i64 tm] w (RB w (.bool true)) := by
  obtain ⟨W0, hW0⟩ : ∃ W0, W0 = (((w.alloc (.cells #[.int .i64 y.d.x, .int .i64 y.d.y, .int .i64 y.d.z, (.slice bn y.ns.length cn), (.slice bl y.ls.length cl)] 42)).alloc (.cells #[.int .i64 o.d.x, .int .i64 o.d.y, .int .i64 o.d.z, (.slice bo o.ns.length co), (.slice bq o.ls.length cq)] 42)).alloc (.cells #[.int .i64 f, .int .i64 t] 24)) := ⟨_, rfl⟩
  have hb0 : Below w.heap.size w W0 := by rw [hW0]; (repeat (first | (with_reducible exact Below.refl _ _) | (with_reducible assumption) | (with_reducible refine below_alloc ?_ _) | (with_reducible refine below_drewN ?_ _) | (with_reducible refine Below.drew ?_) | (with_reducible refine below_then ?_ (by with_reducible assumption)) | (with_reducible refine Below.setCell ?_ (by go_size) _)))
  have e1 : w.heap.size + 1 = (w.alloc (.cells #[.int .i64 y.d.x, .int .i64 y.d.y, .int .i64 y.d.z, (.slice bn y.ns.length cn), (.slice bl y.ls.length cl)] 42)).heap.size := by simp
  have BY := Lib.hid (show Blk W0 w.heap.size 42 #[.int .i64 y.d.x, .int .i64 y.d.y, .int .i64 y.d.z, (.slice bn y.ns.length cn), (.slice bl y.ls.length cl)] by rw [hW0]; exact ((Blk.new ..).alloc _).alloc _)
  have BO := Lib.hid (show Blk W0 (w.heap.size + 1) 42 #[.int .i64 o.d.x, .int .i64 o.d.y, .int .i64 o.d.z, (.slice bo o.ns.length co), (.slice bq o.ls.length cq)] by rw [hW0, e1]; exact (Blk.new ..).alloc _)
  have HB := Lib.hid hb0
  have HW := Lib.hid hW0
  have G1 := Lib.hid hG1
  have G2 := Lib.hid hG2
  clear hG1 hG2 hb0 e1 hW0
  rcases hc with rfl | ⟨rfl, rfl⟩ | ⟨rfl, rfl, h1⟩ | ⟨rfl, rfl, h1, h2⟩
  · go_enter Try.func11, Try.ntmps11
    (go_upto_region 1 with fail; rw [← HW.out]; (have y0 := BY.out.cell 0 _ rfl; have y1 := BY.out.cell 1 _ rfl; have y2 := BY.out.cell 2 _ rfl; have y3 := BY.out.cell 3 _ rfl; have y4 := BY.out.cell 4 _ rfl); go_wp2_with fail; refine (G1.out _ HB.out).mono ?_; rintro e w1 ⟨rfl, hb⟩; have HB := Lib.hid (below_then HB.out hb); have BO := Lib.hid (BO.out.below hb); clear hb; clear y0 y1 y2 y3 y4)
    go_wp2_with fail
    go_returns
    exact ⟨rfl, HB.out⟩
  · go_enter Try.func11, Try.ntmps11
    (go_upto_region 1 with fail; rw [← HW.out]; (have y0 := BY.out.cell 0 _ rfl; have y1 := BY.out.cell 1 _ rfl; have y2 := BY.out.cell 2 _ rfl; have y3 := BY.out.cell 3 _ rfl; have y4 := BY.out.cell 4 _ rfl); go_wp2_with fail; refine (G1.out _ HB.out).mono ?_; rintro e w1 ⟨rfl, hb⟩; have HB := Lib.hid (below_then HB.out hb); have BO := Lib.hid (BO.out.below hb); clear hb; clear y0 y1 y2 y3 y4)
    ((have y0 := BO.out.cell 0 _ rfl; have y1 := BO.out.cell 1 _ rfl; have y2 := BO.out.cell 2 _ rfl; have y3 := BO.out.cell 3 _ rfl; have y4 := BO.out.cell 4 _ rfl); go_wp2_with fail; refine (G2.out _ HB.out).mono ?_; rintro e w2 ⟨rfl, hb⟩; have HB := Lib.hid (below_then HB.out hb); clear hb; clear y0 y1 y2 y3 y4)
    go_wp2_with fail
    go_returns
    exact ⟨rfl, HB.out⟩
  · go_enter Try.func11, Try.ntmps11
    (go_upto_region 1 with fail; rw [← HW.out]; (have y0 := BY.out.cell 0 _ rfl; have y1 := BY.out.cell 1 _ rfl; have y2 := BY.out.cell 2 _ rfl; have y3 := BY.out.cell 3 _ rfl; have y4 := BY.out.cell 4 _ rfl); go_wp2_with fail; refine (G1.out _ HB.out).mono ?_; rintro e w1 ⟨rfl, hb⟩; have HB := Lib.hid (below_then HB.out hb); have BO := Lib.hid (BO.out.below hb); clear hb; clear y0 y1 y2 y3 y4)
    ((have y0 := BO.out.cell 0 _ rfl; have y1 := BO.out.cell 1 _ rfl; have y2 := BO.out.cell 2 _ rfl; have y3 := BO.out.cell 3 _ rfl; have y4 := BO.out.cell 4 _ rfl); go_wp2_with fail; refine (G2.out _ HB.out).mono ?_; rintro e w2 ⟨rfl, hb⟩; have HB := Lib.hid (below_then HB.out hb); clear hb; clear y0 y1 y2 y3 y4)
    go_wp2_with fail
    go_returns
    exact ⟨rfl, HB.out⟩
  · go_enter Try.func11, Try.ntmps11
    (go_upto_region 1 with fail; rw [← HW.out]; (have y0 := BY.out.cell 0 _ rfl; have y1 := BY.out.cell 1 _ rfl; have y2 := BY.out.cell 2 _ rfl; have y3 := BY.out.cell 3 _ rfl; have y4 := BY.out.cell 4 _ rfl); go_wp2_with fail; refine (G1.out _ HB.out).mono ?_; rintro e w1 ⟨rfl, hb⟩; have HB := Lib.hid (below_then HB.out hb); have BO := Lib.hid (BO.out.below hb); clear hb; clear y0 y1 y2 y3 y4)
    ((have y0 := BO.out.cell 0 _ rfl; have y1 := BO.out.cell 1 _ rfl; have y2 := BO.out.cell 2 _ rfl; have y3 := BO.out.cell 3 _ rfl; have y4 := BO.out.cell 4 _ rfl); go_wp2_with fail; refine (G2.out _ HB.out).mono ?_; rintro e w2 ⟨rfl, hb⟩; have HB := Lib.hid (below_then HB.out hb); clear hb; clear y0 y1 y2 y3 y4)
    go_wp2_with fail
    go_returns
    exact ⟨rfl, HB.out⟩
theorem law09_CalsTurns (d : V3) (bn bl : Option Addr) (cn cl : Nat) (ns ls : List (List Sl)) (d2 : V3) (bo bq : Option Addr) (co cq : Nat) (os qs : List (List Sl)) (bm bk : Option Addr) (cm ck : Nat) (ms ks : List Nat) (ow f t tm : Int) (w : World) (hn : CR w bn ns) (hl : CR w bl ls) (ho : CR w bo os) (hq : CR w bq qs)
    (hz : (ns.length * 24 ≤ reachBytes ∧ ∀ c ∈ ns, c.length * 24 ≤ reachBytes) ∧ (ls.length * 24 ≤ reachBytes ∧ ∀ c ∈ ls, c.length * 24 ≤ reachBytes))
    (hy : (os.length * 24 ≤ reachBytes ∧ ∀ c ∈ os, c.length * 24 ≤ reachBytes) ∧ (qs.length * 24 ≤ reachBytes ∧ ∀ c ∈ qs, c.length * 24 ≤ reachBytes))
    (hm : Rd w bm (wcells ms) ∧ W64 ms) (hk : Rd w bk (wcells ks) ∧ W64 ks) :
    Calls Try.prog 11 #[.agg #[.int .i64 d.x, .int .i64 d.y, .int .i64 d.z, (.slice bn ns.length cn), (.slice bl ls.length cl)], .agg #[.int .i64 d2.x, .int .i64 d2.y, .int .i64 d2.z, (.slice bo os.length co), (.slice bq qs.length cq)], .int .i64 ow, .slice bm ms.length cm, .slice bk ks.length ck, .agg #[.int .i64 f, .int .i64 t], .int .i64 tm] w (RB w (.bool true)) := by
  have hG1 := fun W (h : Below w.heap.size w W) => great_reach d bn bl cn cl ns ls W (hn.keep h) (hl.keep h) hz
  have hG2 := fun W (h : Below w.heap.size w W) => great_reach d2 bo bq co cq os qs W (ho.keep h) (hq.keep h) hy
  have big := fun gy go h1 h2 hc => turns_great ⟨d, ns, ls⟩ ⟨d2, os, qs⟩ bn bl bo bq cn cl co cq bm bk cm ck ms ks ow f t tm w gy go h1 h2 hc
  cases hg : greatB ns ls with
  | true =>
    rw [hg] at hG1
    exact big true _ hG1 hG2 (.inl rfl)
  | false =>
    rw [hg] at hG1
    cases hg2 : greatB os qs with
    | true =>
      rw [hg2] at hG2
      exact big false true hG1 hG2 (.inr (.inl ⟨rfl, rfl⟩))
    | false =>
      rw [hg2] at hG2
      have hs := great_small hg
      have hs2 := great_small hg2
      by_cases m1 : ms.length ≤ 100
      · by_cases k1 : ks.length ≤ 100
        · exact core_CalsTurns ⟨d, ns, ls⟩ ⟨d2, os, qs⟩ bn bl bo bq cn cl co cq bm bk cm ck ms ks ow f t tm w ⟨hn, hs.1.1, hs.1.2⟩ ⟨hl, hs.2.1, hs.2.2⟩ ⟨ho, hs2.1.1, hs2.1.2⟩ ⟨hq, hs2.2.1, hs2.2.2⟩ hG1 hG2 ⟨hm.1, by omega, hm.2⟩ ⟨hk.1, by omega, hk.2⟩ m1 k1
        · exact big false false hG1 hG2 (.inr (.inr (.inr ⟨rfl, rfl, m1, by omega⟩)))
      · exact big false false hG1 hG2 (.inr (.inr (.inl ⟨rfl, rfl, by omega⟩)))

set_option maxRecDepth 100000 in set_option maxHeartbeats 4000000 in
theorem lift_calsTurns (os : Os) (started : os.Started) (H : Type) (enc : TypeId × Value → H) :
    ReturnsInHanded {} Try.checked os 11 .any (Rows.calsTurnsSpec.pre6 enc Try.prog Try.f11 Rows.calsTurnsRow.domain false) (Rows.calsTurnsSpec.post enc Try.prog Try.f11 false true false false) := by
  refine returnsInHanded_of_change_sized (C := Try.checked) ownKnob0 started (by kernel_rfl) Try.func11
    (ChangeSpec.witness6 (enc := enc) (C := Try.checked) false ⟨#[], #[.agg #[.int .i64 (⟨0, 0, 0⟩ : V3).x, .int .i64 (⟨0, 0, 0⟩ : V3).y, .int .i64 (⟨0, 0, 0⟩ : V3).z, (.slice none 0 0), (.slice none 0 0)], .agg #[.int .i64 (⟨0, 0, 0⟩ : V3).x, .int .i64 (⟨0, 0, 0⟩ : V3).y, .int .i64 (⟨0, 0, 0⟩ : V3).z, (.slice none 0 0), (.slice none 0 0)], .int .i64 0, .slice none 0 0, .slice none 0 0, .agg #[.int .i64 0, .int .i64 0], .int .i64 0], []⟩ 8 (by kernel_rfl) (by kernel_rfl) (by kernel_rfl) (by kernel_rfl)) ?_
  intro W base args ds gs before hval0 hW hcnd hwt _
  have hval : ∀ (j : Nat) t v, Try.f11.params[j]? = some t → args[j]? = some v → Value.okWide Try.prog W .any base t v := hval0
  have hW' := hW
  obtain ⟨p, q, hA0, hV, rfl, hfz, hnd⟩ := hW
  have hA : DataW.TrodAll enc Try.prog W 0 (fun _ => true) true Try.f11.params.toList args.toList ds p := hA0
  rw [Try.params11] at hA hval hwt
  have hK := hA
  obtain ⟨v0, vs0, d0, ds0, p0, q0, hargs, rfl, rfl, h0, r0⟩ := trodAll_cons hA
  obtain ⟨v1, vs1, d1, ds1, p1, q1, rfl, rfl, rfl, h1, r1⟩ := trodAll_cons r0
  obtain ⟨v2, vs2, d2, ds2, p2, q2, rfl, rfl, rfl, h2, r2⟩ := trodAll_cons r1
  obtain ⟨v3, vs3, d3, ds3, p3, q3, rfl, rfl, rfl, h3, r3⟩ := trodAll_cons r2
  obtain ⟨v4, vs4, d4, ds4, p4, q4, rfl, rfl, rfl, h4, r4⟩ := trodAll_cons r3
  obtain ⟨v5, vs5, d5, ds5, p5, q5, rfl, rfl, rfl, h5, r5⟩ := trodAll_cons r4
  obtain ⟨v6, vs6, d6, ds6, p6, q6, rfl, rfl, rfl, h6, r6⟩ := trodAll_cons r5
  obtain ⟨rfl, rfl, rfl⟩ := trodAll_nil r6
  obtain rfl : args = #[v0, v1, v2, v3, v4, v5, v6] := by cases args; simp_all
  obtain ⟨d, bn, bl, ns, ls, cn, cl, rfl, hn, hl, hz⟩ := open_yard (hval 0 _ v0 rfl rfl) h0
  obtain ⟨d2, bo, bq, ox, qx, co, cq, rfl, ho, hq, hy⟩ := open_yard (hval 1 _ v1 rfl rfl) h1
  obtain ⟨ow, rfl⟩ := okWide_int Try.underlying3 (hval 2 _ v2 rfl rfl)
  obtain ⟨bm, ms, cm, rfl, hms, _⟩ := open_set (hval 3 _ v3 rfl rfl) h3
  obtain ⟨bk, ks, ck, rfl, hks, _⟩ := open_set (hval 4 _ v4 rfl rfl) h4
  obtain ⟨f, t, rfl⟩ := open_span (hval 5 _ v5 rfl rfl)
  obtain ⟨tm, rfl⟩ := okWide_int Try.underlying3 (hval 6 _ v6 rfl rfl)
  have hz' := hz reachBytes (fun k hk => by have := List.all_eq_true.1 hwt k (DataW.weights_mem_each (j := 0) rfl rfl k hk); simpa using this)
  have hy' := hy reachBytes (fun k hk => by have := List.all_eq_true.1 hwt k (DataW.weights_mem_each (j := 1) rfl rfl k hk); simpa using this)
  obtain ⟨rfl, rfl⟩ := trodVars_none hV
  clear hA0 hval0
  simp only [List.append_nil] at hW' hK
  refine (law09_CalsTurns d bn bl cn cl ns ls d2 bo bq co cq ox qx bm bk cm ck ms ks ow f t tm W hn hl ho hq hz' hy' hms hks).mono fun e W' ⟨he, bel⟩ => ?_
  subst he
  refine ⟨_, rfl, _, _, _, [], _, [], hW', trodAll_mk1 (shut_bool Try.underlying4 _), trodAll_below bel _ _ _ _ ?_ hK, rfl, bel.frame _, fun h => by cases h⟩
  intro t ht
  simp at ht <;> (rcases ht with rfl | rfl | rfl | rfl | rfl | rfl | rfl <;> exact ⟨by kernel_rfl, of_decide_eq_true (by kernel_rfl)⟩)

theorem holds_calsTurns : Rows.calsTurnsRow.holds Try.pinned (OpenSpec.ofChange Rows.calsTurnsSpec) :=
  OpenClaim.holds_of_wide 11 Try.f11 rfl rfl rfl rfl rfl rfl rfl ⟨rfl, rfl, rfl, rfl, rfl⟩ rfl rfl rfl rfl rfl (by kernel_rfl) Try.func11 (by kernel_rfl)
    (of_decide_eq_true (by kernel_rfl)) (by unfold Func.isWrapper; first | (rw [if_pos (by decide +kernel)]; kernel_rfl) | (rw [if_neg (by decide +kernel)]; exact ⟨rfl, rfl⟩))
    (fun os started H enc _ => lift_calsTurns os started H enc)

theorem CalsTurns_holds : Rows.CalsTurnsSaid := holds_calsTurns
end Go.Proofs.Ytfikgjcmnooglaa
