/- FreeLess: a place that is free of sets is so of those without some, and it is free of two just if it is of both together: the call returns true. -/
import Derived.Test.YtofoenlhbmammaaGreatQ0FreeAliveF11
import Derived.Test.YtofoenlhbmammaaGreatQ0FreeMoreF11
import Derived.Test.YtofoenlhbmammaaGreatQ0RowPlaceF11
set_option linter.unusedVariables false
set_option linter.unusedSimpArgs false
namespace Go.Proofs.YtofoenlhbmammaaGreat

section
open Go.ChangeShapes Go.WideShapes Go.ChangeAt Go.RowKit Go.Shelf

section
variable {W : World} {u v : Value} {a b : List Nat} (hu : SS W u a) (hv : SS W v b) {n : Int} (h : sChk2 n a b = 0)
include hu hv h
theorem ss_Less : Calls Tryz.prog 23 #[.int .i64 n, u, v] W (RS1 W (joinIf lessW n a b)) := by
  obtain ⟨b1, c1, rfl, h1⟩ := hu.ex
  obtain ⟨b2, c2, rfl, h2⟩ := hv.ex
  have := (show Calls Tryz.prog 23 #[.int .i64 n, .slice b1 a.length c1, .slice b2 b.length c2] W (RUE W (joinIf lessW n a b) (sChk2 n a b)) from set_Less n b1 b2 c1 c2 a b W h1 h2)
  rw [h] at this
  have hlen : (joinIf lessW n a b).length ≤ 4611686018427387904 := Nat.le_trans joinIf_len h1.len
  have hfit := joinIf_fit (n := n) lessW_fit h1.fit h2.fit
  refine this.mono ?_
  rintro e W' ⟨x, rfl, hx, hb⟩
  exact ⟨x, rfl, SS.of hx hlen hfit, hb⟩
end
def LeT (w W : World) (d : V3) (p : Pl) (u v x y : Value) (ms ks m l : List Nat) : Prop :=
  Blk W w.heap.size 23 #[.int .i64 d.x, .int .i64 d.y, .int .i64 d.z] ∧ Blk W (w.heap.size + 1) 31 #[.int .i64 p.b.b.x, .int .i64 p.b.b.y, .int .i64 p.b.b.z, .int .i64 p.b.s.x, .int .i64 p.b.s.y, .int .i64 p.b.s.z, .bool p.t0, .bool p.t1, .bool p.t2] ∧ SS W u ms ∧ SS W v ks ∧ SS W x m ∧ SS W y l ∧ Below w.heap.size w W
theorem le_keep {w W W' : World} {d : V3} {p : Pl} {u v x y : Value} {ms ks m l : List Nat} (h : LeT w W d p u v x y ms ks m l) (hb : Below W.heap.size W W') : LeT w W' d p u v x y ms ks m l :=
  ⟨h.1.below hb, h.2.1.below hb, h.2.2.1.keep hb, h.2.2.2.1.keep hb, h.2.2.2.2.1.keep hb, h.2.2.2.2.2.1.keep hb, below_then h.2.2.2.2.2.2 hb⟩
theorem le_new {w w1 : World} {d : V3} {p : Pl} {u v x y : Value} {ms ks m l : List Nat} (hu : SS w u ms) (hv : SS w v ks) (hm : SS w x m) (hl : SS w y l) (hb : Below ((w.alloc (.cells #[.int .i64 d.x, .int .i64 d.y, .int .i64 d.z] 23)).alloc (.cells #[.int .i64 p.b.b.x, .int .i64 p.b.b.y, .int .i64 p.b.b.z, .int .i64 p.b.s.x, .int .i64 p.b.s.y, .int .i64 p.b.s.z, .bool p.t0, .bool p.t1, .bool p.t2] 31)).heap.size ((w.alloc (.cells #[.int .i64 d.x, .int .i64 d.y, .int .i64 d.z] 23)).alloc (.cells #[.int .i64 p.b.b.x, .int .i64 p.b.b.y, .int .i64 p.b.b.z, .int .i64 p.b.s.x, .int .i64 p.b.s.y, .int .i64 p.b.s.z, .bool p.t0, .bool p.t1, .bool p.t2] 31)) w1) : LeT w w1 d p u v x y ms ks m l := by
  have h0 : Below w.heap.size w ((w.alloc (.cells #[.int .i64 d.x, .int .i64 d.y, .int .i64 d.z] 23)).alloc (.cells #[.int .i64 p.b.b.x, .int .i64 p.b.b.y, .int .i64 p.b.b.z, .int .i64 p.b.s.x, .int .i64 p.b.s.y, .int .i64 p.b.s.z, .bool p.t0, .bool p.t1, .bool p.t2] 31)) := by (repeat (first | (with_reducible exact Below.refl _ _) | (with_reducible assumption) | (with_reducible refine below_alloc ?_ _) | (with_reducible refine below_drewN ?_ _) | (with_reducible refine Below.drew ?_) | (with_reducible refine below_then ?_ (by with_reducible assumption)) | (with_reducible refine Below.setCell ?_ (by go_size) _)))
  have bp := (Blk.new (w.alloc (.cells #[.int .i64 d.x, .int .i64 d.y, .int .i64 d.z] 23)) 31 #[.int .i64 p.b.b.x, .int .i64 p.b.b.y, .int .i64 p.b.b.z, .int .i64 p.b.s.x, .int .i64 p.b.s.y, .int .i64 p.b.s.z, .bool p.t0, .bool p.t1, .bool p.t2]).below hb
  simp only [World.size_alloc] at bp
  exact ⟨((Blk.new w 23 #[.int .i64 d.x, .int .i64 d.y, .int .i64 d.z]).alloc (.cells #[.int .i64 p.b.b.x, .int .i64 p.b.b.y, .int .i64 p.b.b.z, .int .i64 p.b.s.x, .int .i64 p.b.s.y, .int .i64 p.b.s.z, .bool p.t0, .bool p.t1, .bool p.t2] 31)).below hb, bp, hu.keep (below_then h0 hb), hv.keep (below_then h0 hb), hm.keep (below_then h0 hb), hl.keep (below_then h0 hb), below_then h0 hb⟩
set_option maxRecDepth 100000 in set_option maxHeartbeats 4000000 in
theorem law11_FreeLess (d : V3) (p : Pl) (b1 b2 b3 b4 : Option Addr) (c1 c2 c3 c4 : Nat) (ms ks m l : List Nat) (w : World) (h1 : Rd w b1 (wcells ms) ∧ W64 ms) (h2 : Rd w b2 (wcells ks) ∧ W64 ks) (h3 : Rd w b3 (wcells m) ∧ W64 m) (h4 : Rd w b4 (wcells l) ∧ W64 l) :
    Calls Tryz.prog 7 #[.agg #[.int .i64 d.x, .int .i64 d.y, .int .i64 d.z], .agg #[.int .i64 p.b.b.x, .int .i64 p.b.b.y, .int .i64 p.b.b.z, .int .i64 p.b.s.x, .int .i64 p.b.s.y, .int .i64 p.b.s.z, .bool p.t0, .bool p.t1, .bool p.t2], .slice b1 ms.length c1, .slice b2 ks.length c2, .slice b3 m.length c3, .slice b4 l.length c4] w (RB w (.bool true)) := by
  have A1 := Lib.hid (fun W => law11_alive W)
  have hb0 : Below w.heap.size w ((w.alloc (.cells #[.int .i64 d.x, .int .i64 d.y, .int .i64 d.z] 23)).alloc (.cells #[.int .i64 p.b.b.x, .int .i64 p.b.b.y, .int .i64 p.b.b.z, .int .i64 p.b.s.x, .int .i64 p.b.s.y, .int .i64 p.b.s.z, .bool p.t0, .bool p.t1, .bool p.t2] 31)) := by (repeat (first | (with_reducible exact Below.refl _ _) | (with_reducible assumption) | (with_reducible refine below_alloc ?_ _) | (with_reducible refine below_drewN ?_ _) | (with_reducible refine Below.drew ?_) | (with_reducible refine below_then ?_ (by with_reducible assumption)) | (with_reducible refine Below.setCell ?_ (by go_size) _)))
  have HB := Lib.hid hb0
  clear hb0
  by_cases l1 : 100 < ms.length
  · have q1 : decide (100 < ms.length) = true := decide_eq_true l1
    clear h1 h2 h3 h4
    go_enter Tryz.func7, Tryz.ntmps7
    go_wp2_with fail
    refine (A1.out _).mono ?_
    rintro e w1 ⟨rfl, hb⟩
    have HB := Lib.hid (below_then HB.out hb)
    clear hb
    go_wp2_with fail
    go_returns
    exact ⟨rfl, HB.out⟩
  have q1 : decide (100 < ms.length) = false := decide_eq_false l1
  by_cases l2 : 100 < ks.length
  · have q2 : decide (100 < ks.length) = true := decide_eq_true l2
    clear h1 h2 h3 h4
    go_enter Tryz.func7, Tryz.ntmps7
    go_wp2_with fail
    refine (A1.out _).mono ?_
    rintro e w1 ⟨rfl, hb⟩
    have HB := Lib.hid (below_then HB.out hb)
    clear hb
    go_wp2_with fail
    go_returns
    exact ⟨rfl, HB.out⟩
  have q2 : decide (100 < ks.length) = false := decide_eq_false l2
  by_cases l3 : 100 < m.length
  · have q3 : decide (100 < m.length) = true := decide_eq_true l3
    clear h1 h2 h3 h4
    go_enter Tryz.func7, Tryz.ntmps7
    go_wp2_with fail
    refine (A1.out _).mono ?_
    rintro e w1 ⟨rfl, hb⟩
    have HB := Lib.hid (below_then HB.out hb)
    clear hb
    go_wp2_with fail
    go_returns
    exact ⟨rfl, HB.out⟩
  have q3 : decide (100 < m.length) = false := decide_eq_false l3
  by_cases l4 : 100 < l.length
  · have q4 : decide (100 < l.length) = true := decide_eq_true l4
    clear h1 h2 h3 h4
    go_enter Tryz.func7, Tryz.ntmps7
    go_wp2_with fail
    refine (A1.out _).mono ?_
    rintro e w1 ⟨rfl, hb⟩
    have HB := Lib.hid (below_then HB.out hb)
    clear hb
    go_wp2_with fail
    go_returns
    exact ⟨rfl, HB.out⟩
  have q4 : decide (100 < l.length) = false := decide_eq_false l4
  have SU := Lib.hid (show SS w (.slice b1 ms.length c1) ms from ⟨b1, c1, rfl, SetIn.mk h1.1 (by omega) h1.2⟩)
  have SV := Lib.hid (show SS w (.slice b2 ks.length c2) ks from ⟨b2, c2, rfl, SetIn.mk h2.1 (by omega) h2.2⟩)
  have SX := Lib.hid (show SS w (.slice b3 m.length c3) m from ⟨b3, c3, rfl, SetIn.mk h3.1 (by omega) h3.2⟩)
  have SY := Lib.hid (show SS w (.slice b4 l.length c4) l from ⟨b4, c4, rfl, SetIn.mk h4.1 (by omega) h4.2⟩)
  have FF := Lib.hid (And.intro h1.2 (And.intro h2.2 (And.intro h3.2 h4.2)))
  have D1 := Lib.hid (fun W a b (h1 : SS W a ms) (h2 : SS W b ks) => free_Holds d p a b ms ks W h1 h2)
  have D2 := Lib.hid (fun W a b (h1 : SS W a m) (h2 : SS W b l) => free_Holds d p a b m l W h1 h2)
  clear h1 h2 h3 h4
  by_cases z1 : holdE d p ms ks = 0
  · by_cases z2 : holdE d p m l = 0
    · obtain ⟨f1, f2, f3, f4⟩ := FF.out
      obtain ⟨o1, o2⟩ := hold_or z1 z2 f1 f2 f3 f4
      obtain ⟨s1, s2⟩ := hold_less z1 z2 f1 f2 f3 f4
      obtain ⟨hp, a1, a2⟩ := holdE_0 z1
      obtain ⟨_, e1, e2⟩ := holdE_0 z2
      have hd := (plChk_0 hp).1
      have hnn := V3.n_le hd
      have hxy := V3.xy_le hd
      have w1 : IntKind.i64.wrap (d.x * d.y) = d.x * d.y := IntWalk.i64_in _ (by omega)
      have w2 : IntKind.i64.wrap (d.x * d.y * d.z) = d.n := IntWalk.i64_in _ (show -9223372036854775808 ≤ d.n ∧ d.n ≤ 9223372036854775807 by omega)
      have J1 := Lib.hid (fun W a b (h1 : SS W a ms) (h2 : SS W b m) => ss_Or1 h1 h2 (sChk2_of a1 e1))
      have J2 := Lib.hid (fun W a b (h1 : SS W a ks) (h2 : SS W b l) => ss_Or1 h1 h2 (sChk2_of a2 e2))
      have J3 := Lib.hid (fun W a b (h1 : SS W a ms) (h2 : SS W b m) => ss_Less h1 h2 (sChk2_of a1 e1))
      have J4 := Lib.hid (fun W a b (h1 : SS W a ks) (h2 : SS W b l) => ss_Less h1 h2 (sChk2_of a2 e2))
      have D3 := Lib.hid (fun W a b (h1 : SS W a (joinIf orW d.n ms m)) (h2 : SS W b (joinIf orW (3 * d.n) ks l)) => free_Holds d p a b _ _ W h1 h2)
      have D4 := Lib.hid (fun W a b (h1 : SS W a (joinIf lessW d.n ms m)) (h2 : SS W b (joinIf lessW (3 * d.n) ks l)) => free_Holds d p a b _ _ W h1 h2)
      rw [show holdV d p ms ks = holdB d p ms ks from if_pos z1, z1] at D1
      rw [show holdV d p m l = holdB d p m l from if_pos z2, z2] at D2
      rw [show holdV d p (joinIf orW d.n ms m) (joinIf orW (3 * d.n) ks l) = _ from if_pos o1, o1, o2] at D3
      rw [show holdV d p (joinIf lessW d.n ms m) (joinIf lessW (3 * d.n) ks l) = _ from if_pos s1, s1] at D4
      have HL := Lib.hid s2
      generalize holdB d p (joinIf lessW d.n ms m) (joinIf lessW (3 * d.n) ks l) = x4 at *
      generalize holdB d p ms ks = x1 at *
      generalize holdB d p m l = x2 at *
      generalize joinIf orW d.n ms m = X1 at *
      generalize joinIf orW (3 * d.n) ks l = X2 at *
      generalize joinIf lessW d.n ms m = X3 at *
      generalize joinIf lessW (3 * d.n) ks l = X4 at *
      generalize d.n = n at *
      clear z1 z2 f1 f2 f3 f4 o1 o2 s1 s2 hp a1 a2 e1 e2 hd FF hxy
      go_enter Tryz.func7, Tryz.ntmps7
      go_wp2_with fail
      refine (A1.out _).mono ?_
      rintro e w1' ⟨rfl, hb⟩
      have T := Lib.hid (le_new SU.out SV.out SX.out SY.out hb)
      clear hb SU SV SX SY HB A1
      (have d0 := T.out.1.cell 0 _ rfl; have d1 := T.out.1.cell 1 _ rfl; have d2 := T.out.1.cell 2 _ rfl)
      (have p0 := T.out.2.1.cell 0 _ rfl; have p1 := T.out.2.1.cell 1 _ rfl; have p2 := T.out.2.1.cell 2 _ rfl; have p3 := T.out.2.1.cell 3 _ rfl; have p4 := T.out.2.1.cell 4 _ rfl; have p5 := T.out.2.1.cell 5 _ rfl; have p6 := T.out.2.1.cell 6 _ rfl; have p7 := T.out.2.1.cell 7 _ rfl; have p8 := T.out.2.1.cell 8 _ rfl)
      go_wp2_with fail
      refine (D1.out _ _ _ T.out.2.2.1 T.out.2.2.2.1).mono ?_
      rintro e w2' ⟨rfl, hb⟩
      (have T := Lib.hid (le_keep T.out hb))
      clear hb
      clear d0 d1 d2
      clear p0 p1 p2 p3 p4 p5 p6 p7 p8
      (have d0 := T.out.1.cell 0 _ rfl; have d1 := T.out.1.cell 1 _ rfl; have d2 := T.out.1.cell 2 _ rfl)
      (have p0 := T.out.2.1.cell 0 _ rfl; have p1 := T.out.2.1.cell 1 _ rfl; have p2 := T.out.2.1.cell 2 _ rfl; have p3 := T.out.2.1.cell 3 _ rfl; have p4 := T.out.2.1.cell 4 _ rfl; have p5 := T.out.2.1.cell 5 _ rfl; have p6 := T.out.2.1.cell 6 _ rfl; have p7 := T.out.2.1.cell 7 _ rfl; have p8 := T.out.2.1.cell 8 _ rfl)
      go_wp2_with fail
      refine (D2.out _ _ _ T.out.2.2.2.2.1 T.out.2.2.2.2.2.1).mono ?_
      rintro e w3 ⟨rfl, hb⟩
      (have T := Lib.hid (le_keep T.out hb))
      clear hb
      clear d0 d1 d2
      clear p0 p1 p2 p3 p4 p5 p6 p7 p8
      (have d0 := T.out.1.cell 0 _ rfl; have d1 := T.out.1.cell 1 _ rfl; have d2 := T.out.1.cell 2 _ rfl)
      go_wp2_with fail
      refine (J1.out _ _ _ T.out.2.2.1 T.out.2.2.2.2.1).mono ?_
      rintro e w4 ⟨x, rfl, hx, hb⟩
      (have T := Lib.hid (le_keep T.out hb))
      have Y1 := Lib.hid hx
      clear hb hx
      clear d0 d1 d2
      go_wp2_with fail
      refine (J2.out _ _ _ T.out.2.2.2.1 T.out.2.2.2.2.2.1).mono ?_
      rintro e w5 ⟨x', rfl, hx, hb⟩
      (have T := Lib.hid (le_keep T.out hb))
      have Y1 := Lib.hid (Y1.out.keep hb)
      have Y2 := Lib.hid hx
      clear hb hx
      go_wp2_with fail
      refine (J3.out _ _ _ T.out.2.2.1 T.out.2.2.2.2.1).mono ?_
      rintro e w6 ⟨x'', rfl, hx, hb⟩
      (have T := Lib.hid (le_keep T.out hb))
      have Y1 := Lib.hid (Y1.out.keep hb)
      have Y2 := Lib.hid (Y2.out.keep hb)
      have Y3 := Lib.hid hx
      clear hb hx
      go_wp2_with fail
      refine (J4.out _ _ _ T.out.2.2.2.1 T.out.2.2.2.2.2.1).mono ?_
      rintro e w7 ⟨x''', rfl, hx, hb⟩
      (have T := Lib.hid (le_keep T.out hb))
      have Y1 := Lib.hid (Y1.out.keep hb)
      have Y2 := Lib.hid (Y2.out.keep hb)
      have Y3 := Lib.hid (Y3.out.keep hb)
      have Y4 := Lib.hid hx
      clear hb hx
      (have d0 := T.out.1.cell 0 _ rfl; have d1 := T.out.1.cell 1 _ rfl; have d2 := T.out.1.cell 2 _ rfl)
      (have p0 := T.out.2.1.cell 0 _ rfl; have p1 := T.out.2.1.cell 1 _ rfl; have p2 := T.out.2.1.cell 2 _ rfl; have p3 := T.out.2.1.cell 3 _ rfl; have p4 := T.out.2.1.cell 4 _ rfl; have p5 := T.out.2.1.cell 5 _ rfl; have p6 := T.out.2.1.cell 6 _ rfl; have p7 := T.out.2.1.cell 7 _ rfl; have p8 := T.out.2.1.cell 8 _ rfl)
      go_wp2_with fail
      refine (D3.out _ _ _ Y1.out Y2.out).mono ?_
      rintro e w8 ⟨rfl, hb⟩
      (have T := Lib.hid (le_keep T.out hb))
      have Y3 := Lib.hid (Y3.out.keep hb)
      have Y4 := Lib.hid (Y4.out.keep hb)
      clear hb
      clear d0 d1 d2
      clear p0 p1 p2 p3 p4 p5 p6 p7 p8
      (have d0 := T.out.1.cell 0 _ rfl; have d1 := T.out.1.cell 1 _ rfl; have d2 := T.out.1.cell 2 _ rfl)
      (have p0 := T.out.2.1.cell 0 _ rfl; have p1 := T.out.2.1.cell 1 _ rfl; have p2 := T.out.2.1.cell 2 _ rfl; have p3 := T.out.2.1.cell 3 _ rfl; have p4 := T.out.2.1.cell 4 _ rfl; have p5 := T.out.2.1.cell 5 _ rfl; have p6 := T.out.2.1.cell 6 _ rfl; have p7 := T.out.2.1.cell 7 _ rfl; have p8 := T.out.2.1.cell 8 _ rfl)
      go_wp2_with fail
      refine (D4.out _ _ _ Y3.out Y4.out).mono ?_
      rintro e w9 ⟨rfl, hb⟩
      (have T := Lib.hid (le_keep T.out hb))
      clear hb
      clear d0 d1 d2
      clear p0 p1 p2 p3 p4 p5 p6 p7 p8
      cases x1 with
      | true =>
        have h4 := HL.out rfl
        subst h4
        cases x2 with
        | true =>
          (go_wp2_with fail; go_returns; exact ⟨rfl, T.out.2.2.2.2.2.2⟩)
        | false =>
          (go_wp2_with fail; go_returns; exact ⟨rfl, T.out.2.2.2.2.2.2⟩)
      | false =>
        cases x2 with
        | true =>
          (go_wp2_with fail; go_returns; exact ⟨rfl, T.out.2.2.2.2.2.2⟩)
        | false =>
          (go_wp2_with fail; go_returns; exact ⟨rfl, T.out.2.2.2.2.2.2⟩)
    · have hq : (holdE d p m l != 0) = true := by simpa using z2
      rw [z1] at D1
      generalize holdV d p ms ks = x1 at *
      generalize holdV d p m l = x2 at *
      generalize holdE d p m l = e2 at *
      clear z1 z2 FF
      go_enter Tryz.func7, Tryz.ntmps7
      go_wp2_with fail
      refine (A1.out _).mono ?_
      rintro e w1' ⟨rfl, hb⟩
      have T := Lib.hid (le_new SU.out SV.out SX.out SY.out hb)
      clear hb SU SV SX SY HB A1
      (have d0 := T.out.1.cell 0 _ rfl; have d1 := T.out.1.cell 1 _ rfl; have d2 := T.out.1.cell 2 _ rfl)
      (have p0 := T.out.2.1.cell 0 _ rfl; have p1 := T.out.2.1.cell 1 _ rfl; have p2 := T.out.2.1.cell 2 _ rfl; have p3 := T.out.2.1.cell 3 _ rfl; have p4 := T.out.2.1.cell 4 _ rfl; have p5 := T.out.2.1.cell 5 _ rfl; have p6 := T.out.2.1.cell 6 _ rfl; have p7 := T.out.2.1.cell 7 _ rfl; have p8 := T.out.2.1.cell 8 _ rfl)
      go_wp2_with fail
      refine (D1.out _ _ _ T.out.2.2.1 T.out.2.2.2.1).mono ?_
      rintro e w2' ⟨rfl, hb⟩
      (have T := Lib.hid (le_keep T.out hb))
      clear hb
      clear d0 d1 d2
      clear p0 p1 p2 p3 p4 p5 p6 p7 p8
      (have d0 := T.out.1.cell 0 _ rfl; have d1 := T.out.1.cell 1 _ rfl; have d2 := T.out.1.cell 2 _ rfl)
      (have p0 := T.out.2.1.cell 0 _ rfl; have p1 := T.out.2.1.cell 1 _ rfl; have p2 := T.out.2.1.cell 2 _ rfl; have p3 := T.out.2.1.cell 3 _ rfl; have p4 := T.out.2.1.cell 4 _ rfl; have p5 := T.out.2.1.cell 5 _ rfl; have p6 := T.out.2.1.cell 6 _ rfl; have p7 := T.out.2.1.cell 7 _ rfl; have p8 := T.out.2.1.cell 8 _ rfl)
      go_wp2_with fail
      refine (D2.out _ _ _ T.out.2.2.2.2.1 T.out.2.2.2.2.2.1).mono ?_
      rintro e w3 ⟨rfl, hb⟩
      (have T := Lib.hid (le_keep T.out hb))
      clear hb
      clear d0 d1 d2
      clear p0 p1 p2 p3 p4 p5 p6 p7 p8
      (go_wp2_with fail; go_returns; exact ⟨rfl, T.out.2.2.2.2.2.2⟩)
  · have hq : (holdE d p ms ks != 0) = true := by simpa using z1
    generalize holdV d p ms ks = x1 at *
    generalize holdV d p m l = x2 at *
    generalize holdE d p ms ks = e1 at *
    generalize holdE d p m l = e2 at *
    clear z1 FF
    go_enter Tryz.func7, Tryz.ntmps7
    go_wp2_with fail
    refine (A1.out _).mono ?_
    rintro e w1' ⟨rfl, hb⟩
    have T := Lib.hid (le_new SU.out SV.out SX.out SY.out hb)
    clear hb SU SV SX SY HB A1
    (have d0 := T.out.1.cell 0 _ rfl; have d1 := T.out.1.cell 1 _ rfl; have d2 := T.out.1.cell 2 _ rfl)
    (have p0 := T.out.2.1.cell 0 _ rfl; have p1 := T.out.2.1.cell 1 _ rfl; have p2 := T.out.2.1.cell 2 _ rfl; have p3 := T.out.2.1.cell 3 _ rfl; have p4 := T.out.2.1.cell 4 _ rfl; have p5 := T.out.2.1.cell 5 _ rfl; have p6 := T.out.2.1.cell 6 _ rfl; have p7 := T.out.2.1.cell 7 _ rfl; have p8 := T.out.2.1.cell 8 _ rfl)
    go_wp2_with fail
    refine (D1.out _ _ _ T.out.2.2.1 T.out.2.2.2.1).mono ?_
    rintro e w2' ⟨rfl, hb⟩
    (have T := Lib.hid (le_keep T.out hb))
    clear hb
    clear d0 d1 d2
    clear p0 p1 p2 p3 p4 p5 p6 p7 p8
    (have d0 := T.out.1.cell 0 _ rfl; have d1 := T.out.1.cell 1 _ rfl; have d2 := T.out.1.cell 2 _ rfl)
    (have p0 := T.out.2.1.cell 0 _ rfl; have p1 := T.out.2.1.cell 1 _ rfl; have p2 := T.out.2.1.cell 2 _ rfl; have p3 := T.out.2.1.cell 3 _ rfl; have p4 := T.out.2.1.cell 4 _ rfl; have p5 := T.out.2.1.cell 5 _ rfl; have p6 := T.out.2.1.cell 6 _ rfl; have p7 := T.out.2.1.cell 7 _ rfl; have p8 := T.out.2.1.cell 8 _ rfl)
    go_wp2_with fail
    refine (D2.out _ _ _ T.out.2.2.2.2.1 T.out.2.2.2.2.2.1).mono ?_
    rintro e w3 ⟨rfl, hb⟩
    (have T := Lib.hid (le_keep T.out hb))
    clear hb
    clear d0 d1 d2
    clear p0 p1 p2 p3 p4 p5 p6 p7 p8
    (go_wp2_with fail; go_returns; exact ⟨rfl, T.out.2.2.2.2.2.2⟩)

set_option maxRecDepth 100000 in set_option maxHeartbeats 4000000 in
theorem lift_freeLess (os : Os) (started : os.Started) (H : Type) (enc : TypeId × Value → H) :
    ReturnsInHanded {} Tryz.checked os 7 .any (Rows.freeLessSpec.pre6 enc Tryz.prog Tryz.f7 Rows.freeLessRow.domain false) (Rows.freeLessSpec.post enc Tryz.prog Tryz.f7 false true false false) := by
  refine returnsInHanded_of_change_sized (C := Tryz.checked) ownKnob0 started (by kernel_rfl) Tryz.func7
    (ChangeSpec.witness6 (enc := enc) (C := Tryz.checked) false ⟨#[], #[.agg #[.int .i64 0, .int .i64 0, .int .i64 0], .agg #[.int .i64 0, .int .i64 0, .int .i64 0, .int .i64 0, .int .i64 0, .int .i64 0, .bool false, .bool false, .bool false], .slice none 0 0, .slice none 0 0, .slice none 0 0, .slice none 0 0], []⟩ 8 (by kernel_rfl) (by kernel_rfl) (by kernel_rfl) (by kernel_rfl)) ?_
  intro W base args ds gs before hval0 hW hcnd hwt _
  have hval : ∀ (j : Nat) t v, Tryz.f7.params[j]? = some t → args[j]? = some v → Value.okWide Tryz.prog W .any base t v := hval0
  have hW' := hW
  obtain ⟨p, q, hA0, hV, rfl, hfz, hnd⟩ := hW
  have hA : DataW.TrodAll enc Tryz.prog W 0 (fun _ => true) true Tryz.f7.params.toList args.toList ds p := hA0
  rw [Tryz.params7] at hA hval hwt
  have hK := hA
  obtain ⟨v0, vs0, d0, ds0, p0, q0, hargs, rfl, rfl, h0, r0⟩ := trodAll_cons hA
  obtain ⟨v1, vs1, d1, ds1, p1, q1, rfl, rfl, rfl, h1, r1⟩ := trodAll_cons r0
  obtain ⟨v2, vs2, d2, ds2, p2, q2, rfl, rfl, rfl, h2, r2⟩ := trodAll_cons r1
  obtain ⟨v3, vs3, d3, ds3, p3, q3, rfl, rfl, rfl, h3, r3⟩ := trodAll_cons r2
  obtain ⟨v4, vs4, d4, ds4, p4, q4, rfl, rfl, rfl, h4, r4⟩ := trodAll_cons r3
  obtain ⟨v5, vs5, d5, ds5, p5, q5, rfl, rfl, rfl, h5, r5⟩ := trodAll_cons r4
  obtain ⟨rfl, rfl, rfl⟩ := trodAll_nil r5
  obtain rfl : args = #[v0, v1, v2, v3, v4, v5] := by cases args; simp_all
  obtain ⟨d, rfl⟩ := open_dims (hval 0 _ v0 rfl rfl)
  obtain ⟨pp, rfl⟩ := open_place (hval 1 _ v1 rfl rfl)
  obtain ⟨b1, ms, c1, rfl, ha1, _⟩ := open_set (hval 2 _ v2 rfl rfl) h2
  obtain ⟨b2, ks, c2, rfl, ha2, _⟩ := open_set (hval 3 _ v3 rfl rfl) h3
  obtain ⟨b3, m, c3, rfl, ha3, _⟩ := open_set (hval 4 _ v4 rfl rfl) h4
  obtain ⟨b4, l, c4, rfl, ha4, _⟩ := open_set (hval 5 _ v5 rfl rfl) h5
  obtain ⟨rfl, rfl⟩ := trodVars_none hV
  clear hA0 hval0
  simp only [List.append_nil] at hW' hK
  refine (law11_FreeLess d pp b1 b2 b3 b4 c1 c2 c3 c4 ms ks m l W ha1 ha2 ha3 ha4).mono fun e W' ⟨he, bel⟩ => ?_
  subst he
  refine ⟨_, rfl, _, _, _, [], _, [], hW', trodAll_mk1 (shut_bool Tryz.underlying4 _), trodAll_below bel _ _ _ _ ?_ hK, rfl, bel.frame _, fun h => by cases h⟩
  intro t ht
  simp at ht <;> (rcases ht with rfl | rfl | rfl | rfl | rfl | rfl <;> exact ⟨by kernel_rfl, of_decide_eq_true (by kernel_rfl)⟩)

theorem holds_freeLess : Rows.freeLessRow.holds Tryz.pinned (OpenSpec.ofChange Rows.freeLessSpec) :=
  OpenClaim.holds_of_wide 7 Tryz.f7 rfl rfl rfl rfl rfl rfl rfl ⟨rfl, rfl, rfl, rfl, rfl⟩ rfl rfl rfl rfl rfl (by kernel_rfl) Tryz.func7 (by kernel_rfl)
    (of_decide_eq_true (by kernel_rfl)) (by unfold Func.isWrapper; first | (rw [if_pos (by decide +kernel)]; kernel_rfl) | (rw [if_neg (by decide +kernel)]; exact ⟨rfl, rfl⟩))
    (fun os started H enc _ => lift_freeLess os started H enc)

theorem FreeLess_holds : Rows.FreeLessSaid := holds_freeLess
end
end Go.Proofs.YtofoenlhbmammaaGreat
