/- FreeSoon: at the moment that is told a place is free of what is busy, and of what is bad, as long as it is asked; at no moment ahead of it is it; and where none is told there is none: the call returns true. -/
import Derived.Test.YtofoenlhbmammaaGreatQ0FreeAliveF11
import Derived.Test.YtofoenlhbmammaaGreatQ0RowPlaceF11
import Derived.Test.YtofoenlhbmammaaGreatQ0FreeAtF11
import Derived.Test.YtofoenlhbmammaaGreatQ0RowYardF11
set_option linter.unusedVariables false
set_option linter.unusedSimpArgs false
namespace Go.Proofs.YtofoenlhbmammaaGreat

section
open Go.ChangeShapes Go.WideShapes Go.ChangeAt Go.RowKit Go.Shelf

set_option maxRecDepth 100000 in set_option maxHeartbeats 4000000 in
theorem core_FreeSoon (y : Yd) (bn bl : Option Addr) (cn cl : Nat) (p : Pl) (u v : Value) (b1 b2 : Option Addr) (c1 c2 : Nat) (ms ks : List Nat) (fr long o : Int) (w : World) (hy : YS w (.agg #[.int .i64 y.d.x, .int .i64 y.d.y, .int .i64 y.d.z, (.slice bn y.ns.length cn), (.slice bl y.ls.length cl)]) y) (eu : u = .slice b1 ms.length c1) (ev : v = .slice b2 ks.length c2) (hu : SS w u ms) (hv : SS w v ks) (l1 : ms.length ≤ 100) (l2 : ks.length ≤ 100)
    (hG : ∀ W, Below w.heap.size w W → Calls Tryz.prog 8 #[.agg #[.int .i64 y.d.x, .int .i64 y.d.y, .int .i64 y.d.z, (.slice bn y.ns.length cn), (.slice bl y.ls.length cl)]] W (RB W (.bool false))) :
    Calls Tryz.prog 5 #[.agg #[.int .i64 y.d.x, .int .i64 y.d.y, .int .i64 y.d.z, (.slice bn y.ns.length cn), (.slice bl y.ls.length cl)], .agg #[.int .i64 p.b.b.x, .int .i64 p.b.b.y, .int .i64 p.b.b.z, .int .i64 p.b.s.x, .int .i64 p.b.s.y, .int .i64 p.b.s.z, .bool p.t0, .bool p.t1, .bool p.t2], u, v, .int .i64 fr, .int .i64 long, .int .i64 o] w (RB w (.bool true)) := by
  have A1 := Lib.hid (fun W => law11_alive W)
  have G1 := Lib.hid hG
  have q1 : decide (100 < ms.length) = false := decide_eq_false (by omega)
  have q2 : decide (100 < ks.length) = false := decide_eq_false (by omega)
  have T0 := Lib.hid (fun W (hb : Below _ _ W) => at_new (p := p) hy hu hv hb)
  have S1 := Lib.hid (fun W z (h : YS W z y) a b (ha : SS W a ms) (hb : SS W b ks) => free_Soon z y p a b ms ks fr long W h ha hb)
  have AT := Lib.hid (fun x (hok : y.okB = true) (hh : holdE y.d p ms ks = 0) (h0 : 0 ≤ x) (hl : 1 ≤ long) (hm : x + long ≤ 1099511627776) W z (h : YS W z y) a b (ha : SS W a ms) (hb : SS W b ks) => law11_at z y p a b ms ks x long W h ha hb hok hh h0 hl hm)
  subst eu
  subst ev
  clear hy hu hv hG
  by_cases e0 : soonE y p ms ks fr long = 0
  · obtain ⟨hok, hh, hlg, ht, _⟩ := soonE_6 (.inl e0)
    obtain ⟨t1, t2, t3, t4, t5⟩ := soon_at e0
    have tf := (times_0 ht).1
    have AH := Lib.hid (fun x (h1 : fr ≤ x) (h2 : x < soonV y p ms ks fr long) (h3 : x + long ≤ 1099511627776) => soon_ahead (p := p) (ms := ms) (ks := ks) e0 h1 h2 h3)
    have AV := Lib.hid (AT.out _ hok hh t2 hlg t4)
    have AO := Lib.hid (fun x (h1 : 0 ≤ x) (h2 : x + long ≤ 1099511627776) => AT.out x hok hh h1 hlg h2)
    rw [t5] at AV
    rw [e0] at S1
    generalize soonV y p ms ks fr long = V at *
    clear e0 hok hh ht t5 AT
    have r1 : decide (V < fr) = false := decide_eq_false (by omega)
    go_enter Tryz.func5, Tryz.ntmps5
    go_wp2_with fail
    refine (A1.out _).mono ?_
    rintro e w1 ⟨rfl, hb⟩
    have T := Lib.hid (T0.out _ hb)
    clear hb A1 T0
    (have y0 := T.out.1.cell 0 _ rfl; have y1 := T.out.1.cell 1 _ rfl; have y2 := T.out.1.cell 2 _ rfl; have y3 := T.out.1.cell 3 _ rfl; have y4 := T.out.1.cell 4 _ rfl)
    go_wp2_with fail
    refine (G1.out _ T.out.2.2.2.2.2).mono ?_
    (rintro e w2 ⟨rfl, hb⟩; have T := Lib.hid (at_keep T.out hb); clear hb)
    clear y0 y1 y2 y3 y4
    (have y0 := T.out.1.cell 0 _ rfl; have y1 := T.out.1.cell 1 _ rfl; have y2 := T.out.1.cell 2 _ rfl; have y3 := T.out.1.cell 3 _ rfl; have y4 := T.out.1.cell 4 _ rfl)
    (have p0 := T.out.2.1.cell 0 _ rfl; have p1 := T.out.2.1.cell 1 _ rfl; have p2 := T.out.2.1.cell 2 _ rfl; have p3 := T.out.2.1.cell 3 _ rfl; have p4 := T.out.2.1.cell 4 _ rfl; have p5 := T.out.2.1.cell 5 _ rfl; have p6 := T.out.2.1.cell 6 _ rfl; have p7 := T.out.2.1.cell 7 _ rfl; have p8 := T.out.2.1.cell 8 _ rfl)
    go_wp2_with fail
    refine (S1.out _ _ T.out.2.2.1 _ _ T.out.2.2.2.1 T.out.2.2.2.2.1).mono ?_
    (rintro e w3 ⟨rfl, hb⟩; have T := Lib.hid (at_keep T.out hb); clear hb)
    clear y0 y1 y2 y3 y4
    clear p0 p1 p2 p3 p4 p5 p6 p7 p8
    (have y0 := T.out.1.cell 0 _ rfl; have y1 := T.out.1.cell 1 _ rfl; have y2 := T.out.1.cell 2 _ rfl; have y3 := T.out.1.cell 3 _ rfl; have y4 := T.out.1.cell 4 _ rfl)
    (have p0 := T.out.2.1.cell 0 _ rfl; have p1 := T.out.2.1.cell 1 _ rfl; have p2 := T.out.2.1.cell 2 _ rfl; have p3 := T.out.2.1.cell 3 _ rfl; have p4 := T.out.2.1.cell 4 _ rfl; have p5 := T.out.2.1.cell 5 _ rfl; have p6 := T.out.2.1.cell 6 _ rfl; have p7 := T.out.2.1.cell 7 _ rfl; have p8 := T.out.2.1.cell 8 _ rfl)
    go_wp2_with fail
    refine (AV.out _ _ T.out.2.2.1 _ _ T.out.2.2.2.1 T.out.2.2.2.2.1).mono ?_
    (rintro e w4 ⟨rfl, hb⟩; have T := Lib.hid (at_keep T.out hb); clear hb)
    clear y0 y1 y2 y3 y4
    clear p0 p1 p2 p3 p4 p5 p6 p7 p8
    by_cases o1 : o < fr
    · have d1 : decide (o < fr) = true := decide_eq_true o1
      (go_wp2_with fail; go_returns; exact ⟨rfl, T.out.2.2.2.2.2⟩)
    have d1 : decide (o < fr) = false := decide_eq_false o1
    by_cases o2 : 1099511627776 ≤ o
    · have d2 : decide (1099511627776 ≤ o) = true := decide_eq_true o2
      (go_wp2_with fail; go_returns; exact ⟨rfl, T.out.2.2.2.2.2⟩)
    have d2 : decide (1099511627776 ≤ o) = false := decide_eq_false o2
    by_cases o3 : 1099511627776 - o < long
    · have d3 : decide (1099511627776 - o < long) = true := decide_eq_true o3
      (go_wp2_with fail; go_returns; exact ⟨rfl, T.out.2.2.2.2.2⟩)
    have d3 : decide (1099511627776 - o < long) = false := decide_eq_false o3
    by_cases o4 : V ≤ o
    · have d4 : decide (V ≤ o) = true := decide_eq_true o4
      (go_wp2_with fail; go_returns; exact ⟨rfl, T.out.2.2.2.2.2⟩)
    have d4 : decide (V ≤ o) = false := decide_eq_false o4
    have BO := Lib.hid (AO.out o (by omega) (by omega))
    rw [AH.out o (by omega) (by omega) (by omega), Bool.false_and] at BO
    clear AO AH AV S1 G1
    (have y0 := T.out.1.cell 0 _ rfl; have y1 := T.out.1.cell 1 _ rfl; have y2 := T.out.1.cell 2 _ rfl; have y3 := T.out.1.cell 3 _ rfl; have y4 := T.out.1.cell 4 _ rfl)
    (have p0 := T.out.2.1.cell 0 _ rfl; have p1 := T.out.2.1.cell 1 _ rfl; have p2 := T.out.2.1.cell 2 _ rfl; have p3 := T.out.2.1.cell 3 _ rfl; have p4 := T.out.2.1.cell 4 _ rfl; have p5 := T.out.2.1.cell 5 _ rfl; have p6 := T.out.2.1.cell 6 _ rfl; have p7 := T.out.2.1.cell 7 _ rfl; have p8 := T.out.2.1.cell 8 _ rfl)
    go_wp2_with fail
    refine (BO.out _ _ T.out.2.2.1 _ _ T.out.2.2.2.1 T.out.2.2.2.2.1).mono ?_
    (rintro e w5 ⟨rfl, hb⟩; have T := Lib.hid (at_keep T.out hb); clear hb)
    clear y0 y1 y2 y3 y4
    clear p0 p1 p2 p3 p4 p5 p6 p7 p8
    (go_wp2_with fail; go_returns; exact ⟨rfl, T.out.2.2.2.2.2⟩)
  · have v0 := soon_none e0
    rw [v0] at S1
    by_cases e6 : soonE y p ms ks fr long = 6
    · obtain ⟨hok, hh, hlg, ht, _⟩ := soonE_6 (.inr e6)
      have tf := (times_0 ht).1
      have BO := Lib.hid (fun x (h1 : fr ≤ x) (h2 : x < 1099511627776) (h3 : x + long ≤ 1099511627776) W z (h : YS W z y) a b (ha : SS W a ms) (hb : SS W b ks) => by
        have := AT.out x hok hh (by omega) hlg h3 W z h a b ha hb
        rw [soon_never e6 h1 h2 h3] at this
        exact this)
      rw [e6] at S1
      clear e0 e6 v0 hok hh ht AT
      go_enter Tryz.func5, Tryz.ntmps5
      go_wp2_with fail
      refine (A1.out _).mono ?_
      rintro e w1 ⟨rfl, hb⟩
      have T := Lib.hid (T0.out _ hb)
      clear hb A1 T0
      (have y0 := T.out.1.cell 0 _ rfl; have y1 := T.out.1.cell 1 _ rfl; have y2 := T.out.1.cell 2 _ rfl; have y3 := T.out.1.cell 3 _ rfl; have y4 := T.out.1.cell 4 _ rfl)
      go_wp2_with fail
      refine (G1.out _ T.out.2.2.2.2.2).mono ?_
      (rintro e w2 ⟨rfl, hb⟩; have T := Lib.hid (at_keep T.out hb); clear hb)
      clear y0 y1 y2 y3 y4
      (have y0 := T.out.1.cell 0 _ rfl; have y1 := T.out.1.cell 1 _ rfl; have y2 := T.out.1.cell 2 _ rfl; have y3 := T.out.1.cell 3 _ rfl; have y4 := T.out.1.cell 4 _ rfl)
      (have p0 := T.out.2.1.cell 0 _ rfl; have p1 := T.out.2.1.cell 1 _ rfl; have p2 := T.out.2.1.cell 2 _ rfl; have p3 := T.out.2.1.cell 3 _ rfl; have p4 := T.out.2.1.cell 4 _ rfl; have p5 := T.out.2.1.cell 5 _ rfl; have p6 := T.out.2.1.cell 6 _ rfl; have p7 := T.out.2.1.cell 7 _ rfl; have p8 := T.out.2.1.cell 8 _ rfl)
      go_wp2_with fail
      refine (S1.out _ _ T.out.2.2.1 _ _ T.out.2.2.2.1 T.out.2.2.2.2.1).mono ?_
      (rintro e w3 ⟨rfl, hb⟩; have T := Lib.hid (at_keep T.out hb); clear hb)
      clear y0 y1 y2 y3 y4
      clear p0 p1 p2 p3 p4 p5 p6 p7 p8
      by_cases o1 : o < fr
      · have d1 : decide (o < fr) = true := decide_eq_true o1
        (go_wp2_with fail; go_returns; exact ⟨rfl, T.out.2.2.2.2.2⟩)
      have d1 : decide (o < fr) = false := decide_eq_false o1
      by_cases o2 : 1099511627776 ≤ o
      · have d2 : decide (1099511627776 ≤ o) = true := decide_eq_true o2
        (go_wp2_with fail; go_returns; exact ⟨rfl, T.out.2.2.2.2.2⟩)
      have d2 : decide (1099511627776 ≤ o) = false := decide_eq_false o2
      by_cases o3 : 1099511627776 - o < long
      · have d3 : decide (1099511627776 - o < long) = true := decide_eq_true o3
        (go_wp2_with fail; go_returns; exact ⟨rfl, T.out.2.2.2.2.2⟩)
      have d3 : decide (1099511627776 - o < long) = false := decide_eq_false o3
      have BO := Lib.hid (BO.out o (by omega) (by omega) (by omega))
      clear S1 G1
      (have y0 := T.out.1.cell 0 _ rfl; have y1 := T.out.1.cell 1 _ rfl; have y2 := T.out.1.cell 2 _ rfl; have y3 := T.out.1.cell 3 _ rfl; have y4 := T.out.1.cell 4 _ rfl)
      (have p0 := T.out.2.1.cell 0 _ rfl; have p1 := T.out.2.1.cell 1 _ rfl; have p2 := T.out.2.1.cell 2 _ rfl; have p3 := T.out.2.1.cell 3 _ rfl; have p4 := T.out.2.1.cell 4 _ rfl; have p5 := T.out.2.1.cell 5 _ rfl; have p6 := T.out.2.1.cell 6 _ rfl; have p7 := T.out.2.1.cell 7 _ rfl; have p8 := T.out.2.1.cell 8 _ rfl)
      go_wp2_with fail
      refine (BO.out _ _ T.out.2.2.1 _ _ T.out.2.2.2.1 T.out.2.2.2.2.1).mono ?_
      (rintro e w5 ⟨rfl, hb⟩; have T := Lib.hid (at_keep T.out hb); clear hb)
      clear y0 y1 y2 y3 y4
      clear p0 p1 p2 p3 p4 p5 p6 p7 p8
      (go_wp2_with fail; go_returns; exact ⟨rfl, T.out.2.2.2.2.2⟩)
    · have r0 : (soonE y p ms ks fr long != 0) = true := by simpa using e0
      have r6 : (soonE y p ms ks fr long != 6) = true := by simpa using e6
      generalize soonE y p ms ks fr long = E at *
      clear e0 e6 v0 AT
      go_enter Tryz.func5, Tryz.ntmps5
      go_wp2_with fail
      refine (A1.out _).mono ?_
      rintro e w1 ⟨rfl, hb⟩
      have T := Lib.hid (T0.out _ hb)
      clear hb A1 T0
      (have y0 := T.out.1.cell 0 _ rfl; have y1 := T.out.1.cell 1 _ rfl; have y2 := T.out.1.cell 2 _ rfl; have y3 := T.out.1.cell 3 _ rfl; have y4 := T.out.1.cell 4 _ rfl)
      go_wp2_with fail
      refine (G1.out _ T.out.2.2.2.2.2).mono ?_
      (rintro e w2 ⟨rfl, hb⟩; have T := Lib.hid (at_keep T.out hb); clear hb)
      clear y0 y1 y2 y3 y4
      (have y0 := T.out.1.cell 0 _ rfl; have y1 := T.out.1.cell 1 _ rfl; have y2 := T.out.1.cell 2 _ rfl; have y3 := T.out.1.cell 3 _ rfl; have y4 := T.out.1.cell 4 _ rfl)
      (have p0 := T.out.2.1.cell 0 _ rfl; have p1 := T.out.2.1.cell 1 _ rfl; have p2 := T.out.2.1.cell 2 _ rfl; have p3 := T.out.2.1.cell 3 _ rfl; have p4 := T.out.2.1.cell 4 _ rfl; have p5 := T.out.2.1.cell 5 _ rfl; have p6 := T.out.2.1.cell 6 _ rfl; have p7 := T.out.2.1.cell 7 _ rfl; have p8 := T.out.2.1.cell 8 _ rfl)
      go_wp2_with fail
      refine (S1.out _ _ T.out.2.2.1 _ _ T.out.2.2.2.1 T.out.2.2.2.2.1).mono ?_
      (rintro e w3 ⟨rfl, hb⟩; have T := Lib.hid (at_keep T.out hb); clear hb)
      clear y0 y1 y2 y3 y4
      clear p0 p1 p2 p3 p4 p5 p6 p7 p8
      (go_wp2_with fail; go_returns; exact ⟨rfl, T.out.2.2.2.2.2⟩)
set_option maxRecDepth 100000 in set_option maxHeartbeats 4000000 in
theorem law11_FreeSoon (d : V3) (bn bl : Option Addr) (cn cl : Nat) (ns ls : List (List Sl)) (p : Pl) (bu bv : Option Addr) (cu cv : Nat) (ms ks : List Nat) (fr long o : Int) (w : World) (hn : CR w bn ns) (hl : CR w bl ls)
    (hz : (ns.length * 24 ≤ reachBytes ∧ ∀ c ∈ ns, c.length * 24 ≤ reachBytes) ∧ (ls.length * 24 ≤ reachBytes ∧ ∀ c ∈ ls, c.length * 24 ≤ reachBytes)) (ha : Rd w bu (wcells ms) ∧ W64 ms) (hb : Rd w bv (wcells ks) ∧ W64 ks) :
    Calls Tryz.prog 5 #[.agg #[.int .i64 d.x, .int .i64 d.y, .int .i64 d.z, (.slice bn ns.length cn), (.slice bl ls.length cl)], .agg #[.int .i64 p.b.b.x, .int .i64 p.b.b.y, .int .i64 p.b.b.z, .int .i64 p.b.s.x, .int .i64 p.b.s.y, .int .i64 p.b.s.z, .bool p.t0, .bool p.t1, .bool p.t2], .slice bu ms.length cu, .slice bv ks.length cv, .int .i64 fr, .int .i64 long, .int .i64 o] w (RB w (.bool true)) := by
  have hG := fun W (h : Below w.heap.size w W) => great_reach d bn bl cn cl ns ls W (hn.keep h) (hl.keep h) hz
  cases hg : greatB ns ls with
  | true =>
    rw [hg] at hG
    have G1 := Lib.hid hG
    have A1 := Lib.hid (fun W => law11_alive W)
    have T0 := Lib.hid (fun W (hb : Below (((w.alloc (.cells #[.int .i64 d.x, .int .i64 d.y, .int .i64 d.z, (.slice bn ns.length cn), (.slice bl ls.length cl)] 26)).alloc (.cells #[.int .i64 p.b.b.x, .int .i64 p.b.b.y, .int .i64 p.b.b.z, .int .i64 p.b.s.x, .int .i64 p.b.s.y, .int .i64 p.b.s.z, .bool p.t0, .bool p.t1, .bool p.t2] 31)).heap.size) ((w.alloc (.cells #[.int .i64 d.x, .int .i64 d.y, .int .i64 d.z, (.slice bn ns.length cn), (.slice bl ls.length cl)] 26)).alloc (.cells #[.int .i64 p.b.b.x, .int .i64 p.b.b.y, .int .i64 p.b.b.z, .int .i64 p.b.s.x, .int .i64 p.b.s.y, .int .i64 p.b.s.z, .bool p.t0, .bool p.t1, .bool p.t2] 31)) W) => And.intro (((Blk.new w 26 #[.int .i64 d.x, .int .i64 d.y, .int .i64 d.z, (.slice bn ns.length cn), (.slice bl ls.length cl)]).alloc (.cells #[.int .i64 p.b.b.x, .int .i64 p.b.b.y, .int .i64 p.b.b.z, .int .i64 p.b.s.x, .int .i64 p.b.s.y, .int .i64 p.b.s.z, .bool p.t0, .bool p.t1, .bool p.t2] 31)).below hb) (below_then (show Below w.heap.size w ((w.alloc (.cells #[.int .i64 d.x, .int .i64 d.y, .int .i64 d.z, (.slice bn ns.length cn), (.slice bl ls.length cl)] 26)).alloc (.cells #[.int .i64 p.b.b.x, .int .i64 p.b.b.y, .int .i64 p.b.b.z, .int .i64 p.b.s.x, .int .i64 p.b.s.y, .int .i64 p.b.s.z, .bool p.t0, .bool p.t1, .bool p.t2] 31)) by (repeat (first | (with_reducible exact Below.refl _ _) | (with_reducible assumption) | (with_reducible refine below_alloc ?_ _) | (with_reducible refine below_drewN ?_ _) | (with_reducible refine Below.drew ?_) | (with_reducible refine below_then ?_ (by with_reducible assumption)) | (with_reducible refine Below.setCell ?_ (by go_size) _)))) hb))
    clear hn hl hz ha hb hG
    go_enter Tryz.func5, Tryz.ntmps5
    go_wp2_with fail
    refine (A1.out _).mono ?_
    rintro e w1 ⟨rfl, hb⟩
    have T := Lib.hid (T0.out _ hb)
    clear hb A1 T0
    have y0 := T.out.1.cell 0 _ rfl
    have y1 := T.out.1.cell 1 _ rfl
    have y2 := T.out.1.cell 2 _ rfl
    have y3 := T.out.1.cell 3 _ rfl
    have y4 := T.out.1.cell 4 _ rfl
    go_wp2_with fail
    refine (G1.out _ T.out.2).mono ?_
    rintro e w2 ⟨rfl, hb⟩
    have HB := Lib.hid (below_then T.out.2 hb)
    clear hb
    go_wp2_with fail
    go_returns
    exact ⟨rfl, HB.out⟩
  | false =>
    rw [hg] at hG
    by_cases l1 : 100 < ms.length
    · have q1 : decide (100 < ms.length) = true := decide_eq_true l1
      have G1 := Lib.hid hG
      have A1 := Lib.hid (fun W => law11_alive W)
      have T0 := Lib.hid (fun W (hb : Below (((w.alloc (.cells #[.int .i64 d.x, .int .i64 d.y, .int .i64 d.z, (.slice bn ns.length cn), (.slice bl ls.length cl)] 26)).alloc (.cells #[.int .i64 p.b.b.x, .int .i64 p.b.b.y, .int .i64 p.b.b.z, .int .i64 p.b.s.x, .int .i64 p.b.s.y, .int .i64 p.b.s.z, .bool p.t0, .bool p.t1, .bool p.t2] 31)).heap.size) ((w.alloc (.cells #[.int .i64 d.x, .int .i64 d.y, .int .i64 d.z, (.slice bn ns.length cn), (.slice bl ls.length cl)] 26)).alloc (.cells #[.int .i64 p.b.b.x, .int .i64 p.b.b.y, .int .i64 p.b.b.z, .int .i64 p.b.s.x, .int .i64 p.b.s.y, .int .i64 p.b.s.z, .bool p.t0, .bool p.t1, .bool p.t2] 31)) W) => And.intro (((Blk.new w 26 #[.int .i64 d.x, .int .i64 d.y, .int .i64 d.z, (.slice bn ns.length cn), (.slice bl ls.length cl)]).alloc (.cells #[.int .i64 p.b.b.x, .int .i64 p.b.b.y, .int .i64 p.b.b.z, .int .i64 p.b.s.x, .int .i64 p.b.s.y, .int .i64 p.b.s.z, .bool p.t0, .bool p.t1, .bool p.t2] 31)).below hb) (below_then (show Below w.heap.size w ((w.alloc (.cells #[.int .i64 d.x, .int .i64 d.y, .int .i64 d.z, (.slice bn ns.length cn), (.slice bl ls.length cl)] 26)).alloc (.cells #[.int .i64 p.b.b.x, .int .i64 p.b.b.y, .int .i64 p.b.b.z, .int .i64 p.b.s.x, .int .i64 p.b.s.y, .int .i64 p.b.s.z, .bool p.t0, .bool p.t1, .bool p.t2] 31)) by (repeat (first | (with_reducible exact Below.refl _ _) | (with_reducible assumption) | (with_reducible refine below_alloc ?_ _) | (with_reducible refine below_drewN ?_ _) | (with_reducible refine Below.drew ?_) | (with_reducible refine below_then ?_ (by with_reducible assumption)) | (with_reducible refine Below.setCell ?_ (by go_size) _)))) hb))
      clear hn hl hz ha hb hG
      go_enter Tryz.func5, Tryz.ntmps5
      go_wp2_with fail
      refine (A1.out _).mono ?_
      rintro e w1 ⟨rfl, hb⟩
      have T := Lib.hid (T0.out _ hb)
      clear hb A1 T0
      have y0 := T.out.1.cell 0 _ rfl
      have y1 := T.out.1.cell 1 _ rfl
      have y2 := T.out.1.cell 2 _ rfl
      have y3 := T.out.1.cell 3 _ rfl
      have y4 := T.out.1.cell 4 _ rfl
      go_wp2_with fail
      refine (G1.out _ T.out.2).mono ?_
      rintro e w2 ⟨rfl, hb⟩
      have HB := Lib.hid (below_then T.out.2 hb)
      clear hb
      go_wp2_with fail
      go_returns
      exact ⟨rfl, HB.out⟩
    by_cases l2 : 100 < ks.length
    · have q1 : decide (100 < ms.length) = false := decide_eq_false l1
      have q2 : decide (100 < ks.length) = true := decide_eq_true l2
      have G1 := Lib.hid hG
      have A1 := Lib.hid (fun W => law11_alive W)
      have T0 := Lib.hid (fun W (hb : Below (((w.alloc (.cells #[.int .i64 d.x, .int .i64 d.y, .int .i64 d.z, (.slice bn ns.length cn), (.slice bl ls.length cl)] 26)).alloc (.cells #[.int .i64 p.b.b.x, .int .i64 p.b.b.y, .int .i64 p.b.b.z, .int .i64 p.b.s.x, .int .i64 p.b.s.y, .int .i64 p.b.s.z, .bool p.t0, .bool p.t1, .bool p.t2] 31)).heap.size) ((w.alloc (.cells #[.int .i64 d.x, .int .i64 d.y, .int .i64 d.z, (.slice bn ns.length cn), (.slice bl ls.length cl)] 26)).alloc (.cells #[.int .i64 p.b.b.x, .int .i64 p.b.b.y, .int .i64 p.b.b.z, .int .i64 p.b.s.x, .int .i64 p.b.s.y, .int .i64 p.b.s.z, .bool p.t0, .bool p.t1, .bool p.t2] 31)) W) => And.intro (((Blk.new w 26 #[.int .i64 d.x, .int .i64 d.y, .int .i64 d.z, (.slice bn ns.length cn), (.slice bl ls.length cl)]).alloc (.cells #[.int .i64 p.b.b.x, .int .i64 p.b.b.y, .int .i64 p.b.b.z, .int .i64 p.b.s.x, .int .i64 p.b.s.y, .int .i64 p.b.s.z, .bool p.t0, .bool p.t1, .bool p.t2] 31)).below hb) (below_then (show Below w.heap.size w ((w.alloc (.cells #[.int .i64 d.x, .int .i64 d.y, .int .i64 d.z, (.slice bn ns.length cn), (.slice bl ls.length cl)] 26)).alloc (.cells #[.int .i64 p.b.b.x, .int .i64 p.b.b.y, .int .i64 p.b.b.z, .int .i64 p.b.s.x, .int .i64 p.b.s.y, .int .i64 p.b.s.z, .bool p.t0, .bool p.t1, .bool p.t2] 31)) by (repeat (first | (with_reducible exact Below.refl _ _) | (with_reducible assumption) | (with_reducible refine below_alloc ?_ _) | (with_reducible refine below_drewN ?_ _) | (with_reducible refine Below.drew ?_) | (with_reducible refine below_then ?_ (by with_reducible assumption)) | (with_reducible refine Below.setCell ?_ (by go_size) _)))) hb))
      clear hn hl hz ha hb hG
      go_enter Tryz.func5, Tryz.ntmps5
      go_wp2_with fail
      refine (A1.out _).mono ?_
      rintro e w1 ⟨rfl, hb⟩
      have T := Lib.hid (T0.out _ hb)
      clear hb A1 T0
      have y0 := T.out.1.cell 0 _ rfl
      have y1 := T.out.1.cell 1 _ rfl
      have y2 := T.out.1.cell 2 _ rfl
      have y3 := T.out.1.cell 3 _ rfl
      have y4 := T.out.1.cell 4 _ rfl
      go_wp2_with fail
      refine (G1.out _ T.out.2).mono ?_
      rintro e w2 ⟨rfl, hb⟩
      have HB := Lib.hid (below_then T.out.2 hb)
      clear hb
      go_wp2_with fail
      go_returns
      exact ⟨rfl, HB.out⟩
    have hs := great_small hg
    exact core_FreeSoon ⟨d, ns, ls⟩ bn bl cn cl p _ _ bu bv cu cv ms ks fr long o w ⟨bn, bl, cn, cl, rfl, ⟨hn, hs.1.1, hs.1.2⟩, ⟨hl, hs.2.1, hs.2.2⟩⟩ rfl rfl ⟨bu, cu, rfl, SetIn.mk ha.1 (by omega) ha.2⟩ ⟨bv, cv, rfl, SetIn.mk hb.1 (by omega) hb.2⟩ (by omega) (by omega) hG

set_option maxRecDepth 100000 in set_option maxHeartbeats 4000000 in
theorem lift_freeSoon (os : Os) (started : os.Started) (H : Type) (enc : TypeId × Value → H) :
    ReturnsInHanded {} Tryz.checked os 5 .any (Rows.freeSoonSpec.pre6 enc Tryz.prog Tryz.f5 Rows.freeSoonRow.domain false) (Rows.freeSoonSpec.post enc Tryz.prog Tryz.f5 false true false false) := by
  refine returnsInHanded_of_change_sized (C := Tryz.checked) ownKnob0 started (by kernel_rfl) Tryz.func5
    (ChangeSpec.witness6 (enc := enc) (C := Tryz.checked) false ⟨#[], #[.agg #[.int .i64 (⟨0, 0, 0⟩ : V3).x, .int .i64 (⟨0, 0, 0⟩ : V3).y, .int .i64 (⟨0, 0, 0⟩ : V3).z, (.slice none 0 0), (.slice none 0 0)], .agg #[.int .i64 0, .int .i64 0, .int .i64 0, .int .i64 0, .int .i64 0, .int .i64 0, .bool false, .bool false, .bool false], .slice none 0 0, .slice none 0 0, .int .i64 0, .int .i64 0, .int .i64 0], []⟩ 8 (by kernel_rfl) (by kernel_rfl) (by kernel_rfl) (by kernel_rfl)) ?_
  intro W base args ds gs before hval0 hW hcnd hwt _
  have hval : ∀ (j : Nat) t v, Tryz.f5.params[j]? = some t → args[j]? = some v → Value.okWide Tryz.prog W .any base t v := hval0
  have hW' := hW
  obtain ⟨p, q, hA0, hV, rfl, hfz, hnd⟩ := hW
  have hA : DataW.TrodAll enc Tryz.prog W 0 (fun _ => true) true Tryz.f5.params.toList args.toList ds p := hA0
  rw [Tryz.params5] at hA hval hwt
  have hK := hA
  obtain ⟨v0, vs0, d0, ds0, p0, q0, hargs, rfl, rfl, h0, r0⟩ := trodAll_cons hA
  obtain ⟨v1, vs1, d1, ds1, p1, q1, rfl, rfl, rfl, h1, r1⟩ := trodAll_cons r0
  obtain ⟨v2, vs2, d2, ds2, p2, q2, rfl, rfl, rfl, h2, r2⟩ := trodAll_cons r1
  obtain ⟨v3, vs3, d3, ds3, p3, q3, rfl, rfl, rfl, h3, r3⟩ := trodAll_cons r2
  obtain ⟨v4, vs4, d4, ds4, p4, q4, rfl, rfl, rfl, h4, r4⟩ := trodAll_cons r3
  obtain ⟨v5, vs5, d5, ds5, p5, q5, rfl, rfl, rfl, h5, r5⟩ := trodAll_cons r4
  obtain ⟨v6, vs6, d6, ds6, p6, q6, rfl, rfl, rfl, h6, r6⟩ := trodAll_cons r5
  obtain ⟨rfl, rfl, rfl⟩ := trodAll_nil r6
  obtain rfl : args = #[v0, v1, v2, v3, v4, v5, v6] := by cases args; simp_all
  obtain ⟨d, bn, bl, ns, ls, cn, cl, rfl, hn, hl, hz⟩ := open_yard (hval 0 _ v0 rfl rfl) h0
  obtain ⟨pp, rfl⟩ := open_place (hval 1 _ v1 rfl rfl)
  obtain ⟨bu, ms, cu, rfl, ha, _⟩ := open_set (hval 2 _ v2 rfl rfl) h2
  obtain ⟨bv, ks, cv, rfl, hb, _⟩ := open_set (hval 3 _ v3 rfl rfl) h3
  obtain ⟨fr, rfl⟩ := okWide_int Tryz.underlying3 (hval 4 _ v4 rfl rfl)
  obtain ⟨long, rfl⟩ := okWide_int Tryz.underlying3 (hval 5 _ v5 rfl rfl)
  obtain ⟨o, rfl⟩ := okWide_int Tryz.underlying3 (hval 6 _ v6 rfl rfl)
  have hz' := hz reachBytes (fun k hk => by have := List.all_eq_true.1 hwt k (DataW.weights_mem_each (j := 0) rfl rfl k hk); simpa using this)
  obtain ⟨rfl, rfl⟩ := trodVars_none hV
  clear hA0 hval0
  simp only [List.append_nil] at hW' hK
  refine (law11_FreeSoon d bn bl cn cl ns ls pp bu bv cu cv ms ks fr long o W hn hl hz' ha hb).mono fun e W' ⟨he, bel⟩ => ?_
  subst he
  refine ⟨_, rfl, _, _, _, [], _, [], hW', trodAll_mk1 (shut_bool Tryz.underlying4 _), trodAll_below bel _ _ _ _ ?_ hK, rfl, bel.frame _, fun h => by cases h⟩
  intro t ht
  simp at ht <;> (rcases ht with rfl | rfl | rfl | rfl | rfl | rfl | rfl <;> exact ⟨by kernel_rfl, of_decide_eq_true (by kernel_rfl)⟩)

theorem holds_freeSoon : Rows.freeSoonRow.holds Tryz.pinned (OpenSpec.ofChange Rows.freeSoonSpec) :=
  OpenClaim.holds_of_wide 5 Tryz.f5 rfl rfl rfl rfl rfl rfl rfl ⟨rfl, rfl, rfl, rfl, rfl⟩ rfl rfl rfl rfl rfl (by kernel_rfl) Tryz.func5 (by kernel_rfl)
    (of_decide_eq_true (by kernel_rfl)) (by unfold Func.isWrapper; first | (rw [if_pos (by decide +kernel)]; kernel_rfl) | (rw [if_neg (by decide +kernel)]; exact ⟨rfl, rfl⟩))
    (fun os started H enc _ => lift_freeSoon os started H enc)

theorem FreeSoon_holds : Rows.FreeSoonSaid := holds_freeSoon
end
end Go.Proofs.YtofoenlhbmammaaGreat
