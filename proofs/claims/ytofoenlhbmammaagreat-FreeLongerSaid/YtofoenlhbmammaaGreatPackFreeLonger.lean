/- FreeLonger: a longer job is not free sooner, one from a later moment on is not either, and with more that is bad it is not sooner: the call returns true. -/
import Derived.Test.YtofoenlhbmammaaGreatQ13F11
import Derived.Test.YtofoenlhbmammaaGreatQ0FreeAliveF11
import Derived.Test.YtofoenlhbmammaaGreatQ0RowPlaceF11
import Derived.Test.YtofoenlhbmammaaGreatQ0FreeAtF11
import Derived.Test.YtofoenlhbmammaaGreatQ0RowYardF11
import Derived.Test.YtofoenlhbmammaaGreatQ0FreeLongF11
set_option linter.unusedVariables false
set_option linter.unusedSimpArgs false
namespace Go.Proofs.YtofoenlhbmammaaGreat

section
open Go.ChangeShapes Go.WideShapes Go.ChangeAt Go.RowKit Go.Shelf

set_option maxRecDepth 100000 in set_option maxHeartbeats 4000000 in
theorem core_FreeLonger (y : Yd) (bn bl : Option Addr) (cn cl : Nat) (p : Pl) (b1 b2 b3 : Option Addr) (c1 c2 c3 : Nat) (ms ks bad : List Nat) (fr long m : Int) (w : World) (hy : YS w (.agg #[.int .i64 y.d.x, .int .i64 y.d.y, .int .i64 y.d.z, (.slice bn y.ns.length cn), (.slice bl y.ls.length cl)]) y) (hu : SS w (.slice b1 ms.length c1) ms) (hv : SS w (.slice b2 ks.length c2) ks) (hx : SS w (.slice b3 bad.length c3) bad)
    (l1 : ms.length ≤ 100) (l2 : ks.length ≤ 100) (l3 : bad.length ≤ 100) (l4 : long ≤ 1000000) (l5 : fr ≤ 1000000) (hm : 0 ≤ m ∧ m ≤ 255) (hmin : -9223372036854775808 ≤ long ∧ -9223372036854775808 ≤ fr)
    (hG : ∀ W, Below w.heap.size w W → Calls Tryz.prog 8 #[.agg #[.int .i64 y.d.x, .int .i64 y.d.y, .int .i64 y.d.z, (.slice bn y.ns.length cn), (.slice bl y.ls.length cl)]] W (RB W (.bool false))) :
    Calls Tryz.prog 6 #[.agg #[.int .i64 y.d.x, .int .i64 y.d.y, .int .i64 y.d.z, (.slice bn y.ns.length cn), (.slice bl y.ls.length cl)], .agg #[.int .i64 p.b.b.x, .int .i64 p.b.b.y, .int .i64 p.b.b.z, .int .i64 p.b.s.x, .int .i64 p.b.s.y, .int .i64 p.b.s.z, .bool p.t0, .bool p.t1, .bool p.t2], .slice b1 ms.length c1, .slice b2 ks.length c2, .slice b3 bad.length c3, .int .i64 fr, .int .i64 long, .int .u8 m] w (RB w (.bool true)) := by
  have A1 := Lib.hid (fun W => law11_alive W)
  have G1 := Lib.hid hG
  have q1 : decide (100 < ms.length) = false := decide_eq_false (by omega)
  have q2 : decide (100 < ks.length) = false := decide_eq_false (by omega)
  have q3 : decide (100 < bad.length) = false := decide_eq_false (by omega)
  have q4 : decide (1000000 < long) = false := decide_eq_false (by omega)
  have q5 : decide (1000000 < fr) = false := decide_eq_false (by omega)
  have q6 : IntKind.i64.wrap m = m := IntWalk.i64_in _ (by omega)
  have q7 : IntKind.i64.wrap (long + m) = long + m := IntWalk.i64_in _ (by omega)
  have q8 : IntKind.i64.wrap (fr + m) = fr + m := IntWalk.i64_in _ (by omega)
  obtain ⟨f1, f2⟩ : W64 ms ∧ W64 bad := by
    obtain ⟨_, _, _, h1⟩ := hu.ex
    obtain ⟨_, _, _, h2⟩ := hx.ex
    exact ⟨h1.fit, h2.fit⟩
  have HX := Lib.hid hx
  have T0 := Lib.hid (fun W (hb : Below _ _ W) => at_new (p := p) hy hu hv hb)
  have S1 := Lib.hid (fun f' l' W z (h : YS W z y) a b (ha : SS W a ms) (hb : SS W b ks) => free_Soon z y p a b ms ks f' l' W h ha hb)
  clear hy hu hv hx hG
  by_cases e0 : soonE y p ms ks fr long = 0
  · have k1 := soon_longer e0 hm.1
    have k2 := soon_later e0 l5 hm.1 hm.2
    have SA := Lib.hid (S1.out fr (long + m))
    have SB := Lib.hid (S1.out (fr + m) long)
    have SC := Lib.hid (S1.out fr long)
    rw [e0] at SC
    have OR := Lib.hid (fun h2 => soon_or (p := p) (ks := ks) (fr := fr) (long := long) e0 f1 f2 h2)
    have JS := Lib.hid (fun W a b (h1 : SS W a ms) (h2 : SS W b bad) (h : sChk2 y.ns.length ms bad = 0) => ss_Or h1 h2 h)
    have JE := Lib.hid (fun W (h1 : SS W (.slice b1 ms.length c1) ms) (h2 : SS W (.slice b3 bad.length c3) bad) => by
      obtain ⟨_, _, e1, g1⟩ := h1.ex
      obtain ⟨_, _, e2, g2⟩ := h2.ex
      cases e1
      cases e2
      exact (show Calls Tryz.prog 22 #[.int .i64 y.ns.length, .slice b1 ms.length c1, .slice b3 bad.length c3] W (RUE W _ (sChk2 y.ns.length ms bad)) from set_Or y.ns.length b1 b3 c1 c3 ms bad W g1 g2))
    have S3 := Lib.hid (fun W z (h : YS W z y) a b (ha : SS W a (joinIf orW y.ns.length ms bad)) (hb : SS W b ks) => free_Soon z y p a b _ ks fr long W h ha hb)
    generalize soonV y p ms ks fr long = V at *
    generalize soonV y p ms ks fr (long + m) = A at *
    generalize soonV y p ms ks (fr + m) long = B at *
    generalize soonE y p ms ks fr (long + m) = EA at *
    generalize soonE y p ms ks (fr + m) long = EB at *
    generalize soonE y p (joinIf orW y.ns.length ms bad) ks fr long = EC at *
    generalize soonV y p (joinIf orW y.ns.length ms bad) ks fr long = C at *
    have K1 := Lib.hid k1
    have K2 := Lib.hid k2
    clear e0 k1 k2 f1 f2 S1
    go_enter Tryz.func6, Tryz.ntmps6
    go_wp2_with fail
    refine (A1.out _).mono ?_
    rintro e w1 ⟨rfl, hb⟩
    have T := Lib.hid (T0.out _ hb)
    clear hb A1 T0
    (have y0 := T.out.1.cell 0 _ rfl; have y1 := T.out.1.cell 1 _ rfl; have y2 := T.out.1.cell 2 _ rfl; have y3 := T.out.1.cell 3 _ rfl; have y4 := T.out.1.cell 4 _ rfl)
    go_wp2_with fail
    refine (G1.out _ T.out.2.2.2.2.2).mono ?_
    (rintro e w2 ⟨rfl, hb⟩; have T := Lib.hid (at_keep T.out hb); clear hb)
    clear y0 y1 y2 y3 y4
    (have y0 := T.out.1.cell 0 _ rfl; have y1 := T.out.1.cell 1 _ rfl; have y2 := T.out.1.cell 2 _ rfl; have y3 := T.out.1.cell 3 _ rfl; have y4 := T.out.1.cell 4 _ rfl)
    (have p0 := T.out.2.1.cell 0 _ rfl; have p1 := T.out.2.1.cell 1 _ rfl; have p2 := T.out.2.1.cell 2 _ rfl; have p3 := T.out.2.1.cell 3 _ rfl; have p4 := T.out.2.1.cell 4 _ rfl; have p5 := T.out.2.1.cell 5 _ rfl; have p6 := T.out.2.1.cell 6 _ rfl; have p7 := T.out.2.1.cell 7 _ rfl; have p8 := T.out.2.1.cell 8 _ rfl)
    go_wp2_with fail
    refine (SC.out _ _ T.out.2.2.1 _ _ T.out.2.2.2.1 T.out.2.2.2.2.1).mono ?_
    (rintro e w3 ⟨rfl, hb⟩; have T := Lib.hid (at_keep T.out hb); clear hb)
    clear y0 y1 y2 y3 y4
    clear p0 p1 p2 p3 p4 p5 p6 p7 p8
    (have y0 := T.out.1.cell 0 _ rfl; have y1 := T.out.1.cell 1 _ rfl; have y2 := T.out.1.cell 2 _ rfl; have y3 := T.out.1.cell 3 _ rfl; have y4 := T.out.1.cell 4 _ rfl)
    (have p0 := T.out.2.1.cell 0 _ rfl; have p1 := T.out.2.1.cell 1 _ rfl; have p2 := T.out.2.1.cell 2 _ rfl; have p3 := T.out.2.1.cell 3 _ rfl; have p4 := T.out.2.1.cell 4 _ rfl; have p5 := T.out.2.1.cell 5 _ rfl; have p6 := T.out.2.1.cell 6 _ rfl; have p7 := T.out.2.1.cell 7 _ rfl; have p8 := T.out.2.1.cell 8 _ rfl)
    go_wp2_with fail
    refine (SA.out _ _ T.out.2.2.1 _ _ T.out.2.2.2.1 T.out.2.2.2.2.1).mono ?_
    (rintro e w4 ⟨rfl, hb⟩; have T := Lib.hid (at_keep T.out hb); clear hb)
    clear y0 y1 y2 y3 y4
    clear p0 p1 p2 p3 p4 p5 p6 p7 p8
    (have y0 := T.out.1.cell 0 _ rfl; have y1 := T.out.1.cell 1 _ rfl; have y2 := T.out.1.cell 2 _ rfl; have y3 := T.out.1.cell 3 _ rfl; have y4 := T.out.1.cell 4 _ rfl)
    (have p0 := T.out.2.1.cell 0 _ rfl; have p1 := T.out.2.1.cell 1 _ rfl; have p2 := T.out.2.1.cell 2 _ rfl; have p3 := T.out.2.1.cell 3 _ rfl; have p4 := T.out.2.1.cell 4 _ rfl; have p5 := T.out.2.1.cell 5 _ rfl; have p6 := T.out.2.1.cell 6 _ rfl; have p7 := T.out.2.1.cell 7 _ rfl; have p8 := T.out.2.1.cell 8 _ rfl)
    go_wp2_with fail
    refine (SB.out _ _ T.out.2.2.1 _ _ T.out.2.2.2.1 T.out.2.2.2.2.1).mono ?_
    (rintro e w5 ⟨rfl, hb⟩; have T := Lib.hid (at_keep T.out hb); clear hb)
    clear y0 y1 y2 y3 y4
    clear p0 p1 p2 p3 p4 p5 p6 p7 p8
    rcases K1.out.1 with a0 | a0
    · have ka := K1.out.2 a0
      have da : decide (A < V) = false := decide_eq_false (by omega)
      subst a0
      clear ka
      rcases K2.out.1 with b0 | b0
      · have kb := K2.out.2 b0
        have db : decide (B < V) = false := decide_eq_false (by omega)
        subst b0
        clear kb
        have y3 := T.out.1.cell 3 _ rfl
        clear SA SB SC G1 K1 K2
        by_cases h2 : sChk2 y.ns.length ms bad = 0
        · have O2 := Lib.hid (OR.out h2)
          have J2 := Lib.hid (fun W a b (h1 : SS W a ms) (h3 : SS W b bad) => JS.out W a b h1 h3 h2)
          clear h2 JE JS OR
          go_wp2_with fail
          refine (J2.out _ _ _ T.out.2.2.2.1 (HX.out.keep T.out.2.2.2.2.2)).mono ?_
          rintro e w6 ⟨x, rfl, hx, hb⟩
          have T := Lib.hid (at_keep T.out hb)
          have X := Lib.hid hx
          clear hb hx y3
          (have y0 := T.out.1.cell 0 _ rfl; have y1 := T.out.1.cell 1 _ rfl; have y2 := T.out.1.cell 2 _ rfl; have y3 := T.out.1.cell 3 _ rfl; have y4 := T.out.1.cell 4 _ rfl)
          (have p0 := T.out.2.1.cell 0 _ rfl; have p1 := T.out.2.1.cell 1 _ rfl; have p2 := T.out.2.1.cell 2 _ rfl; have p3 := T.out.2.1.cell 3 _ rfl; have p4 := T.out.2.1.cell 4 _ rfl; have p5 := T.out.2.1.cell 5 _ rfl; have p6 := T.out.2.1.cell 6 _ rfl; have p7 := T.out.2.1.cell 7 _ rfl; have p8 := T.out.2.1.cell 8 _ rfl)
          go_wp2_with fail
          refine (S3.out _ _ T.out.2.2.1 _ _ X.out T.out.2.2.2.2.1).mono ?_
          (rintro e w7 ⟨rfl, hb⟩; have T := Lib.hid (at_keep T.out hb); clear hb)
          clear y0 y1 y2 y3 y4
          clear p0 p1 p2 p3 p4 p5 p6 p7 p8
          rcases O2.out with c6 | ⟨c0, cV⟩
          · subst c6
            (go_wp2_with fail; go_returns; exact ⟨rfl, T.out.2.2.2.2.2⟩)
          · subst c0
            subst cV
            (go_wp2_with fail; go_returns; exact ⟨rfl, T.out.2.2.2.2.2⟩)
        · have hq : (sChk2 y.ns.length ms bad != 0) = true := by simpa using h2
          clear OR JS S3 h2
          generalize sChk2 y.ns.length ms bad = E2 at *
          go_wp2_with fail
          refine (JE.out _ T.out.2.2.2.1 (HX.out.keep T.out.2.2.2.2.2)).mono ?_
          rintro e w6 ⟨x, rfl, _, hb⟩
          have T := Lib.hid (at_keep T.out hb)
          clear hb y3
          (go_wp2_with fail; go_returns; exact ⟨rfl, T.out.2.2.2.2.2⟩)
      · subst b0
        have y3 := T.out.1.cell 3 _ rfl
        clear SA SB SC G1 K1 K2
        by_cases h2 : sChk2 y.ns.length ms bad = 0
        · have O2 := Lib.hid (OR.out h2)
          have J2 := Lib.hid (fun W a b (h1 : SS W a ms) (h3 : SS W b bad) => JS.out W a b h1 h3 h2)
          clear h2 JE JS OR
          go_wp2_with fail
          refine (J2.out _ _ _ T.out.2.2.2.1 (HX.out.keep T.out.2.2.2.2.2)).mono ?_
          rintro e w6 ⟨x, rfl, hx, hb⟩
          have T := Lib.hid (at_keep T.out hb)
          have X := Lib.hid hx
          clear hb hx y3
          (have y0 := T.out.1.cell 0 _ rfl; have y1 := T.out.1.cell 1 _ rfl; have y2 := T.out.1.cell 2 _ rfl; have y3 := T.out.1.cell 3 _ rfl; have y4 := T.out.1.cell 4 _ rfl)
          (have p0 := T.out.2.1.cell 0 _ rfl; have p1 := T.out.2.1.cell 1 _ rfl; have p2 := T.out.2.1.cell 2 _ rfl; have p3 := T.out.2.1.cell 3 _ rfl; have p4 := T.out.2.1.cell 4 _ rfl; have p5 := T.out.2.1.cell 5 _ rfl; have p6 := T.out.2.1.cell 6 _ rfl; have p7 := T.out.2.1.cell 7 _ rfl; have p8 := T.out.2.1.cell 8 _ rfl)
          go_wp2_with fail
          refine (S3.out _ _ T.out.2.2.1 _ _ X.out T.out.2.2.2.2.1).mono ?_
          (rintro e w7 ⟨rfl, hb⟩; have T := Lib.hid (at_keep T.out hb); clear hb)
          clear y0 y1 y2 y3 y4
          clear p0 p1 p2 p3 p4 p5 p6 p7 p8
          rcases O2.out with c6 | ⟨c0, cV⟩
          · subst c6
            (go_wp2_with fail; go_returns; exact ⟨rfl, T.out.2.2.2.2.2⟩)
          · subst c0
            subst cV
            (go_wp2_with fail; go_returns; exact ⟨rfl, T.out.2.2.2.2.2⟩)
        · have hq : (sChk2 y.ns.length ms bad != 0) = true := by simpa using h2
          clear OR JS S3 h2
          generalize sChk2 y.ns.length ms bad = E2 at *
          go_wp2_with fail
          refine (JE.out _ T.out.2.2.2.1 (HX.out.keep T.out.2.2.2.2.2)).mono ?_
          rintro e w6 ⟨x, rfl, _, hb⟩
          have T := Lib.hid (at_keep T.out hb)
          clear hb y3
          (go_wp2_with fail; go_returns; exact ⟨rfl, T.out.2.2.2.2.2⟩)
    · subst a0
      rcases K2.out.1 with b0 | b0
      · have kb := K2.out.2 b0
        have db : decide (B < V) = false := decide_eq_false (by omega)
        subst b0
        clear kb
        have y3 := T.out.1.cell 3 _ rfl
        clear SA SB SC G1 K1 K2
        by_cases h2 : sChk2 y.ns.length ms bad = 0
        · have O2 := Lib.hid (OR.out h2)
          have J2 := Lib.hid (fun W a b (h1 : SS W a ms) (h3 : SS W b bad) => JS.out W a b h1 h3 h2)
          clear h2 JE JS OR
          go_wp2_with fail
          refine (J2.out _ _ _ T.out.2.2.2.1 (HX.out.keep T.out.2.2.2.2.2)).mono ?_
          rintro e w6 ⟨x, rfl, hx, hb⟩
          have T := Lib.hid (at_keep T.out hb)
          have X := Lib.hid hx
          clear hb hx y3
          (have y0 := T.out.1.cell 0 _ rfl; have y1 := T.out.1.cell 1 _ rfl; have y2 := T.out.1.cell 2 _ rfl; have y3 := T.out.1.cell 3 _ rfl; have y4 := T.out.1.cell 4 _ rfl)
          (have p0 := T.out.2.1.cell 0 _ rfl; have p1 := T.out.2.1.cell 1 _ rfl; have p2 := T.out.2.1.cell 2 _ rfl; have p3 := T.out.2.1.cell 3 _ rfl; have p4 := T.out.2.1.cell 4 _ rfl; have p5 := T.out.2.1.cell 5 _ rfl; have p6 := T.out.2.1.cell 6 _ rfl; have p7 := T.out.2.1.cell 7 _ rfl; have p8 := T.out.2.1.cell 8 _ rfl)
          go_wp2_with fail
          refine (S3.out _ _ T.out.2.2.1 _ _ X.out T.out.2.2.2.2.1).mono ?_
          (rintro e w7 ⟨rfl, hb⟩; have T := Lib.hid (at_keep T.out hb); clear hb)
          clear y0 y1 y2 y3 y4
          clear p0 p1 p2 p3 p4 p5 p6 p7 p8
          rcases O2.out with c6 | ⟨c0, cV⟩
          · subst c6
            (go_wp2_with fail; go_returns; exact ⟨rfl, T.out.2.2.2.2.2⟩)
          · subst c0
            subst cV
            (go_wp2_with fail; go_returns; exact ⟨rfl, T.out.2.2.2.2.2⟩)
        · have hq : (sChk2 y.ns.length ms bad != 0) = true := by simpa using h2
          clear OR JS S3 h2
          generalize sChk2 y.ns.length ms bad = E2 at *
          go_wp2_with fail
          refine (JE.out _ T.out.2.2.2.1 (HX.out.keep T.out.2.2.2.2.2)).mono ?_
          rintro e w6 ⟨x, rfl, _, hb⟩
          have T := Lib.hid (at_keep T.out hb)
          clear hb y3
          (go_wp2_with fail; go_returns; exact ⟨rfl, T.out.2.2.2.2.2⟩)
      · subst b0
        have y3 := T.out.1.cell 3 _ rfl
        clear SA SB SC G1 K1 K2
        by_cases h2 : sChk2 y.ns.length ms bad = 0
        · have O2 := Lib.hid (OR.out h2)
          have J2 := Lib.hid (fun W a b (h1 : SS W a ms) (h3 : SS W b bad) => JS.out W a b h1 h3 h2)
          clear h2 JE JS OR
          go_wp2_with fail
          refine (J2.out _ _ _ T.out.2.2.2.1 (HX.out.keep T.out.2.2.2.2.2)).mono ?_
          rintro e w6 ⟨x, rfl, hx, hb⟩
          have T := Lib.hid (at_keep T.out hb)
          have X := Lib.hid hx
          clear hb hx y3
          (have y0 := T.out.1.cell 0 _ rfl; have y1 := T.out.1.cell 1 _ rfl; have y2 := T.out.1.cell 2 _ rfl; have y3 := T.out.1.cell 3 _ rfl; have y4 := T.out.1.cell 4 _ rfl)
          (have p0 := T.out.2.1.cell 0 _ rfl; have p1 := T.out.2.1.cell 1 _ rfl; have p2 := T.out.2.1.cell 2 _ rfl; have p3 := T.out.2.1.cell 3 _ rfl; have p4 := T.out.2.1.cell 4 _ rfl; have p5 := T.out.2.1.cell 5 _ rfl; have p6 := T.out.2.1.cell 6 _ rfl; have p7 := T.out.2.1.cell 7 _ rfl; have p8 := T.out.2.1.cell 8 _ rfl)
          go_wp2_with fail
          refine (S3.out _ _ T.out.2.2.1 _ _ X.out T.out.2.2.2.2.1).mono ?_
          (rintro e w7 ⟨rfl, hb⟩; have T := Lib.hid (at_keep T.out hb); clear hb)
          clear y0 y1 y2 y3 y4
          clear p0 p1 p2 p3 p4 p5 p6 p7 p8
          rcases O2.out with c6 | ⟨c0, cV⟩
          · subst c6
            (go_wp2_with fail; go_returns; exact ⟨rfl, T.out.2.2.2.2.2⟩)
          · subst c0
            subst cV
            (go_wp2_with fail; go_returns; exact ⟨rfl, T.out.2.2.2.2.2⟩)
        · have hq : (sChk2 y.ns.length ms bad != 0) = true := by simpa using h2
          clear OR JS S3 h2
          generalize sChk2 y.ns.length ms bad = E2 at *
          go_wp2_with fail
          refine (JE.out _ T.out.2.2.2.1 (HX.out.keep T.out.2.2.2.2.2)).mono ?_
          rintro e w6 ⟨x, rfl, _, hb⟩
          have T := Lib.hid (at_keep T.out hb)
          clear hb y3
          (go_wp2_with fail; go_returns; exact ⟨rfl, T.out.2.2.2.2.2⟩)
  · have v0 := soon_none e0
    have r0 : (soonE y p ms ks fr long != 0) = true := by simpa using e0
    have SC := Lib.hid (S1.out fr long)
    rw [v0] at SC
    generalize soonE y p ms ks fr long = E at *
    clear e0 v0 S1 f1 f2
    go_enter Tryz.func6, Tryz.ntmps6
    go_wp2_with fail
    refine (A1.out _).mono ?_
    rintro e w1 ⟨rfl, hb⟩
    have T := Lib.hid (T0.out _ hb)
    clear hb A1 T0
    (have y0 := T.out.1.cell 0 _ rfl; have y1 := T.out.1.cell 1 _ rfl; have y2 := T.out.1.cell 2 _ rfl; have y3 := T.out.1.cell 3 _ rfl; have y4 := T.out.1.cell 4 _ rfl)
    go_wp2_with fail
    refine (G1.out _ T.out.2.2.2.2.2).mono ?_
    (rintro e w2 ⟨rfl, hb⟩; have T := Lib.hid (at_keep T.out hb); clear hb)
    clear y0 y1 y2 y3 y4
    (have y0 := T.out.1.cell 0 _ rfl; have y1 := T.out.1.cell 1 _ rfl; have y2 := T.out.1.cell 2 _ rfl; have y3 := T.out.1.cell 3 _ rfl; have y4 := T.out.1.cell 4 _ rfl)
    (have p0 := T.out.2.1.cell 0 _ rfl; have p1 := T.out.2.1.cell 1 _ rfl; have p2 := T.out.2.1.cell 2 _ rfl; have p3 := T.out.2.1.cell 3 _ rfl; have p4 := T.out.2.1.cell 4 _ rfl; have p5 := T.out.2.1.cell 5 _ rfl; have p6 := T.out.2.1.cell 6 _ rfl; have p7 := T.out.2.1.cell 7 _ rfl; have p8 := T.out.2.1.cell 8 _ rfl)
    go_wp2_with fail
    refine (SC.out _ _ T.out.2.2.1 _ _ T.out.2.2.2.1 T.out.2.2.2.2.1).mono ?_
    (rintro e w3 ⟨rfl, hb⟩; have T := Lib.hid (at_keep T.out hb); clear hb)
    clear y0 y1 y2 y3 y4
    clear p0 p1 p2 p3 p4 p5 p6 p7 p8
    (go_wp2_with fail; go_returns; exact ⟨rfl, T.out.2.2.2.2.2⟩)
set_option maxRecDepth 100000 in set_option maxHeartbeats 4000000 in
theorem law11_FreeLonger (d : V3) (bn bl : Option Addr) (cn cl : Nat) (ns ls : List (List Sl)) (p : Pl) (bu bv bx : Option Addr) (cu cv cx : Nat) (ms ks bad : List Nat) (fr long m : Int) (w : World) (hn : CR w bn ns) (hl : CR w bl ls)
    (hz : (ns.length * 24 ≤ reachBytes ∧ ∀ c ∈ ns, c.length * 24 ≤ reachBytes) ∧ (ls.length * 24 ≤ reachBytes ∧ ∀ c ∈ ls, c.length * 24 ≤ reachBytes)) (ha : Rd w bu (wcells ms) ∧ W64 ms) (hb : Rd w bv (wcells ks) ∧ W64 ks) (hx : Rd w bx (wcells bad) ∧ W64 bad) (hm : 0 ≤ m ∧ m ≤ 255) (hmin : -9223372036854775808 ≤ long ∧ -9223372036854775808 ≤ fr) :
    Calls Tryz.prog 6 #[.agg #[.int .i64 d.x, .int .i64 d.y, .int .i64 d.z, (.slice bn ns.length cn), (.slice bl ls.length cl)], .agg #[.int .i64 p.b.b.x, .int .i64 p.b.b.y, .int .i64 p.b.b.z, .int .i64 p.b.s.x, .int .i64 p.b.s.y, .int .i64 p.b.s.z, .bool p.t0, .bool p.t1, .bool p.t2], .slice bu ms.length cu, .slice bv ks.length cv, .slice bx bad.length cx, .int .i64 fr, .int .i64 long, .int .u8 m] w (RB w (.bool true)) := by
  have hG := fun W (h : Below w.heap.size w W) => great_reach d bn bl cn cl ns ls W (hn.keep h) (hl.keep h) hz
  cases hg : greatB ns ls with
  | true =>
    rw [hg] at hG
    have G1 := Lib.hid hG
    have A1 := Lib.hid (fun W => law11_alive W)
    have T0 := Lib.hid (fun W (hb : Below (((w.alloc (.cells #[.int .i64 d.x, .int .i64 d.y, .int .i64 d.z, (.slice bn ns.length cn), (.slice bl ls.length cl)] 26)).alloc (.cells #[.int .i64 p.b.b.x, .int .i64 p.b.b.y, .int .i64 p.b.b.z, .int .i64 p.b.s.x, .int .i64 p.b.s.y, .int .i64 p.b.s.z, .bool p.t0, .bool p.t1, .bool p.t2] 31)).heap.size) ((w.alloc (.cells #[.int .i64 d.x, .int .i64 d.y, .int .i64 d.z, (.slice bn ns.length cn), (.slice bl ls.length cl)] 26)).alloc (.cells #[.int .i64 p.b.b.x, .int .i64 p.b.b.y, .int .i64 p.b.b.z, .int .i64 p.b.s.x, .int .i64 p.b.s.y, .int .i64 p.b.s.z, .bool p.t0, .bool p.t1, .bool p.t2] 31)) W) => And.intro (((Blk.new w 26 #[.int .i64 d.x, .int .i64 d.y, .int .i64 d.z, (.slice bn ns.length cn), (.slice bl ls.length cl)]).alloc (.cells #[.int .i64 p.b.b.x, .int .i64 p.b.b.y, .int .i64 p.b.b.z, .int .i64 p.b.s.x, .int .i64 p.b.s.y, .int .i64 p.b.s.z, .bool p.t0, .bool p.t1, .bool p.t2] 31)).below hb) (below_then (show Below w.heap.size w ((w.alloc (.cells #[.int .i64 d.x, .int .i64 d.y, .int .i64 d.z, (.slice bn ns.length cn), (.slice bl ls.length cl)] 26)).alloc (.cells #[.int .i64 p.b.b.x, .int .i64 p.b.b.y, .int .i64 p.b.b.z, .int .i64 p.b.s.x, .int .i64 p.b.s.y, .int .i64 p.b.s.z, .bool p.t0, .bool p.t1, .bool p.t2] 31)) by (repeat (first | (with_reducible exact Below.refl _ _) | (with_reducible assumption) | (with_reducible refine below_alloc ?_ _) | (with_reducible refine below_drewN ?_ _) | (with_reducible refine Below.drew ?_) | (with_reducible refine below_then ?_ (by with_reducible assumption)) | (with_reducible refine Below.setCell ?_ (by go_size) _)))) hb))
    clear hn hl hz ha hb hx hG
    go_enter Tryz.func6, Tryz.ntmps6
    go_wp2_with fail
    refine (A1.out _).mono ?_
    rintro e w1 ⟨rfl, hb⟩
    have T := Lib.hid (T0.out _ hb)
    clear hb A1 T0
    have y0 := T.out.1.cell 0 _ rfl
    have y1 := T.out.1.cell 1 _ rfl
    have y2 := T.out.1.cell 2 _ rfl
    have y3 := T.out.1.cell 3 _ rfl
    have y4 := T.out.1.cell 4 _ rfl
    go_wp2_with fail
    refine (G1.out _ T.out.2).mono ?_
    rintro e w2 ⟨rfl, hb⟩
    have HB := Lib.hid (below_then T.out.2 hb)
    clear hb
    go_wp2_with fail
    go_returns
    exact ⟨rfl, HB.out⟩
  | false =>
    rw [hg] at hG
    by_cases l1 : 100 < ms.length
    · have q1 : decide (100 < ms.length) = true := decide_eq_true l1
      have G1 := Lib.hid hG
      have A1 := Lib.hid (fun W => law11_alive W)
      have T0 := Lib.hid (fun W (hb : Below (((w.alloc (.cells #[.int .i64 d.x, .int .i64 d.y, .int .i64 d.z, (.slice bn ns.length cn), (.slice bl ls.length cl)] 26)).alloc (.cells #[.int .i64 p.b.b.x, .int .i64 p.b.b.y, .int .i64 p.b.b.z, .int .i64 p.b.s.x, .int .i64 p.b.s.y, .int .i64 p.b.s.z, .bool p.t0, .bool p.t1, .bool p.t2] 31)).heap.size) ((w.alloc (.cells #[.int .i64 d.x, .int .i64 d.y, .int .i64 d.z, (.slice bn ns.length cn), (.slice bl ls.length cl)] 26)).alloc (.cells #[.int .i64 p.b.b.x, .int .i64 p.b.b.y, .int .i64 p.b.b.z, .int .i64 p.b.s.x, .int .i64 p.b.s.y, .int .i64 p.b.s.z, .bool p.t0, .bool p.t1, .bool p.t2] 31)) W) => And.intro (((Blk.new w 26 #[.int .i64 d.x, .int .i64 d.y, .int .i64 d.z, (.slice bn ns.length cn), (.slice bl ls.length cl)]).alloc (.cells #[.int .i64 p.b.b.x, .int .i64 p.b.b.y, .int .i64 p.b.b.z, .int .i64 p.b.s.x, .int .i64 p.b.s.y, .int .i64 p.b.s.z, .bool p.t0, .bool p.t1, .bool p.t2] 31)).below hb) (below_then (show Below w.heap.size w ((w.alloc (.cells #[.int .i64 d.x, .int .i64 d.y, .int .i64 d.z, (.slice bn ns.length cn), (.slice bl ls.length cl)] 26)).alloc (.cells #[.int .i64 p.b.b.x, .int .i64 p.b.b.y, .int .i64 p.b.b.z, .int .i64 p.b.s.x, .int .i64 p.b.s.y, .int .i64 p.b.s.z, .bool p.t0, .bool p.t1, .bool p.t2] 31)) by (repeat (first | (with_reducible exact Below.refl _ _) | (with_reducible assumption) | (with_reducible refine below_alloc ?_ _) | (with_reducible refine below_drewN ?_ _) | (with_reducible refine Below.drew ?_) | (with_reducible refine below_then ?_ (by with_reducible assumption)) | (with_reducible refine Below.setCell ?_ (by go_size) _)))) hb))
      clear hn hl hz ha hb hx hG
      go_enter Tryz.func6, Tryz.ntmps6
      go_wp2_with fail
      refine (A1.out _).mono ?_
      rintro e w1 ⟨rfl, hb⟩
      have T := Lib.hid (T0.out _ hb)
      clear hb A1 T0
      have y0 := T.out.1.cell 0 _ rfl
      have y1 := T.out.1.cell 1 _ rfl
      have y2 := T.out.1.cell 2 _ rfl
      have y3 := T.out.1.cell 3 _ rfl
      have y4 := T.out.1.cell 4 _ rfl
      go_wp2_with fail
      refine (G1.out _ T.out.2).mono ?_
      rintro e w2 ⟨rfl, hb⟩
      have HB := Lib.hid (below_then T.out.2 hb)
      clear hb
      go_wp2_with fail
      go_returns
      exact ⟨rfl, HB.out⟩
    by_cases l2 : 100 < ks.length
    · have q1 : decide (100 < ms.length) = false := decide_eq_false l1
      have q2 : decide (100 < ks.length) = true := decide_eq_true l2
      have G1 := Lib.hid hG
      have A1 := Lib.hid (fun W => law11_alive W)
      have T0 := Lib.hid (fun W (hb : Below (((w.alloc (.cells #[.int .i64 d.x, .int .i64 d.y, .int .i64 d.z, (.slice bn ns.length cn), (.slice bl ls.length cl)] 26)).alloc (.cells #[.int .i64 p.b.b.x, .int .i64 p.b.b.y, .int .i64 p.b.b.z, .int .i64 p.b.s.x, .int .i64 p.b.s.y, .int .i64 p.b.s.z, .bool p.t0, .bool p.t1, .bool p.t2] 31)).heap.size) ((w.alloc (.cells #[.int .i64 d.x, .int .i64 d.y, .int .i64 d.z, (.slice bn ns.length cn), (.slice bl ls.length cl)] 26)).alloc (.cells #[.int .i64 p.b.b.x, .int .i64 p.b.b.y, .int .i64 p.b.b.z, .int .i64 p.b.s.x, .int .i64 p.b.s.y, .int .i64 p.b.s.z, .bool p.t0, .bool p.t1, .bool p.t2] 31)) W) => And.intro (((Blk.new w 26 #[.int .i64 d.x, .int .i64 d.y, .int .i64 d.z, (.slice bn ns.length cn), (.slice bl ls.length cl)]).alloc (.cells #[.int .i64 p.b.b.x, .int .i64 p.b.b.y, .int .i64 p.b.b.z, .int .i64 p.b.s.x, .int .i64 p.b.s.y, .int .i64 p.b.s.z, .bool p.t0, .bool p.t1, .bool p.t2] 31)).below hb) (below_then (show Below w.heap.size w ((w.alloc (.cells #[.int .i64 d.x, .int .i64 d.y, .int .i64 d.z, (.slice bn ns.length cn), (.slice bl ls.length cl)] 26)).alloc (.cells #[.int .i64 p.b.b.x, .int .i64 p.b.b.y, .int .i64 p.b.b.z, .int .i64 p.b.s.x, .int .i64 p.b.s.y, .int .i64 p.b.s.z, .bool p.t0, .bool p.t1, .bool p.t2] 31)) by (repeat (first | (with_reducible exact Below.refl _ _) | (with_reducible assumption) | (with_reducible refine below_alloc ?_ _) | (with_reducible refine below_drewN ?_ _) | (with_reducible refine Below.drew ?_) | (with_reducible refine below_then ?_ (by with_reducible assumption)) | (with_reducible refine Below.setCell ?_ (by go_size) _)))) hb))
      clear hn hl hz ha hb hx hG
      go_enter Tryz.func6, Tryz.ntmps6
      go_wp2_with fail
      refine (A1.out _).mono ?_
      rintro e w1 ⟨rfl, hb⟩
      have T := Lib.hid (T0.out _ hb)
      clear hb A1 T0
      have y0 := T.out.1.cell 0 _ rfl
      have y1 := T.out.1.cell 1 _ rfl
      have y2 := T.out.1.cell 2 _ rfl
      have y3 := T.out.1.cell 3 _ rfl
      have y4 := T.out.1.cell 4 _ rfl
      go_wp2_with fail
      refine (G1.out _ T.out.2).mono ?_
      rintro e w2 ⟨rfl, hb⟩
      have HB := Lib.hid (below_then T.out.2 hb)
      clear hb
      go_wp2_with fail
      go_returns
      exact ⟨rfl, HB.out⟩
    by_cases l3 : 100 < bad.length
    · have q1 : decide (100 < ms.length) = false := decide_eq_false l1
      have q2 : decide (100 < ks.length) = false := decide_eq_false l2
      have q3 : decide (100 < bad.length) = true := decide_eq_true l3
      have G1 := Lib.hid hG
      have A1 := Lib.hid (fun W => law11_alive W)
      have T0 := Lib.hid (fun W (hb : Below (((w.alloc (.cells #[.int .i64 d.x, .int .i64 d.y, .int .i64 d.z, (.slice bn ns.length cn), (.slice bl ls.length cl)] 26)).alloc (.cells #[.int .i64 p.b.b.x, .int .i64 p.b.b.y, .int .i64 p.b.b.z, .int .i64 p.b.s.x, .int .i64 p.b.s.y, .int .i64 p.b.s.z, .bool p.t0, .bool p.t1, .bool p.t2] 31)).heap.size) ((w.alloc (.cells #[.int .i64 d.x, .int .i64 d.y, .int .i64 d.z, (.slice bn ns.length cn), (.slice bl ls.length cl)] 26)).alloc (.cells #[.int .i64 p.b.b.x, .int .i64 p.b.b.y, .int .i64 p.b.b.z, .int .i64 p.b.s.x, .int .i64 p.b.s.y, .int .i64 p.b.s.z, .bool p.t0, .bool p.t1, .bool p.t2] 31)) W) => And.intro (((Blk.new w 26 #[.int .i64 d.x, .int .i64 d.y, .int .i64 d.z, (.slice bn ns.length cn), (.slice bl ls.length cl)]).alloc (.cells #[.int .i64 p.b.b.x, .int .i64 p.b.b.y, .int .i64 p.b.b.z, .int .i64 p.b.s.x, .int .i64 p.b.s.y, .int .i64 p.b.s.z, .bool p.t0, .bool p.t1, .bool p.t2] 31)).below hb) (below_then (show Below w.heap.size w ((w.alloc (.cells #[.int .i64 d.x, .int .i64 d.y, .int .i64 d.z, (.slice bn ns.length cn), (.slice bl ls.length cl)] 26)).alloc (.cells #[.int .i64 p.b.b.x, .int .i64 p.b.b.y, .int .i64 p.b.b.z, .int .i64 p.b.s.x, .int .i64 p.b.s.y, .int .i64 p.b.s.z, .bool p.t0, .bool p.t1, .bool p.t2] 31)) by (repeat (first | (with_reducible exact Below.refl _ _) | (with_reducible assumption) | (with_reducible refine below_alloc ?_ _) | (with_reducible refine below_drewN ?_ _) | (with_reducible refine Below.drew ?_) | (with_reducible refine below_then ?_ (by with_reducible assumption)) | (with_reducible refine Below.setCell ?_ (by go_size) _)))) hb))
      clear hn hl hz ha hb hx hG
      go_enter Tryz.func6, Tryz.ntmps6
      go_wp2_with fail
      refine (A1.out _).mono ?_
      rintro e w1 ⟨rfl, hb⟩
      have T := Lib.hid (T0.out _ hb)
      clear hb A1 T0
      have y0 := T.out.1.cell 0 _ rfl
      have y1 := T.out.1.cell 1 _ rfl
      have y2 := T.out.1.cell 2 _ rfl
      have y3 := T.out.1.cell 3 _ rfl
      have y4 := T.out.1.cell 4 _ rfl
      go_wp2_with fail
      refine (G1.out _ T.out.2).mono ?_
      rintro e w2 ⟨rfl, hb⟩
      have HB := Lib.hid (below_then T.out.2 hb)
      clear hb
      go_wp2_with fail
      go_returns
      exact ⟨rfl, HB.out⟩
    by_cases l4 : 1000000 < long
    · have q1 : decide (100 < ms.length) = false := decide_eq_false l1
      have q2 : decide (100 < ks.length) = false := decide_eq_false l2
      have q3 : decide (100 < bad.length) = false := decide_eq_false l3
      have q4 : decide (1000000 < long) = true := decide_eq_true l4
      have G1 := Lib.hid hG
      have A1 := Lib.hid (fun W => law11_alive W)
      have T0 := Lib.hid (fun W (hb : Below (((w.alloc (.cells #[.int .i64 d.x, .int .i64 d.y, .int .i64 d.z, (.slice bn ns.length cn), (.slice bl ls.length cl)] 26)).alloc (.cells #[.int .i64 p.b.b.x, .int .i64 p.b.b.y, .int .i64 p.b.b.z, .int .i64 p.b.s.x, .int .i64 p.b.s.y, .int .i64 p.b.s.z, .bool p.t0, .bool p.t1, .bool p.t2] 31)).heap.size) ((w.alloc (.cells #[.int .i64 d.x, .int .i64 d.y, .int .i64 d.z, (.slice bn ns.length cn), (.slice bl ls.length cl)] 26)).alloc (.cells #[.int .i64 p.b.b.x, .int .i64 p.b.b.y, .int .i64 p.b.b.z, .int .i64 p.b.s.x, .int .i64 p.b.s.y, .int .i64 p.b.s.z, .bool p.t0, .bool p.t1, .bool p.t2] 31)) W) => And.intro (((Blk.new w 26 #[.int .i64 d.x, .int .i64 d.y, .int .i64 d.z, (.slice bn ns.length cn), (.slice bl ls.length cl)]).alloc (.cells #[.int .i64 p.b.b.x, .int .i64 p.b.b.y, .int .i64 p.b.b.z, .int .i64 p.b.s.x, .int .i64 p.b.s.y, .int .i64 p.b.s.z, .bool p.t0, .bool p.t1, .bool p.t2] 31)).below hb) (below_then (show Below w.heap.size w ((w.alloc (.cells #[.int .i64 d.x, .int .i64 d.y, .int .i64 d.z, (.slice bn ns.length cn), (.slice bl ls.length cl)] 26)).alloc (.cells #[.int .i64 p.b.b.x, .int .i64 p.b.b.y, .int .i64 p.b.b.z, .int .i64 p.b.s.x, .int .i64 p.b.s.y, .int .i64 p.b.s.z, .bool p.t0, .bool p.t1, .bool p.t2] 31)) by (repeat (first | (with_reducible exact Below.refl _ _) | (with_reducible assumption) | (with_reducible refine below_alloc ?_ _) | (with_reducible refine below_drewN ?_ _) | (with_reducible refine Below.drew ?_) | (with_reducible refine below_then ?_ (by with_reducible assumption)) | (with_reducible refine Below.setCell ?_ (by go_size) _)))) hb))
      clear hn hl hz ha hb hx hG
      go_enter Tryz.func6, Tryz.ntmps6
      go_wp2_with fail
      refine (A1.out _).mono ?_
      rintro e w1 ⟨rfl, hb⟩
      have T := Lib.hid (T0.out _ hb)
      clear hb A1 T0
      have y0 := T.out.1.cell 0 _ rfl
      have y1 := T.out.1.cell 1 _ rfl
      have y2 := T.out.1.cell 2 _ rfl
      have y3 := T.out.1.cell 3 _ rfl
      have y4 := T.out.1.cell 4 _ rfl
      go_wp2_with fail
      refine (G1.out _ T.out.2).mono ?_
      rintro e w2 ⟨rfl, hb⟩
      have HB := Lib.hid (below_then T.out.2 hb)
      clear hb
      go_wp2_with fail
      go_returns
      exact ⟨rfl, HB.out⟩
    by_cases l5 : 1000000 < fr
    · have q1 : decide (100 < ms.length) = false := decide_eq_false l1
      have q2 : decide (100 < ks.length) = false := decide_eq_false l2
      have q3 : decide (100 < bad.length) = false := decide_eq_false l3
      have q4 : decide (1000000 < long) = false := decide_eq_false l4
      have q5 : decide (1000000 < fr) = true := decide_eq_true l5
      have G1 := Lib.hid hG
      have A1 := Lib.hid (fun W => law11_alive W)
      have T0 := Lib.hid (fun W (hb : Below (((w.alloc (.cells #[.int .i64 d.x, .int .i64 d.y, .int .i64 d.z, (.slice bn ns.length cn), (.slice bl ls.length cl)] 26)).alloc (.cells #[.int .i64 p.b.b.x, .int .i64 p.b.b.y, .int .i64 p.b.b.z, .int .i64 p.b.s.x, .int .i64 p.b.s.y, .int .i64 p.b.s.z, .bool p.t0, .bool p.t1, .bool p.t2] 31)).heap.size) ((w.alloc (.cells #[.int .i64 d.x, .int .i64 d.y, .int .i64 d.z, (.slice bn ns.length cn), (.slice bl ls.length cl)] 26)).alloc (.cells #[.int .i64 p.b.b.x, .int .i64 p.b.b.y, .int .i64 p.b.b.z, .int .i64 p.b.s.x, .int .i64 p.b.s.y, .int .i64 p.b.s.z, .bool p.t0, .bool p.t1, .bool p.t2] 31)) W) => And.intro (((Blk.new w 26 #[.int .i64 d.x, .int .i64 d.y, .int .i64 d.z, (.slice bn ns.length cn), (.slice bl ls.length cl)]).alloc (.cells #[.int .i64 p.b.b.x, .int .i64 p.b.b.y, .int .i64 p.b.b.z, .int .i64 p.b.s.x, .int .i64 p.b.s.y, .int .i64 p.b.s.z, .bool p.t0, .bool p.t1, .bool p.t2] 31)).below hb) (below_then (show Below w.heap.size w ((w.alloc (.cells #[.int .i64 d.x, .int .i64 d.y, .int .i64 d.z, (.slice bn ns.length cn), (.slice bl ls.length cl)] 26)).alloc (.cells #[.int .i64 p.b.b.x, .int .i64 p.b.b.y, .int .i64 p.b.b.z, .int .i64 p.b.s.x, .int .i64 p.b.s.y, .int .i64 p.b.s.z, .bool p.t0, .bool p.t1, .bool p.t2] 31)) by (repeat (first | (with_reducible exact Below.refl _ _) | (with_reducible assumption) | (with_reducible refine below_alloc ?_ _) | (with_reducible refine below_drewN ?_ _) | (with_reducible refine Below.drew ?_) | (with_reducible refine below_then ?_ (by with_reducible assumption)) | (with_reducible refine Below.setCell ?_ (by go_size) _)))) hb))
      clear hn hl hz ha hb hx hG
      go_enter Tryz.func6, Tryz.ntmps6
      go_wp2_with fail
      refine (A1.out _).mono ?_
      rintro e w1 ⟨rfl, hb⟩
      have T := Lib.hid (T0.out _ hb)
      clear hb A1 T0
      have y0 := T.out.1.cell 0 _ rfl
      have y1 := T.out.1.cell 1 _ rfl
      have y2 := T.out.1.cell 2 _ rfl
      have y3 := T.out.1.cell 3 _ rfl
      have y4 := T.out.1.cell 4 _ rfl
      go_wp2_with fail
      refine (G1.out _ T.out.2).mono ?_
      rintro e w2 ⟨rfl, hb⟩
      have HB := Lib.hid (below_then T.out.2 hb)
      clear hb
      go_wp2_with fail
      go_returns
      exact ⟨rfl, HB.out⟩
    have hs := great_small hg
    exact core_FreeLonger ⟨d, ns, ls⟩ bn bl cn cl p bu bv bx cu cv cx ms ks bad fr long m w ⟨bn, bl, cn, cl, rfl, ⟨hn, hs.1.1, hs.1.2⟩, ⟨hl, hs.2.1, hs.2.2⟩⟩ ⟨bu, cu, rfl, SetIn.mk ha.1 (by omega) ha.2⟩ ⟨bv, cv, rfl, SetIn.mk hb.1 (by omega) hb.2⟩ ⟨bx, cx, rfl, SetIn.mk hx.1 (by omega) hx.2⟩ (by omega) (by omega) (by omega) (by omega) (by omega) hm hmin hG

set_option maxRecDepth 100000 in set_option maxHeartbeats 4000000 in
theorem lift_freeLonger (os : Os) (started : os.Started) (H : Type) (enc : TypeId × Value → H) :
    ReturnsInHanded {} Tryz.checked os 6 .any (Rows.freeLongerSpec.pre6 enc Tryz.prog Tryz.f6 Rows.freeLongerRow.domain false) (Rows.freeLongerSpec.post enc Tryz.prog Tryz.f6 false true false false) := by
  refine returnsInHanded_of_change_sized (C := Tryz.checked) ownKnob0 started (by kernel_rfl) Tryz.func6
    (ChangeSpec.witness6 (enc := enc) (C := Tryz.checked) false ⟨#[], #[.agg #[.int .i64 (⟨0, 0, 0⟩ : V3).x, .int .i64 (⟨0, 0, 0⟩ : V3).y, .int .i64 (⟨0, 0, 0⟩ : V3).z, (.slice none 0 0), (.slice none 0 0)], .agg #[.int .i64 0, .int .i64 0, .int .i64 0, .int .i64 0, .int .i64 0, .int .i64 0, .bool false, .bool false, .bool false], .slice none 0 0, .slice none 0 0, .slice none 0 0, .int .i64 0, .int .i64 0, .int .u8 0], []⟩ 8 (by kernel_rfl) (by kernel_rfl) (by kernel_rfl) (by kernel_rfl)) ?_
  intro W base args ds gs before hval0 hW hcnd hwt _
  have hval : ∀ (j : Nat) t v, Tryz.f6.params[j]? = some t → args[j]? = some v → Value.okWide Tryz.prog W .any base t v := hval0
  have hW' := hW
  obtain ⟨p, q, hA0, hV, rfl, hfz, hnd⟩ := hW
  have hA : DataW.TrodAll enc Tryz.prog W 0 (fun _ => true) true Tryz.f6.params.toList args.toList ds p := hA0
  rw [Tryz.params6] at hA hval hwt
  have hK := hA
  obtain ⟨v0, vs0, d0, ds0, p0, q0, hargs, rfl, rfl, h0, r0⟩ := trodAll_cons hA
  obtain ⟨v1, vs1, d1, ds1, p1, q1, rfl, rfl, rfl, h1, r1⟩ := trodAll_cons r0
  obtain ⟨v2, vs2, d2, ds2, p2, q2, rfl, rfl, rfl, h2, r2⟩ := trodAll_cons r1
  obtain ⟨v3, vs3, d3, ds3, p3, q3, rfl, rfl, rfl, h3, r3⟩ := trodAll_cons r2
  obtain ⟨v4, vs4, d4, ds4, p4, q4, rfl, rfl, rfl, h4, r4⟩ := trodAll_cons r3
  obtain ⟨v5, vs5, d5, ds5, p5, q5, rfl, rfl, rfl, h5, r5⟩ := trodAll_cons r4
  obtain ⟨v6, vs6, d6, ds6, p6, q6, rfl, rfl, rfl, h6, r6⟩ := trodAll_cons r5
  obtain ⟨v7, vs7, d7, ds7, p7, q7, rfl, rfl, rfl, h7, r7⟩ := trodAll_cons r6
  obtain ⟨rfl, rfl, rfl⟩ := trodAll_nil r7
  obtain rfl : args = #[v0, v1, v2, v3, v4, v5, v6, v7] := by cases args; simp_all
  obtain ⟨d, bn, bl, ns, ls, cn, cl, rfl, hn, hl, hz⟩ := open_yard (hval 0 _ v0 rfl rfl) h0
  obtain ⟨pp, rfl⟩ := open_place (hval 1 _ v1 rfl rfl)
  obtain ⟨bu, ms, cu, rfl, ha, _⟩ := open_set (hval 2 _ v2 rfl rfl) h2
  obtain ⟨bv, ks, cv, rfl, hb, _⟩ := open_set (hval 3 _ v3 rfl rfl) h3
  obtain ⟨bx, bad, cx, rfl, hx, _⟩ := open_set (hval 4 _ v4 rfl rfl) h4
  obtain ⟨fr, rfl, hfr⟩ := okWide_int_has Tryz.underlying3 (hval 5 _ v5 rfl rfl)
  obtain ⟨long, rfl, hlo⟩ := okWide_int_has Tryz.underlying3 (hval 6 _ v6 rfl rfl)
  obtain ⟨m, rfl, hme⟩ := okWide_int_has Tryz.underlying5 (hval 7 _ v7 rfl rfl)
  have hm : 0 ≤ m ∧ m ≤ 255 := ⟨hme.1, hme.2⟩
  have hmin : -9223372036854775808 ≤ long ∧ -9223372036854775808 ≤ fr := ⟨hlo.1, hfr.1⟩
  have hz' := hz reachBytes (fun k hk => by have := List.all_eq_true.1 hwt k (DataW.weights_mem_each (j := 0) rfl rfl k hk); simpa using this)
  obtain ⟨rfl, rfl⟩ := trodVars_none hV
  clear hA0 hval0
  simp only [List.append_nil] at hW' hK
  refine (law11_FreeLonger d bn bl cn cl ns ls pp bu bv bx cu cv cx ms ks bad fr long m W hn hl hz' ha hb hx hm hmin).mono fun e W' ⟨he, bel⟩ => ?_
  subst he
  refine ⟨_, rfl, _, _, _, [], _, [], hW', trodAll_mk1 (shut_bool Tryz.underlying4 _), trodAll_below bel _ _ _ _ ?_ hK, rfl, bel.frame _, fun h => by cases h⟩
  intro t ht
  simp at ht <;> (rcases ht with rfl | rfl | rfl | rfl | rfl | rfl | rfl | rfl <;> exact ⟨by kernel_rfl, of_decide_eq_true (by kernel_rfl)⟩)

theorem holds_freeLonger : Rows.freeLongerRow.holds Tryz.pinned (OpenSpec.ofChange Rows.freeLongerSpec) :=
  OpenClaim.holds_of_wide 6 Tryz.f6 rfl rfl rfl rfl rfl rfl rfl ⟨rfl, rfl, rfl, rfl, rfl⟩ rfl rfl rfl rfl rfl (by kernel_rfl) Tryz.func6 (by kernel_rfl)
    (of_decide_eq_true (by kernel_rfl)) (by unfold Func.isWrapper; first | (rw [if_pos (by decide +kernel)]; kernel_rfl) | (rw [if_neg (by decide +kernel)]; exact ⟨rfl, rfl⟩))
    (fun os started H enc _ => lift_freeLonger os started H enc)

theorem FreeLonger_holds : Rows.FreeLongerSaid := holds_freeLonger
end
end Go.Proofs.YtofoenlhbmammaaGreat
