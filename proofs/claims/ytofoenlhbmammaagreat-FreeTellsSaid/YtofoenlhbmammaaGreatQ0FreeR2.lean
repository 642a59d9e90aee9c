/- FREE: the least moment from which a place is free: the document's. -/
import Derived.Test.YtofoenlhbmammaaGreatQ0FreeR
import Derived.Test.YtofoenlhbmammaaGreatQ0FreeS
namespace Go.Proofs.YtofoenlhbmammaaGreat

section
open Go.RowKit Go.Shelf

theorem y_Through {w : World} {v : Value} {y : Yd} (h : YS w v y) (hok : y.okB = true) (f t : Int) :
    Calls Tryz.prog 57 #[v, .agg #[.int .i64 f, .int .i64 t]] w (RS2 w (whS (fun c => !clearB c f t) y.ns) (whS (fun c => !clearB c f t) y.ls)) := by
  have hM := Yd.ok_many hok
  have hm := h.many
  obtain ⟨bn, bl, cn, cl, rfl, h1, h2⟩ := h.ex
  refine (ref09_Through y.d bn bl cn cl y.ns y.ls f t w h1 h2 hM.1 hM.2).mono ?_
  rintro e w' ⟨u, x, rfl, o1, o2, hb⟩
  exact ⟨u, x, rfl, SS.of o1 (by rw [whS_l]; unfold nWords; omega) (whS_f _ _), SS.of o2 (by rw [whS_l]; unfold nWords; omega) (whS_f _ _), hb⟩
set_option maxRecDepth 100000 in set_option maxHeartbeats 4000000 in
theorem ref11_At (vy : Value) (y : Yd) (p : Pl) (a long : Int) (w : World) (hy : YS w vy y) (hok : y.okB = true) (hp : plChk y.d p = 0) (h0 : 0 ≤ a) (hl : 1 ≤ long) (hm : a + long ≤ 1099511627776) :
    Calls Tryz.prog 42 #[vy, .agg #[.int .i64 p.b.b.x, .int .i64 p.b.b.y, .int .i64 p.b.b.z, .int .i64 p.b.s.x, .int .i64 p.b.s.y, .int .i64 p.b.s.z, .bool p.t0, .bool p.t1, .bool p.t2], .int .i64 a, .int .i64 long] w (RB w (.bool (freeAt y (midsV y.d p) (linksV y.d p) long a))) := by
  obtain ⟨f1, f2, f3⟩ := busy_sets hok hp h0 hl hm
  have hs : spMay a (a + long) := ⟨⟨h0, by omega⟩, hm⟩
  have hB := busyV_go hok hs
  have hv : freeAt y (midsV y.d p) (linksV y.d p) long a = (!hit true (nums (midsV y.d p)) (whS (fun c => !clearB c a (a + long)) y.ns) && !hit true (nums (linksV y.d p)) (whS (fun c => !clearB c a (a + long)) y.ls)) := by
    rw [← f3, hold_hit f2 (by rw [hB.1]; exact whS_f _ _) (by rw [hB.1]; exact whS_f _ _), hB.1]
  have K1 := Lib.hid (fun W (h : Below w.heap.size w W) => y_Through (hy.keep h) hok a (a + long))
  have K2 := Lib.hid (fun W u v (h1 : SS W u (whS (fun c => !clearB c a (a + long)) y.ns)) (h2 : SS W v (whS (fun c => !clearB c a (a + long)) y.ls)) => by have hh := ref11_Clear y.d p u v _ _ W hp h1 h2; rw [← hv] at hh; exact hh)
  obtain ⟨bn, bl, cn, cl, rfl, _, _⟩ := hy.ex
  generalize freeAt y (midsV y.d p) (linksV y.d p) long a = x at *
  generalize whS (fun c => !clearB c a (a + long)) y.ns = B1 at *
  generalize whS (fun c => !clearB c a (a + long)) y.ls = B2 at *
  clear f1 f2 f3 hs hB hv hy hp hok
  go_enter Tryz.func42, Tryz.ntmps42
  go_wp2_with fail
  refine (K1.out _ (by (repeat (first | (with_reducible exact Below.refl _ _) | (with_reducible assumption) | (with_reducible refine below_alloc ?_ _) | (with_reducible refine below_drewN ?_ _) | (with_reducible refine Below.drew ?_) | (with_reducible refine below_then ?_ (by with_reducible assumption)) | (with_reducible refine Below.setCell ?_ (by go_size) _))))).mono ?_
  rintro e w1 ⟨u, v, rfl, U, V, hb⟩
  (have YB := Lib.hid (((Blk.new w 26 #[.int .i64 y.d.x, .int .i64 y.d.y, .int .i64 y.d.z, (.slice bn y.ns.length cn), (.slice bl y.ls.length cl)]).alloc (.cells #[.int .i64 p.b.b.x, .int .i64 p.b.b.y, .int .i64 p.b.b.z, .int .i64 p.b.s.x, .int .i64 p.b.s.y, .int .i64 p.b.s.z, .bool p.t0, .bool p.t1, .bool p.t2] 31)).below hb); have BP := Lib.hid ((by have := (Blk.new (w.alloc (.cells #[.int .i64 y.d.x, .int .i64 y.d.y, .int .i64 y.d.z, (.slice bn y.ns.length cn), (.slice bl y.ls.length cl)] 26)) 31 #[.int .i64 p.b.b.x, .int .i64 p.b.b.y, .int .i64 p.b.b.z, .int .i64 p.b.s.x, .int .i64 p.b.s.y, .int .i64 p.b.s.z, .bool p.t0, .bool p.t1, .bool p.t2]).below hb; rwa [World.size_alloc] at this : Blk w1 (w.heap.size + 1) 31 #[.int .i64 p.b.b.x, .int .i64 p.b.b.y, .int .i64 p.b.b.z, .int .i64 p.b.s.x, .int .i64 p.b.s.y, .int .i64 p.b.s.z, .bool p.t0, .bool p.t1, .bool p.t2])); have HB := Lib.hid (below_then (show Below w.heap.size w ((w.alloc (.cells #[.int .i64 y.d.x, .int .i64 y.d.y, .int .i64 y.d.z, (.slice bn y.ns.length cn), (.slice bl y.ls.length cl)] 26)).alloc (.cells #[.int .i64 p.b.b.x, .int .i64 p.b.b.y, .int .i64 p.b.b.z, .int .i64 p.b.s.x, .int .i64 p.b.s.y, .int .i64 p.b.s.z, .bool p.t0, .bool p.t1, .bool p.t2] 31)) by (repeat (first | (with_reducible exact Below.refl _ _) | (with_reducible assumption) | (with_reducible refine below_alloc ?_ _) | (with_reducible refine below_drewN ?_ _) | (with_reducible refine Below.drew ?_) | (with_reducible refine below_then ?_ (by with_reducible assumption)) | (with_reducible refine Below.setCell ?_ (by go_size) _)))) hb))
  have U := Lib.hid U
  have V := Lib.hid V
  clear hb
  (have y0 := (YB.out).cell 0 _ rfl; have y1 := (YB.out).cell 1 _ rfl; have y2 := (YB.out).cell 2 _ rfl; have y3 := (YB.out).cell 3 _ rfl; have y4 := (YB.out).cell 4 _ rfl)
  (have p0 := (BP.out).cell 0 _ rfl; have p1 := (BP.out).cell 1 _ rfl; have p2 := (BP.out).cell 2 _ rfl; have p3 := (BP.out).cell 3 _ rfl; have p4 := (BP.out).cell 4 _ rfl; have p5 := (BP.out).cell 5 _ rfl; have p6 := (BP.out).cell 6 _ rfl; have p7 := (BP.out).cell 7 _ rfl; have p8 := (BP.out).cell 8 _ rfl)
  go_wp2_with fail
  refine (K2.out _ _ _ U.out V.out).mono ?_
  rintro e w2 ⟨rfl, hb⟩
  have HB := Lib.hid (below_then HB.out hb)
  clear hb
  (clear y0 y1 y2 y3 y4)
  (clear p0 p1 p2 p3 p4 p5 p6 p7 p8)
  go_wp2_with fail
  go_returns
  exact ⟨rfl, HB.out⟩
set_option maxRecDepth 100000 in set_option maxHeartbeats 4000000 in
theorem ref11_Soon (vy : Value) (y : Yd) (p : Pl) (u v : Value) (ms ks : List Nat) (fr long : Int) (w : World) (hy : YS w vy y) (hu : SS w u ms) (hv : SS w v ks) :
    Calls Tryz.prog 15 #[vy, .agg #[.int .i64 p.b.b.x, .int .i64 p.b.b.y, .int .i64 p.b.b.z, .int .i64 p.b.s.x, .int .i64 p.b.s.y, .int .i64 p.b.s.z, .bool p.t0, .bool p.t1, .bool p.t2], u, v, .int .i64 fr, .int .i64 long] w (RB w (.tuple #[.int .i64 (soonV y p ms ks fr long), .int .i64 (soonE y p ms ks fr long)])) := by
  have K1 := Lib.hid (fun W (h : Below w.heap.size w W) => ys_May (hy.keep h))
  have K2 := Lib.hid (fun W (h : Below w.heap.size w W) => ref11_Holds y.d p u v ms ks W (hu.keep h) (hv.keep h))
  have K3 := Lib.hid (fun W (h : Below w.heap.size w W) => ref10_Moments vy y fr W (hy.keep h))
  have HY := Lib.hid hy
  have hal := hy.all_len
  obtain ⟨bn, bl, cn, cl, rfl, _, _⟩ := hy.ex
  clear hy hu hv
  by_cases z1 : y.chk = 0
  · have hok := chk_0 z1
    rw [hok] at K1
    by_cases z2 : holdE y.d p ms ks = 0
    · rw [z2] at K2
      by_cases z3 : (0 ≤ fr ∧ fr < 1099511627776) ∧ 1 ≤ long
      · have z4 : timesE y fr = 0 := by unfold timesE; rw [hok, if_pos rfl, if_pos z3.1]
        have hA : soonA y fr long = 0 := by unfold soonA; rw [if_neg (by omega)]; exact z4
        have hso := soon_o (fr := fr) (long := long) z1 z2 hA
        have hO : soonO y p ms ks fr long = if holdV y.d p ms ks then (timesV y fr).find? (okAt y p long) else none := rfl
        have hpc := (holdE_0 z2).1
        have g1 : decide (fr < 0) = false := decide_eq_false (by omega)
        have g2 : decide (1099511627776 ≤ fr) = false := decide_eq_false (by omega)
        have g3 : decide (long < 1) = false := decide_eq_false (by omega)
        have hl1 := z3.2
        cases hx : holdV y.d p ms ks with
        | false =>
          rw [hx] at K2
          rw [hx, if_neg (by decide)] at hO
          obtain ⟨hE, hV⟩ := hso.1 hO
          rw [hE, hV]
          clear z1 z2 z3 z4 hE hV hso hO hpc hx hA K3
          go_enter Tryz.func15, Tryz.ntmps15
          go_wp2_with fail
          refine (K1.out _ (by (repeat (first | (with_reducible exact Below.refl _ _) | (with_reducible assumption) | (with_reducible refine below_alloc ?_ _) | (with_reducible refine below_drewN ?_ _) | (with_reducible refine Below.drew ?_) | (with_reducible refine below_then ?_ (by with_reducible assumption)) | (with_reducible refine Below.setCell ?_ (by go_size) _))))).mono ?_
          rintro e w1 ⟨rfl, hb⟩
          (have YB := Lib.hid (((Blk.new w 26 #[.int .i64 y.d.x, .int .i64 y.d.y, .int .i64 y.d.z, (.slice bn y.ns.length cn), (.slice bl y.ls.length cl)]).alloc (.cells #[.int .i64 p.b.b.x, .int .i64 p.b.b.y, .int .i64 p.b.b.z, .int .i64 p.b.s.x, .int .i64 p.b.s.y, .int .i64 p.b.s.z, .bool p.t0, .bool p.t1, .bool p.t2] 31)).below hb); have BP := Lib.hid ((by have := (Blk.new (w.alloc (.cells #[.int .i64 y.d.x, .int .i64 y.d.y, .int .i64 y.d.z, (.slice bn y.ns.length cn), (.slice bl y.ls.length cl)] 26)) 31 #[.int .i64 p.b.b.x, .int .i64 p.b.b.y, .int .i64 p.b.b.z, .int .i64 p.b.s.x, .int .i64 p.b.s.y, .int .i64 p.b.s.z, .bool p.t0, .bool p.t1, .bool p.t2]).below hb; rwa [World.size_alloc] at this : Blk w1 (w.heap.size + 1) 31 #[.int .i64 p.b.b.x, .int .i64 p.b.b.y, .int .i64 p.b.b.z, .int .i64 p.b.s.x, .int .i64 p.b.s.y, .int .i64 p.b.s.z, .bool p.t0, .bool p.t1, .bool p.t2])); have HB := Lib.hid (below_then (show Below w.heap.size w ((w.alloc (.cells #[.int .i64 y.d.x, .int .i64 y.d.y, .int .i64 y.d.z, (.slice bn y.ns.length cn), (.slice bl y.ls.length cl)] 26)).alloc (.cells #[.int .i64 p.b.b.x, .int .i64 p.b.b.y, .int .i64 p.b.b.z, .int .i64 p.b.s.x, .int .i64 p.b.s.y, .int .i64 p.b.s.z, .bool p.t0, .bool p.t1, .bool p.t2] 31)) by (repeat (first | (with_reducible exact Below.refl _ _) | (with_reducible assumption) | (with_reducible refine below_alloc ?_ _) | (with_reducible refine below_drewN ?_ _) | (with_reducible refine Below.drew ?_) | (with_reducible refine below_then ?_ (by with_reducible assumption)) | (with_reducible refine Below.setCell ?_ (by go_size) _)))) hb))
          clear hb
          (have y0 := (YB.out).cell 0 _ rfl; have y1 := (YB.out).cell 1 _ rfl; have y2 := (YB.out).cell 2 _ rfl; have y3 := (YB.out).cell 3 _ rfl; have y4 := (YB.out).cell 4 _ rfl)
          (have p0 := (BP.out).cell 0 _ rfl; have p1 := (BP.out).cell 1 _ rfl; have p2 := (BP.out).cell 2 _ rfl; have p3 := (BP.out).cell 3 _ rfl; have p4 := (BP.out).cell 4 _ rfl; have p5 := (BP.out).cell 5 _ rfl; have p6 := (BP.out).cell 6 _ rfl; have p7 := (BP.out).cell 7 _ rfl; have p8 := (BP.out).cell 8 _ rfl)
          go_wp2_with fail
          refine (K2.out _ HB.out).mono ?_
          rintro e w2 ⟨rfl, hb⟩
          (have YB := Lib.hid (YB.out.below hb); have BP := Lib.hid (BP.out.below hb); have HB := Lib.hid (below_then HB.out hb))
          clear hb
          (clear y0 y1 y2 y3 y4)
          (clear p0 p1 p2 p3 p4 p5 p6 p7 p8)
          go_wp2_with fail
          go_returns
          exact ⟨rfl, HB.out⟩
        | true =>
          rw [hx] at K2
          rw [hx, if_pos rfl] at hO
          rw [hO] at hso
          have HSO := Lib.hid hso
          have TI := Lib.hid (fun x (hx : x ∈ timesV y fr) => times_in z4 hx)
          have TR := Lib.hid (times_rise y fr)
          have TL : (timesV y fr).length ≤ 100000000 := times_len hal
          have hLV : pmsL [fr] (endsL (afterB fr) y.all) = timesV y fr := (if_pos z4).symm
          rw [hLV] at K3
          have KA := Lib.hid (fun a W (hY : Below w.heap.size w W) (h0 : 0 ≤ a) (hm : a + long ≤ 1099511627776) => ref11_At _ y p a long W (HY.out.keep hY) hok hpc h0 hl1 hm)
          have hokA := Lib.hid (fun a => (show okAt y p long a = (!lateB long a && freeAt y (midsV y.d p) (linksV y.d p) long a) from rfl))
          generalize soonE y p ms ks fr long = E at *
          generalize soonV y p ms ks fr long = V at *
          generalize timesV y fr = L at *
          clear z1 z2 z3 z4 hso hO hx hA hLV hpc
          go_enter Tryz.func15, Tryz.ntmps15
          go_wp2_with fail
          refine (K1.out _ (by (repeat (first | (with_reducible exact Below.refl _ _) | (with_reducible assumption) | (with_reducible refine below_alloc ?_ _) | (with_reducible refine below_drewN ?_ _) | (with_reducible refine Below.drew ?_) | (with_reducible refine below_then ?_ (by with_reducible assumption)) | (with_reducible refine Below.setCell ?_ (by go_size) _))))).mono ?_
          rintro e w1 ⟨rfl, hb⟩
          (have YB := Lib.hid (((Blk.new w 26 #[.int .i64 y.d.x, .int .i64 y.d.y, .int .i64 y.d.z, (.slice bn y.ns.length cn), (.slice bl y.ls.length cl)]).alloc (.cells #[.int .i64 p.b.b.x, .int .i64 p.b.b.y, .int .i64 p.b.b.z, .int .i64 p.b.s.x, .int .i64 p.b.s.y, .int .i64 p.b.s.z, .bool p.t0, .bool p.t1, .bool p.t2] 31)).below hb); have BP := Lib.hid ((by have := (Blk.new (w.alloc (.cells #[.int .i64 y.d.x, .int .i64 y.d.y, .int .i64 y.d.z, (.slice bn y.ns.length cn), (.slice bl y.ls.length cl)] 26)) 31 #[.int .i64 p.b.b.x, .int .i64 p.b.b.y, .int .i64 p.b.b.z, .int .i64 p.b.s.x, .int .i64 p.b.s.y, .int .i64 p.b.s.z, .bool p.t0, .bool p.t1, .bool p.t2]).below hb; rwa [World.size_alloc] at this : Blk w1 (w.heap.size + 1) 31 #[.int .i64 p.b.b.x, .int .i64 p.b.b.y, .int .i64 p.b.b.z, .int .i64 p.b.s.x, .int .i64 p.b.s.y, .int .i64 p.b.s.z, .bool p.t0, .bool p.t1, .bool p.t2])); have HB := Lib.hid (below_then (show Below w.heap.size w ((w.alloc (.cells #[.int .i64 y.d.x, .int .i64 y.d.y, .int .i64 y.d.z, (.slice bn y.ns.length cn), (.slice bl y.ls.length cl)] 26)).alloc (.cells #[.int .i64 p.b.b.x, .int .i64 p.b.b.y, .int .i64 p.b.b.z, .int .i64 p.b.s.x, .int .i64 p.b.s.y, .int .i64 p.b.s.z, .bool p.t0, .bool p.t1, .bool p.t2] 31)) by (repeat (first | (with_reducible exact Below.refl _ _) | (with_reducible assumption) | (with_reducible refine below_alloc ?_ _) | (with_reducible refine below_drewN ?_ _) | (with_reducible refine Below.drew ?_) | (with_reducible refine below_then ?_ (by with_reducible assumption)) | (with_reducible refine Below.setCell ?_ (by go_size) _)))) hb))
          clear hb
          (have y0 := (YB.out).cell 0 _ rfl; have y1 := (YB.out).cell 1 _ rfl; have y2 := (YB.out).cell 2 _ rfl; have y3 := (YB.out).cell 3 _ rfl; have y4 := (YB.out).cell 4 _ rfl)
          (have p0 := (BP.out).cell 0 _ rfl; have p1 := (BP.out).cell 1 _ rfl; have p2 := (BP.out).cell 2 _ rfl; have p3 := (BP.out).cell 3 _ rfl; have p4 := (BP.out).cell 4 _ rfl; have p5 := (BP.out).cell 5 _ rfl; have p6 := (BP.out).cell 6 _ rfl; have p7 := (BP.out).cell 7 _ rfl; have p8 := (BP.out).cell 8 _ rfl)
          go_wp2_with fail
          refine (K2.out _ HB.out).mono ?_
          rintro e w2 ⟨rfl, hb⟩
          (have YB := Lib.hid (YB.out.below hb); have BP := Lib.hid (BP.out.below hb); have HB := Lib.hid (below_then HB.out hb))
          clear hb
          (clear y0 y1 y2 y3 y4)
          (clear p0 p1 p2 p3 p4 p5 p6 p7 p8)
          (have y0 := (YB.out).cell 0 _ rfl; have y1 := (YB.out).cell 1 _ rfl; have y2 := (YB.out).cell 2 _ rfl; have y3 := (YB.out).cell 3 _ rfl; have y4 := (YB.out).cell 4 _ rfl)
          go_wp2_with fail
          refine (K3.out _ HB.out).mono ?_
          rintro e w3 ⟨vl, rfl, hvl, hb⟩
          obtain ⟨bL, cL, rfl, rdL⟩ := hvl.ex
          have RL := Lib.hid rdL
          (have YB := Lib.hid (YB.out.below hb); have BP := Lib.hid (BP.out.below hb); have HB := Lib.hid (below_then HB.out hb))
          clear hb hvl rdL K1 K2 K3
          (clear y0 y1 y2 y3 y4)
          go_wp2_with fail
          go_loopw [17] (fun i wr => ∃ k : Nat, k ≤ L.length ∧ i = .int .i64 k ∧ (L.take k).find? (okAt y p long) = none ∧ Below w3.heap.size w3 wr) (fun i _ => L.length - (intOf i).toNat)
          case atStart => exact ⟨0, Nat.zero_le _, rfl, rfl, Below.refl _ _⟩
          case round =>
            obtain ⟨k, hk, rfl, hfn, hbe⟩ := hrel
            have HBr := Lib.hid hbe
            have HF := Lib.hid hfn
            clear hbe hfn
            by_cases hlt : k < L.length
            · obtain ⟨b0, off, rfl, c0⟩ := RL.out k _ (wi_at hlt)
              have lt0 := World.block_lt_of_cell? w3 _ c0
              have c1 := (HBr.out.cell (p := ⟨b0, off + k, none⟩) lt0).trans c0
              have hb0 : b0 < wr.heap.size := Nat.lt_of_lt_of_le lt0 HBr.out.size
              obtain ⟨t1, t2, t3⟩ := TI.out L[k] (List.getElem_mem hlt)
              have hlate := Lib.hid (fun h => find_late TR.out hlt HF.out h)
              have hhere := Lib.hid (fun h => find_here hlt HF.out h)
              have hnext := Lib.hid (fun h => find_next hlt HF.out h)
              have C0 := Lib.hid c0
              obtain ⟨a, ha⟩ : ∃ a, a = L[k] := ⟨_, rfl⟩
              rw [← ha] at c1 t1 t2 t3 hlate hhere hnext C0
              clear c0 ha
              by_cases hl : 1099511627776 - a < long
              · have hq : decide (1099511627776 - a < long) = true := decide_eq_true hl
                have hq2 : decide (long ≤ 1099511627776 - a) = false := decide_eq_false (by omega)
                have hoka : okAt y p long a = false := by rw [hokA.out, show lateB long a = true from hq]; rfl
                have HN := Lib.hid (hnext.out hoka)
                clear hl hq hoka
                go_wp2_with (refine wp_region_quiet_lit (by kernel_rfl) (by kernel_rfl) ?_; (repeat (any_goals (first | go_big_quiet_step (fail) | quiet_step (fail) | (refine wpQuiet_step (fun K hK => ?_); go_simp; split <;> (refine hK _ ?_; clear hK K))))); all_goals (refine wpQuiet_nil ?_; intro _ hw'; obtain ⟨nq, hw''⟩ := hw'; subst hw''))
                all_goals
                  go_roundw
                  case rel => exact ⟨k + 1, by omega, by go_num, HN.out, by first | exact HBr.out | exact below_drewN HBr.out _⟩
                  case measure => (simp [intOf] <;> omega)
              · have hq : decide (1099511627776 - a < long) = false := decide_eq_false hl
                have hq2 : decide (long ≤ 1099511627776 - a) = true := decide_eq_true (by omega)
                have hm : a + long ≤ 1099511627776 := by omega
                have hok1 : okAt y p long a = freeAt y (midsV y.d p) (linksV y.d p) long a := by
                  rw [hokA.out, show lateB long a = false from hq]
                  rfl
                rw [hok1] at hhere hnext
                have hwr := HB.out.trans (HBr.out.mono HB.out.size)
                have IA := Lib.hid (fun (z : Aft wr) => Calls.aft_of (x := z) (KA.out a z.to (hwr.trans (z.h.mono hwr.size)) t2 hm))
                have YBr := YB.out.below HBr.out
                have BPr := BP.out.below HBr.out
                have hly := YBr.lt
                have hlp := BPr.lt
                (have y0 := (YBr).cell 0 _ rfl; have y1 := (YBr).cell 1 _ rfl; have y2 := (YBr).cell 2 _ rfl; have y3 := (YBr).cell 3 _ rfl; have y4 := (YBr).cell 4 _ rfl)
                (have p0 := (BPr).cell 0 _ rfl; have p1 := (BPr).cell 1 _ rfl; have p2 := (BPr).cell 2 _ rfl; have p3 := (BPr).cell 3 _ rfl; have p4 := (BPr).cell 4 _ rfl; have p5 := (BPr).cell 5 _ rfl; have p6 := (BPr).cell 6 _ rfl; have p7 := (BPr).cell 7 _ rfl; have p8 := (BPr).cell 8 _ rfl)
                generalize freeAt y (midsV y.d p) (linksV y.d p) long a = fa at *
                clear hok1 YBr BPr hlate hl hq hwr
                cases hfa : fa with
                | true =>
                  obtain ⟨hE, hV⟩ := HSO.out.2 a (hhere.out hfa)
                  have HE := Lib.hid hE
                  have HV := Lib.hid hV
                  rw [hfa] at IA
                  clear hfa hE hV
                  go_wp2_with fail
                  (refine wp_region_aft (by kernel_rfl) (by kernel_rfl) ?_; (repeat (any_goals (first | go_big_quiet_step ((go_at_call 42; with_reducible exact IA.out _)) | quiet_step ((go_at_call 42; with_reducible exact IA.out _)) | (refine wpQuiet_step (fun K hK => ?_); go_simp; split <;> (refine hK _ ?_; clear hK K))))); all_goals (refine wpQuiet_nil ?_; intro wq hw'; obtain ⟨x1, hx1⟩ := hw'; have hbq := x1.h; rw [← hx1] at hbq; clear hx1 x1))
                  all_goals
                    have HBq := Lib.hid (HBr.out.trans (hbq.mono HBr.out.size))
                    have cq := (HBq.out.cell (p := ⟨b0, off + k, none⟩) lt0).trans C0.out
                    clear hbq c1
                    (clear y0 y1 y2 y3 y4)
                    (clear p0 p1 p2 p3 p4 p5 p6 p7 p8)
                    go_wp2_with fail
                    go_returns
                    exact ⟨by rw [HE.out, HV.out]; rfl, HB.out.trans (HBq.out.mono HB.out.size)⟩
                | false =>
                  have HN := Lib.hid (hnext.out hfa)
                  rw [hfa] at IA
                  clear hfa
                  go_wp2_with fail
                  (refine wp_region_aft (by kernel_rfl) (by kernel_rfl) ?_; (repeat (any_goals (first | go_big_quiet_step ((go_at_call 42; with_reducible exact IA.out _)) | quiet_step ((go_at_call 42; with_reducible exact IA.out _)) | (refine wpQuiet_step (fun K hK => ?_); go_simp; split <;> (refine hK _ ?_; clear hK K))))); all_goals (refine wpQuiet_nil ?_; intro wq hw'; obtain ⟨x1, hx1⟩ := hw'; have hbq := x1.h; rw [← hx1] at hbq; clear hx1 x1))
                  all_goals
                    have HBq := Lib.hid (HBr.out.trans (hbq.mono HBr.out.size))
                    clear hbq c1
                    (clear y0 y1 y2 y3 y4)
                    (clear p0 p1 p2 p3 p4 p5 p6 p7 p8)
                    go_wp2_with fail
                    go_roundw
                    case rel => exact ⟨k + 1, by omega, by go_num, HN.out, HBq.out⟩
                    case measure => (simp [intOf] <;> omega)
            · obtain rfl : k = L.length := by omega
              have hfn := HF.out
              rw [List.take_length] at hfn
              obtain ⟨hE, hV⟩ := HSO.out.1 hfn
              have HE := Lib.hid hE
              have HV := Lib.hid hV
              clear hfn hE hV
              go_wp2_with fail
              go_returns
              exact ⟨by rw [HE.out, HV.out]; rfl, HB.out.trans (HBr.out.mono HB.out.size)⟩
      · have hA : soonA y fr long ≠ 0 := by
          unfold soonA
          by_cases h : long < 1
          · rw [if_pos h]; decide
          · rw [if_neg h]
            unfold timesE
            rw [hok, if_pos rfl, if_neg (fun hh => z3 ⟨hh, by omega⟩)]
            decide
        obtain ⟨hE, hV⟩ := soon_2 (fr := fr) z1 z2 hA
        rw [hE, hV]
        generalize holdV y.d p ms ks = x at *
        clear z1 z2 hE hV hA K3
        go_enter Tryz.func15, Tryz.ntmps15
        go_wp2_with fail
        refine (K1.out _ (by (repeat (first | (with_reducible exact Below.refl _ _) | (with_reducible assumption) | (with_reducible refine below_alloc ?_ _) | (with_reducible refine below_drewN ?_ _) | (with_reducible refine Below.drew ?_) | (with_reducible refine below_then ?_ (by with_reducible assumption)) | (with_reducible refine Below.setCell ?_ (by go_size) _))))).mono ?_
        rintro e w1 ⟨rfl, hb⟩
        (have YB := Lib.hid (((Blk.new w 26 #[.int .i64 y.d.x, .int .i64 y.d.y, .int .i64 y.d.z, (.slice bn y.ns.length cn), (.slice bl y.ls.length cl)]).alloc (.cells #[.int .i64 p.b.b.x, .int .i64 p.b.b.y, .int .i64 p.b.b.z, .int .i64 p.b.s.x, .int .i64 p.b.s.y, .int .i64 p.b.s.z, .bool p.t0, .bool p.t1, .bool p.t2] 31)).below hb); have BP := Lib.hid ((by have := (Blk.new (w.alloc (.cells #[.int .i64 y.d.x, .int .i64 y.d.y, .int .i64 y.d.z, (.slice bn y.ns.length cn), (.slice bl y.ls.length cl)] 26)) 31 #[.int .i64 p.b.b.x, .int .i64 p.b.b.y, .int .i64 p.b.b.z, .int .i64 p.b.s.x, .int .i64 p.b.s.y, .int .i64 p.b.s.z, .bool p.t0, .bool p.t1, .bool p.t2]).below hb; rwa [World.size_alloc] at this : Blk w1 (w.heap.size + 1) 31 #[.int .i64 p.b.b.x, .int .i64 p.b.b.y, .int .i64 p.b.b.z, .int .i64 p.b.s.x, .int .i64 p.b.s.y, .int .i64 p.b.s.z, .bool p.t0, .bool p.t1, .bool p.t2])); have HB := Lib.hid (below_then (show Below w.heap.size w ((w.alloc (.cells #[.int .i64 y.d.x, .int .i64 y.d.y, .int .i64 y.d.z, (.slice bn y.ns.length cn), (.slice bl y.ls.length cl)] 26)).alloc (.cells #[.int .i64 p.b.b.x, .int .i64 p.b.b.y, .int .i64 p.b.b.z, .int .i64 p.b.s.x, .int .i64 p.b.s.y, .int .i64 p.b.s.z, .bool p.t0, .bool p.t1, .bool p.t2] 31)) by (repeat (first | (with_reducible exact Below.refl _ _) | (with_reducible assumption) | (with_reducible refine below_alloc ?_ _) | (with_reducible refine below_drewN ?_ _) | (with_reducible refine Below.drew ?_) | (with_reducible refine below_then ?_ (by with_reducible assumption)) | (with_reducible refine Below.setCell ?_ (by go_size) _)))) hb))
        clear hb
        (have y0 := (YB.out).cell 0 _ rfl; have y1 := (YB.out).cell 1 _ rfl; have y2 := (YB.out).cell 2 _ rfl; have y3 := (YB.out).cell 3 _ rfl; have y4 := (YB.out).cell 4 _ rfl)
        (have p0 := (BP.out).cell 0 _ rfl; have p1 := (BP.out).cell 1 _ rfl; have p2 := (BP.out).cell 2 _ rfl; have p3 := (BP.out).cell 3 _ rfl; have p4 := (BP.out).cell 4 _ rfl; have p5 := (BP.out).cell 5 _ rfl; have p6 := (BP.out).cell 6 _ rfl; have p7 := (BP.out).cell 7 _ rfl; have p8 := (BP.out).cell 8 _ rfl)
        go_wp2_with fail
        refine (K2.out _ HB.out).mono ?_
        rintro e w2 ⟨rfl, hb⟩
        (have YB := Lib.hid (YB.out.below hb); have BP := Lib.hid (BP.out.below hb); have HB := Lib.hid (below_then HB.out hb))
        clear hb
        (clear y0 y1 y2 y3 y4)
        (clear p0 p1 p2 p3 p4 p5 p6 p7 p8)
        by_cases q1 : fr < 0
        · clear z3
          go_wp2_with fail
          go_returns
          exact ⟨rfl, HB.out⟩
        by_cases q2 : 1099511627776 ≤ fr
        · clear z3
          go_wp2_with fail
          go_returns
          exact ⟨rfl, HB.out⟩
        have q3 : long < 1 := by omega
        clear z3
        go_wp2_with fail
        go_returns
        exact ⟨rfl, HB.out⟩
    · obtain ⟨hE, hV⟩ := soon_h (fr := fr) (long := long) z1 z2
      have hy2 : (holdE y.d p ms ks != 0) = true := by simpa using z2
      rw [hE, hV]
      generalize holdV y.d p ms ks = x at *
      generalize holdE y.d p ms ks = ex at *
      clear z1 z2 hE hV K3
      go_enter Tryz.func15, Tryz.ntmps15
      go_wp2_with fail
      refine (K1.out _ (by (repeat (first | (with_reducible exact Below.refl _ _) | (with_reducible assumption) | (with_reducible refine below_alloc ?_ _) | (with_reducible refine below_drewN ?_ _) | (with_reducible refine Below.drew ?_) | (with_reducible refine below_then ?_ (by with_reducible assumption)) | (with_reducible refine Below.setCell ?_ (by go_size) _))))).mono ?_
      rintro e w1 ⟨rfl, hb⟩
      (have YB := Lib.hid (((Blk.new w 26 #[.int .i64 y.d.x, .int .i64 y.d.y, .int .i64 y.d.z, (.slice bn y.ns.length cn), (.slice bl y.ls.length cl)]).alloc (.cells #[.int .i64 p.b.b.x, .int .i64 p.b.b.y, .int .i64 p.b.b.z, .int .i64 p.b.s.x, .int .i64 p.b.s.y, .int .i64 p.b.s.z, .bool p.t0, .bool p.t1, .bool p.t2] 31)).below hb); have BP := Lib.hid ((by have := (Blk.new (w.alloc (.cells #[.int .i64 y.d.x, .int .i64 y.d.y, .int .i64 y.d.z, (.slice bn y.ns.length cn), (.slice bl y.ls.length cl)] 26)) 31 #[.int .i64 p.b.b.x, .int .i64 p.b.b.y, .int .i64 p.b.b.z, .int .i64 p.b.s.x, .int .i64 p.b.s.y, .int .i64 p.b.s.z, .bool p.t0, .bool p.t1, .bool p.t2]).below hb; rwa [World.size_alloc] at this : Blk w1 (w.heap.size + 1) 31 #[.int .i64 p.b.b.x, .int .i64 p.b.b.y, .int .i64 p.b.b.z, .int .i64 p.b.s.x, .int .i64 p.b.s.y, .int .i64 p.b.s.z, .bool p.t0, .bool p.t1, .bool p.t2])); have HB := Lib.hid (below_then (show Below w.heap.size w ((w.alloc (.cells #[.int .i64 y.d.x, .int .i64 y.d.y, .int .i64 y.d.z, (.slice bn y.ns.length cn), (.slice bl y.ls.length cl)] 26)).alloc (.cells #[.int .i64 p.b.b.x, .int .i64 p.b.b.y, .int .i64 p.b.b.z, .int .i64 p.b.s.x, .int .i64 p.b.s.y, .int .i64 p.b.s.z, .bool p.t0, .bool p.t1, .bool p.t2] 31)) by (repeat (first | (with_reducible exact Below.refl _ _) | (with_reducible assumption) | (with_reducible refine below_alloc ?_ _) | (with_reducible refine below_drewN ?_ _) | (with_reducible refine Below.drew ?_) | (with_reducible refine below_then ?_ (by with_reducible assumption)) | (with_reducible refine Below.setCell ?_ (by go_size) _)))) hb))
      clear hb
      (have y0 := (YB.out).cell 0 _ rfl; have y1 := (YB.out).cell 1 _ rfl; have y2 := (YB.out).cell 2 _ rfl; have y3 := (YB.out).cell 3 _ rfl; have y4 := (YB.out).cell 4 _ rfl)
      (have p0 := (BP.out).cell 0 _ rfl; have p1 := (BP.out).cell 1 _ rfl; have p2 := (BP.out).cell 2 _ rfl; have p3 := (BP.out).cell 3 _ rfl; have p4 := (BP.out).cell 4 _ rfl; have p5 := (BP.out).cell 5 _ rfl; have p6 := (BP.out).cell 6 _ rfl; have p7 := (BP.out).cell 7 _ rfl; have p8 := (BP.out).cell 8 _ rfl)
      go_wp2_with fail
      refine (K2.out _ HB.out).mono ?_
      rintro e w2 ⟨rfl, hb⟩
      (have YB := Lib.hid (YB.out.below hb); have BP := Lib.hid (BP.out.below hb); have HB := Lib.hid (below_then HB.out hb))
      clear hb
      (clear y0 y1 y2 y3 y4)
      (clear p0 p1 p2 p3 p4 p5 p6 p7 p8)
      go_wp2_with fail
      go_returns
      exact ⟨rfl, HB.out⟩
  · obtain ⟨hE, hV⟩ := soon_8 (p := p) (ms := ms) (ks := ks) (fr := fr) (long := long) z1
    have hok : y.okB = false := by
      unfold Yd.chk at z1
      cases ho : y.okB with
      | true => rw [ho] at z1; exact absurd rfl z1
      | false => rfl
    rw [hok] at K1
    rw [hE, hV]
    clear z1 hE hV
    go_enter Tryz.func15, Tryz.ntmps15
    go_wp2_with fail
    refine (K1.out _ (by (repeat (first | (with_reducible exact Below.refl _ _) | (with_reducible assumption) | (with_reducible refine below_alloc ?_ _) | (with_reducible refine below_drewN ?_ _) | (with_reducible refine Below.drew ?_) | (with_reducible refine below_then ?_ (by with_reducible assumption)) | (with_reducible refine Below.setCell ?_ (by go_size) _))))).mono ?_
    rintro e w1 ⟨rfl, hb⟩
    (have YB := Lib.hid (((Blk.new w 26 #[.int .i64 y.d.x, .int .i64 y.d.y, .int .i64 y.d.z, (.slice bn y.ns.length cn), (.slice bl y.ls.length cl)]).alloc (.cells #[.int .i64 p.b.b.x, .int .i64 p.b.b.y, .int .i64 p.b.b.z, .int .i64 p.b.s.x, .int .i64 p.b.s.y, .int .i64 p.b.s.z, .bool p.t0, .bool p.t1, .bool p.t2] 31)).below hb); have BP := Lib.hid ((by have := (Blk.new (w.alloc (.cells #[.int .i64 y.d.x, .int .i64 y.d.y, .int .i64 y.d.z, (.slice bn y.ns.length cn), (.slice bl y.ls.length cl)] 26)) 31 #[.int .i64 p.b.b.x, .int .i64 p.b.b.y, .int .i64 p.b.b.z, .int .i64 p.b.s.x, .int .i64 p.b.s.y, .int .i64 p.b.s.z, .bool p.t0, .bool p.t1, .bool p.t2]).below hb; rwa [World.size_alloc] at this : Blk w1 (w.heap.size + 1) 31 #[.int .i64 p.b.b.x, .int .i64 p.b.b.y, .int .i64 p.b.b.z, .int .i64 p.b.s.x, .int .i64 p.b.s.y, .int .i64 p.b.s.z, .bool p.t0, .bool p.t1, .bool p.t2])); have HB := Lib.hid (below_then (show Below w.heap.size w ((w.alloc (.cells #[.int .i64 y.d.x, .int .i64 y.d.y, .int .i64 y.d.z, (.slice bn y.ns.length cn), (.slice bl y.ls.length cl)] 26)).alloc (.cells #[.int .i64 p.b.b.x, .int .i64 p.b.b.y, .int .i64 p.b.b.z, .int .i64 p.b.s.x, .int .i64 p.b.s.y, .int .i64 p.b.s.z, .bool p.t0, .bool p.t1, .bool p.t2] 31)) by (repeat (first | (with_reducible exact Below.refl _ _) | (with_reducible assumption) | (with_reducible refine below_alloc ?_ _) | (with_reducible refine below_drewN ?_ _) | (with_reducible refine Below.drew ?_) | (with_reducible refine below_then ?_ (by with_reducible assumption)) | (with_reducible refine Below.setCell ?_ (by go_size) _)))) hb))
    clear hb
    go_wp2_with fail
    go_returns
    exact ⟨rfl, HB.out⟩
end
end Go.Proofs.YtofoenlhbmammaaGreat
