/- FREE: the least moment from which a place is free: the code's. -/
import Derived.Test.YtofoenlhbmammaaGreatQ0WhenCodeF11
import Derived.Test.YtofoenlhbmammaaGreatQ14F11
import Derived.Test.YtofoenlhbmammaaGreatQ0FreeWF11
set_option linter.unusedVariables false
set_option linter.unusedSimpArgs false
namespace Go.Proofs.YtofoenlhbmammaaGreat

section
open Go.RowKit Go.Shelf

theorem fr_Check {W : World} {v : Value} {y : Yd} (h : YS W v y) : Calls Tryz.prog 38 #[v] W (RB W (.int .i64 y.chk)) := by
  obtain ⟨bn, bl, cn, cl, rfl, h1, h2⟩ := h.ex
  exact cals_Check y.d bn bl cn cl y.ns y.ls W h1 h2
theorem chk_0 {y : Yd} (h : y.chk = 0) : y.okB = true := by
  unfold Yd.chk at h
  cases ho : y.okB with
  | true => rfl
  | false => rw [ho] at h; simp at h
/-- How Soon's error comes about. -/
theorem soon_8 {y : Yd} {p : Pl} {ms ks : List Nat} {fr long : Int} (h : y.chk ≠ 0) : soonE y p ms ks fr long = 8 ∧ soonV y p ms ks fr long = 0 := by
  have hE : soonE y p ms ks fr long = 8 := if_neg h
  exact ⟨hE, if_neg (by rw [hE]; decide)⟩
theorem soon_h {y : Yd} {p : Pl} {ms ks : List Nat} {fr long : Int} (h : y.chk = 0) (h1 : holdE y.d p ms ks ≠ 0) : soonE y p ms ks fr long = holdE y.d p ms ks ∧ soonV y p ms ks fr long = 0 := by
  have hE : soonE y p ms ks fr long = holdE y.d p ms ks := by unfold soonE; rw [if_pos h, if_neg h1]
  exact ⟨hE, if_neg (by rw [hE]; exact h1)⟩
theorem soon_2 {y : Yd} {p : Pl} {ms ks : List Nat} {fr long : Int} (h : y.chk = 0) (h1 : holdE y.d p ms ks = 0) (h2 : soonA y fr long ≠ 0) : soonE y p ms ks fr long = 2 ∧ soonV y p ms ks fr long = 0 := by
  have hE : soonE y p ms ks fr long = 2 := by unfold soonE; rw [if_pos h, if_pos h1, if_neg h2]
  exact ⟨hE, if_neg (by rw [hE]; decide)⟩
theorem soon_o {y : Yd} {p : Pl} {ms ks : List Nat} {fr long : Int} (h : y.chk = 0) (h1 : holdE y.d p ms ks = 0) (h2 : soonA y fr long = 0) :
    (soonO y p ms ks fr long = none → soonE y p ms ks fr long = 6 ∧ soonV y p ms ks fr long = 0) ∧ (∀ a, soonO y p ms ks fr long = some a → soonE y p ms ks fr long = 0 ∧ soonV y p ms ks fr long = a) := by
  have hE : soonE y p ms ks fr long = if (soonO y p ms ks fr long).isSome then 0 else 6 := by unfold soonE; rw [if_pos h, if_pos h1, if_pos h2]
  constructor
  · intro hn
    rw [hn] at hE
    rw [if_neg (by decide)] at hE
    exact ⟨hE, if_neg (by rw [hE]; decide)⟩
  · intro a ha
    rw [ha] at hE
    rw [if_pos (by rfl)] at hE
    refine ⟨hE, ?_⟩
    unfold soonV
    rw [if_pos hE, ha]
    rfl
set_option maxRecDepth 100000 in set_option maxHeartbeats 4000000 in
theorem free_Soon (vy : Value) (y : Yd) (p : Pl) (u v : Value) (ms ks : List Nat) (fr long : Int) (w : World) (hy : YS w vy y) (hu : SS w u ms) (hv : SS w v ks) :
    Calls Tryz.prog 14 #[vy, .agg #[.int .i64 p.b.b.x, .int .i64 p.b.b.y, .int .i64 p.b.b.z, .int .i64 p.b.s.x, .int .i64 p.b.s.y, .int .i64 p.b.s.z, .bool p.t0, .bool p.t1, .bool p.t2], u, v, .int .i64 fr, .int .i64 long] w (RB w (.tuple #[.int .i64 (soonV y p ms ks fr long), .int .i64 (soonE y p ms ks fr long)])) := by
  have K1 := Lib.hid (fun W (h : Below w.heap.size w W) => fr_Check (hy.keep h))
  have K2 := Lib.hid (fun W (h : Below w.heap.size w W) => free_Holds y.d p u v ms ks W (hu.keep h) (hv.keep h))
  have K3 := Lib.hid (fun W (h : Below w.heap.size w W) => when_Times fr vy y W (hy.keep h))
  have K4 := Lib.hid (fun a t W (h : Below w.heap.size w W) => y_Busy (hy.keep h) a t)
  have hal := hy.all_len
  obtain ⟨bn, bl, cn, cl, rfl, _, _⟩ := hy.ex
  clear hy hu hv
  by_cases z1 : y.chk = 0
  · rw [z1] at K1
    by_cases z2 : holdE y.d p ms ks = 0
    · rw [z2] at K2
      by_cases z3 : long < 1
      · obtain ⟨hE, hV⟩ := soon_2 (fr := fr) z1 z2 (show soonA y fr long ≠ 0 by unfold soonA; rw [if_pos z3]; decide)
        rw [hE, hV]
        generalize holdV y.d p ms ks = x at *
        clear z1 z2 hE hV
        go_enter Tryz.func14, Tryz.ntmps14
        go_wp2_with fail
        refine (K1.out _ (by (repeat (first | (with_reducible exact Below.refl _ _) | (with_reducible assumption) | (with_reducible refine below_alloc ?_ _) | (with_reducible refine below_drewN ?_ _) | (with_reducible refine Below.drew ?_) | (with_reducible refine below_then ?_ (by with_reducible assumption)) | (with_reducible refine Below.setCell ?_ (by go_size) _))))).mono ?_
        rintro e w1 ⟨rfl, hb⟩
        (have YB := Lib.hid (((Blk.new w 26 #[.int .i64 y.d.x, .int .i64 y.d.y, .int .i64 y.d.z, (.slice bn y.ns.length cn), (.slice bl y.ls.length cl)]).alloc (.cells #[.int .i64 p.b.b.x, .int .i64 p.b.b.y, .int .i64 p.b.b.z, .int .i64 p.b.s.x, .int .i64 p.b.s.y, .int .i64 p.b.s.z, .bool p.t0, .bool p.t1, .bool p.t2] 31)).below hb); have BP := Lib.hid ((by have := (Blk.new (w.alloc (.cells #[.int .i64 y.d.x, .int .i64 y.d.y, .int .i64 y.d.z, (.slice bn y.ns.length cn), (.slice bl y.ls.length cl)] 26)) 31 #[.int .i64 p.b.b.x, .int .i64 p.b.b.y, .int .i64 p.b.b.z, .int .i64 p.b.s.x, .int .i64 p.b.s.y, .int .i64 p.b.s.z, .bool p.t0, .bool p.t1, .bool p.t2]).below hb; rwa [World.size_alloc] at this : Blk w1 (w.heap.size + 1) 31 #[.int .i64 p.b.b.x, .int .i64 p.b.b.y, .int .i64 p.b.b.z, .int .i64 p.b.s.x, .int .i64 p.b.s.y, .int .i64 p.b.s.z, .bool p.t0, .bool p.t1, .bool p.t2])); have HB := Lib.hid (below_then (show Below w.heap.size w ((w.alloc (.cells #[.int .i64 y.d.x, .int .i64 y.d.y, .int .i64 y.d.z, (.slice bn y.ns.length cn), (.slice bl y.ls.length cl)] 26)).alloc (.cells #[.int .i64 p.b.b.x, .int .i64 p.b.b.y, .int .i64 p.b.b.z, .int .i64 p.b.s.x, .int .i64 p.b.s.y, .int .i64 p.b.s.z, .bool p.t0, .bool p.t1, .bool p.t2] 31)) by (repeat (first | (with_reducible exact Below.refl _ _) | (with_reducible assumption) | (with_reducible refine below_alloc ?_ _) | (with_reducible refine below_drewN ?_ _) | (with_reducible refine Below.drew ?_) | (with_reducible refine below_then ?_ (by with_reducible assumption)) | (with_reducible refine Below.setCell ?_ (by go_size) _)))) hb))
        clear hb
        (have y0 := (YB.out).cell 0 _ rfl; have y1 := (YB.out).cell 1 _ rfl; have y2 := (YB.out).cell 2 _ rfl; have y3 := (YB.out).cell 3 _ rfl; have y4 := (YB.out).cell 4 _ rfl)
        (have p0 := (BP.out).cell 0 _ rfl; have p1 := (BP.out).cell 1 _ rfl; have p2 := (BP.out).cell 2 _ rfl; have p3 := (BP.out).cell 3 _ rfl; have p4 := (BP.out).cell 4 _ rfl; have p5 := (BP.out).cell 5 _ rfl; have p6 := (BP.out).cell 6 _ rfl; have p7 := (BP.out).cell 7 _ rfl; have p8 := (BP.out).cell 8 _ rfl)
        go_wp2_with fail
        refine (K2.out _ HB.out).mono ?_
        rintro e w2 ⟨rfl, hb⟩
        (have YB := Lib.hid (YB.out.below hb); have BP := Lib.hid (BP.out.below hb); have HB := Lib.hid (below_then HB.out hb))
        clear hb
        (clear y0 y1 y2 y3 y4)
        (clear p0 p1 p2 p3 p4 p5 p6 p7 p8)
        go_wp2_with fail
        go_returns
        exact ⟨rfl, HB.out⟩
      · have hA : soonA y fr long = timesE y fr := if_neg z3
        by_cases z4 : timesE y fr = 0
        · have hso := soon_o (fr := fr) (long := long) z1 z2 (hA.trans z4)
          have hO : soonO y p ms ks fr long = if holdV y.d p ms ks then (timesV y fr).find? (okAt y p long) else none := rfl
          have hpc := (holdE_0 z2).1
          have TI := Lib.hid (fun x (hx : x ∈ timesV y fr) => times_in z4 hx)
          have TR := Lib.hid (times_rise y fr)
          have hbs := Lib.hid (fun a (h0 : 0 ≤ a) (hm : a + long ≤ 1099511627776) => busy_sets (chk_0 z1) hpc h0 (by omega : 1 ≤ long) hm)
          have TL : (timesV y fr).length ≤ 100000000 := times_len hal
          rw [z4] at K3
          cases hx : holdV y.d p ms ks with
          | false =>
            rw [hx] at K2
            rw [hx, if_neg (by decide)] at hO
            obtain ⟨hE, hV⟩ := hso.1 hO
            rw [hE, hV]
            generalize timesV y fr = L at *
            clear z1 z2 hE hV hso hO hpc TI TR hbs hx hA z4 K4
            go_enter Tryz.func14, Tryz.ntmps14
            go_wp2_with fail
            refine (K1.out _ (by (repeat (first | (with_reducible exact Below.refl _ _) | (with_reducible assumption) | (with_reducible refine below_alloc ?_ _) | (with_reducible refine below_drewN ?_ _) | (with_reducible refine Below.drew ?_) | (with_reducible refine below_then ?_ (by with_reducible assumption)) | (with_reducible refine Below.setCell ?_ (by go_size) _))))).mono ?_
            rintro e w1 ⟨rfl, hb⟩
            (have YB := Lib.hid (((Blk.new w 26 #[.int .i64 y.d.x, .int .i64 y.d.y, .int .i64 y.d.z, (.slice bn y.ns.length cn), (.slice bl y.ls.length cl)]).alloc (.cells #[.int .i64 p.b.b.x, .int .i64 p.b.b.y, .int .i64 p.b.b.z, .int .i64 p.b.s.x, .int .i64 p.b.s.y, .int .i64 p.b.s.z, .bool p.t0, .bool p.t1, .bool p.t2] 31)).below hb); have BP := Lib.hid ((by have := (Blk.new (w.alloc (.cells #[.int .i64 y.d.x, .int .i64 y.d.y, .int .i64 y.d.z, (.slice bn y.ns.length cn), (.slice bl y.ls.length cl)] 26)) 31 #[.int .i64 p.b.b.x, .int .i64 p.b.b.y, .int .i64 p.b.b.z, .int .i64 p.b.s.x, .int .i64 p.b.s.y, .int .i64 p.b.s.z, .bool p.t0, .bool p.t1, .bool p.t2]).below hb; rwa [World.size_alloc] at this : Blk w1 (w.heap.size + 1) 31 #[.int .i64 p.b.b.x, .int .i64 p.b.b.y, .int .i64 p.b.b.z, .int .i64 p.b.s.x, .int .i64 p.b.s.y, .int .i64 p.b.s.z, .bool p.t0, .bool p.t1, .bool p.t2])); have HB := Lib.hid (below_then (show Below w.heap.size w ((w.alloc (.cells #[.int .i64 y.d.x, .int .i64 y.d.y, .int .i64 y.d.z, (.slice bn y.ns.length cn), (.slice bl y.ls.length cl)] 26)).alloc (.cells #[.int .i64 p.b.b.x, .int .i64 p.b.b.y, .int .i64 p.b.b.z, .int .i64 p.b.s.x, .int .i64 p.b.s.y, .int .i64 p.b.s.z, .bool p.t0, .bool p.t1, .bool p.t2] 31)) by (repeat (first | (with_reducible exact Below.refl _ _) | (with_reducible assumption) | (with_reducible refine below_alloc ?_ _) | (with_reducible refine below_drewN ?_ _) | (with_reducible refine Below.drew ?_) | (with_reducible refine below_then ?_ (by with_reducible assumption)) | (with_reducible refine Below.setCell ?_ (by go_size) _)))) hb))
            clear hb
            (have y0 := (YB.out).cell 0 _ rfl; have y1 := (YB.out).cell 1 _ rfl; have y2 := (YB.out).cell 2 _ rfl; have y3 := (YB.out).cell 3 _ rfl; have y4 := (YB.out).cell 4 _ rfl)
            (have p0 := (BP.out).cell 0 _ rfl; have p1 := (BP.out).cell 1 _ rfl; have p2 := (BP.out).cell 2 _ rfl; have p3 := (BP.out).cell 3 _ rfl; have p4 := (BP.out).cell 4 _ rfl; have p5 := (BP.out).cell 5 _ rfl; have p6 := (BP.out).cell 6 _ rfl; have p7 := (BP.out).cell 7 _ rfl; have p8 := (BP.out).cell 8 _ rfl)
            go_wp2_with fail
            refine (K2.out _ HB.out).mono ?_
            rintro e w2 ⟨rfl, hb⟩
            (have YB := Lib.hid (YB.out.below hb); have BP := Lib.hid (BP.out.below hb); have HB := Lib.hid (below_then HB.out hb))
            clear hb
            (clear y0 y1 y2 y3 y4)
            (clear p0 p1 p2 p3 p4 p5 p6 p7 p8)
            (have y0 := (YB.out).cell 0 _ rfl; have y1 := (YB.out).cell 1 _ rfl; have y2 := (YB.out).cell 2 _ rfl; have y3 := (YB.out).cell 3 _ rfl; have y4 := (YB.out).cell 4 _ rfl)
            go_wp2_with fail
            refine (K3.out _ HB.out).mono ?_
            rintro e w3 ⟨vl, rfl, hvl, hb⟩
            obtain ⟨bL, cL, rfl, rdL⟩ := hvl.ex
            have RL := Lib.hid rdL
            (have YB := Lib.hid (YB.out.below hb); have BP := Lib.hid (BP.out.below hb); have HB := Lib.hid (below_then HB.out hb))
            clear hb hvl rdL K1 K2 K3
            (clear y0 y1 y2 y3 y4)
            go_wp2_with fail
            go_loopw [55] (fun i wr => i = .int .i64 0 ∧ Below w3.heap.size w3 wr) (fun _ _ => 0)
            case atStart => exact ⟨rfl, Below.refl _ _⟩
            case round =>
              obtain ⟨rfl, hbe⟩ := hrel
              have HBr := Lib.hid hbe
              clear hbe
              by_cases hlt : 0 < L.length
              · obtain ⟨b0, off, rfl, c0⟩ := RL.out 0 _ (wi_at hlt)
                have c1 := (HBr.out.cell (p := ⟨b0, off + 0, none⟩) (World.block_lt_of_cell? w3 _ c0)).trans c0
                have c2 : wr.cell? ⟨b0, off, none⟩ = some (.int .i64 L[0]) := by simpa using c1
                clear c0 c1
                generalize L[0] = a at *
                go_wp2_with fail
                go_returns
                exact ⟨rfl, HB.out.trans (HBr.out.mono HB.out.size)⟩
              · go_wp2_with fail
                go_returns
                exact ⟨rfl, HB.out.trans (HBr.out.mono HB.out.size)⟩
          | true =>
            rw [hx] at K2
            rw [hx, if_pos rfl] at hO
            rw [hO] at hso
            have HSO := Lib.hid hso
            generalize soonE y p ms ks fr long = E at *
            generalize soonV y p ms ks fr long = V at *
            have hok := Lib.hid (fun a => (show okAt y p long a = (!lateB long a && freeAt y (midsV y.d p) (linksV y.d p) long a) from rfl))
            clear z1 z2 hso hO hpc hx hA z4
            generalize timesV y fr = L at *
            go_enter Tryz.func14, Tryz.ntmps14
            go_wp2_with fail
            refine (K1.out _ (by (repeat (first | (with_reducible exact Below.refl _ _) | (with_reducible assumption) | (with_reducible refine below_alloc ?_ _) | (with_reducible refine below_drewN ?_ _) | (with_reducible refine Below.drew ?_) | (with_reducible refine below_then ?_ (by with_reducible assumption)) | (with_reducible refine Below.setCell ?_ (by go_size) _))))).mono ?_
            rintro e w1 ⟨rfl, hb⟩
            (have YB := Lib.hid (((Blk.new w 26 #[.int .i64 y.d.x, .int .i64 y.d.y, .int .i64 y.d.z, (.slice bn y.ns.length cn), (.slice bl y.ls.length cl)]).alloc (.cells #[.int .i64 p.b.b.x, .int .i64 p.b.b.y, .int .i64 p.b.b.z, .int .i64 p.b.s.x, .int .i64 p.b.s.y, .int .i64 p.b.s.z, .bool p.t0, .bool p.t1, .bool p.t2] 31)).below hb); have BP := Lib.hid ((by have := (Blk.new (w.alloc (.cells #[.int .i64 y.d.x, .int .i64 y.d.y, .int .i64 y.d.z, (.slice bn y.ns.length cn), (.slice bl y.ls.length cl)] 26)) 31 #[.int .i64 p.b.b.x, .int .i64 p.b.b.y, .int .i64 p.b.b.z, .int .i64 p.b.s.x, .int .i64 p.b.s.y, .int .i64 p.b.s.z, .bool p.t0, .bool p.t1, .bool p.t2]).below hb; rwa [World.size_alloc] at this : Blk w1 (w.heap.size + 1) 31 #[.int .i64 p.b.b.x, .int .i64 p.b.b.y, .int .i64 p.b.b.z, .int .i64 p.b.s.x, .int .i64 p.b.s.y, .int .i64 p.b.s.z, .bool p.t0, .bool p.t1, .bool p.t2])); have HB := Lib.hid (below_then (show Below w.heap.size w ((w.alloc (.cells #[.int .i64 y.d.x, .int .i64 y.d.y, .int .i64 y.d.z, (.slice bn y.ns.length cn), (.slice bl y.ls.length cl)] 26)).alloc (.cells #[.int .i64 p.b.b.x, .int .i64 p.b.b.y, .int .i64 p.b.b.z, .int .i64 p.b.s.x, .int .i64 p.b.s.y, .int .i64 p.b.s.z, .bool p.t0, .bool p.t1, .bool p.t2] 31)) by (repeat (first | (with_reducible exact Below.refl _ _) | (with_reducible assumption) | (with_reducible refine below_alloc ?_ _) | (with_reducible refine below_drewN ?_ _) | (with_reducible refine Below.drew ?_) | (with_reducible refine below_then ?_ (by with_reducible assumption)) | (with_reducible refine Below.setCell ?_ (by go_size) _)))) hb))
            clear hb
            (have y0 := (YB.out).cell 0 _ rfl; have y1 := (YB.out).cell 1 _ rfl; have y2 := (YB.out).cell 2 _ rfl; have y3 := (YB.out).cell 3 _ rfl; have y4 := (YB.out).cell 4 _ rfl)
            (have p0 := (BP.out).cell 0 _ rfl; have p1 := (BP.out).cell 1 _ rfl; have p2 := (BP.out).cell 2 _ rfl; have p3 := (BP.out).cell 3 _ rfl; have p4 := (BP.out).cell 4 _ rfl; have p5 := (BP.out).cell 5 _ rfl; have p6 := (BP.out).cell 6 _ rfl; have p7 := (BP.out).cell 7 _ rfl; have p8 := (BP.out).cell 8 _ rfl)
            go_wp2_with fail
            refine (K2.out _ HB.out).mono ?_
            rintro e w2 ⟨rfl, hb⟩
            (have YB := Lib.hid (YB.out.below hb); have BP := Lib.hid (BP.out.below hb); have HB := Lib.hid (below_then HB.out hb))
            clear hb
            (clear y0 y1 y2 y3 y4)
            (clear p0 p1 p2 p3 p4 p5 p6 p7 p8)
            (have y0 := (YB.out).cell 0 _ rfl; have y1 := (YB.out).cell 1 _ rfl; have y2 := (YB.out).cell 2 _ rfl; have y3 := (YB.out).cell 3 _ rfl; have y4 := (YB.out).cell 4 _ rfl)
            go_wp2_with fail
            refine (K3.out _ HB.out).mono ?_
            rintro e w3 ⟨vl, rfl, hvl, hb⟩
            obtain ⟨bL, cL, rfl, rdL⟩ := hvl.ex
            have RL := Lib.hid rdL
            (have YB := Lib.hid (YB.out.below hb); have BP := Lib.hid (BP.out.below hb); have HB := Lib.hid (below_then HB.out hb))
            clear hb hvl rdL K1 K2 K3
            (clear y0 y1 y2 y3 y4)
            go_wp2_with fail
            go_loopw [55] (fun i wr => ∃ k : Nat, k ≤ L.length ∧ i = .int .i64 k ∧ (L.take k).find? (okAt y p long) = none ∧ Below w3.heap.size w3 wr) (fun i _ => L.length - (intOf i).toNat)
            case atStart => exact ⟨0, Nat.zero_le _, rfl, rfl, Below.refl _ _⟩
            case round =>
              obtain ⟨k, hk, rfl, hfn, hbe⟩ := hrel
              have HBr := Lib.hid hbe
              have HF := Lib.hid hfn
              clear hbe hfn
              by_cases hlt : k < L.length
              · obtain ⟨b0, off, rfl, c0⟩ := RL.out k _ (wi_at hlt)
                have c1 := (HBr.out.cell (p := ⟨b0, off + k, none⟩) (World.block_lt_of_cell? w3 _ c0)).trans c0
                obtain ⟨t1, t2, t3⟩ := TI.out L[k] (List.getElem_mem hlt)
                have hlate := Lib.hid (fun h => find_late TR.out hlt HF.out h)
                have hhere := Lib.hid (fun h => find_here hlt HF.out h)
                have hnext := Lib.hid (fun h => find_next hlt HF.out h)
                obtain ⟨a, ha⟩ : ∃ a, a = L[k] := ⟨_, rfl⟩
                rw [← ha] at c1 t1 t2 t3 hlate hhere hnext
                clear c0 ha
                by_cases hl : 1099511627776 - a < long
                · have hq : decide (1099511627776 - a < long) = true := decide_eq_true hl
                  obtain ⟨hE, hV⟩ := HSO.out.1 (hlate.out hq)
                  have HE := Lib.hid hE
                  have HV := Lib.hid hV
                  clear hl hE hV
                  go_wp2_with fail
                  go_returns
                  exact ⟨by rw [HE.out, HV.out]; rfl, HB.out.trans (HBr.out.mono HB.out.size)⟩
                · have hq : decide (1099511627776 - a < long) = false := decide_eq_false hl
                  have hm : a + long ≤ 1099511627776 := by omega
                  obtain ⟨f1, f2, f3⟩ := hbs.out a t2 hm
                  have hok1 : okAt y p long a = freeAt y (midsV y.d p) (linksV y.d p) long a := by
                    rw [hok.out, show lateB long a = false from hq]
                    rfl
                  have hhv : holdV y.d p (busyV y a (a + long)).1 (busyV y a (a + long)).2 = freeAt y (midsV y.d p) (linksV y.d p) long a := by rw [← f3]; exact if_pos f2
                  have KB := Lib.hid (fun W (h : Below w.heap.size w W) => by have hh := K4.out a (a + long) W h; rw [f1] at hh; exact hh)
                  have KH := Lib.hid (fun W u' v' (h1 : SS W u' (busyV y a (a + long)).1) (h2 : SS W v' (busyV y a (a + long)).2) => by have hh := free_Holds y.d p u' v' _ _ W h1 h2; rw [f2, hhv] at hh; exact hh)
                  rw [hok1] at hhere hnext
                  have YBr := YB.out.below HBr.out
                  have BPr := BP.out.below HBr.out
                  (have y0 := (YBr).cell 0 _ rfl; have y1 := (YBr).cell 1 _ rfl; have y2 := (YBr).cell 2 _ rfl; have y3 := (YBr).cell 3 _ rfl; have y4 := (YBr).cell 4 _ rfl)
                  (have p0 := (BPr).cell 0 _ rfl; have p1 := (BPr).cell 1 _ rfl; have p2 := (BPr).cell 2 _ rfl; have p3 := (BPr).cell 3 _ rfl; have p4 := (BPr).cell 4 _ rfl; have p5 := (BPr).cell 5 _ rfl; have p6 := (BPr).cell 6 _ rfl; have p7 := (BPr).cell 7 _ rfl; have p8 := (BPr).cell 8 _ rfl)
                  generalize freeAt y (midsV y.d p) (linksV y.d p) long a = fa at *
                  generalize (busyV y a (a + long)).1 = B1 at *
                  generalize (busyV y a (a + long)).2 = B2 at *
                  clear hok1 hhv f1 f2 f3 YBr BPr hlate hl
                  go_wp2_with fail
                  refine (KB.out _ (HB.out.trans (HBr.out.mono HB.out.size))).mono ?_
                  rintro e w4 ⟨x1, x2, rfl, X1, X2, hb⟩
                  have X1 := Lib.hid X1
                  have X2 := Lib.hid X2
                  have HBr := Lib.hid (HBr.out.trans (hb.mono HBr.out.size))
                  clear hb
                  (clear y0 y1 y2 y3 y4)
                  (clear p0 p1 p2 p3 p4 p5 p6 p7 p8)
                  have YBr := YB.out.below HBr.out
                  have BPr := BP.out.below HBr.out
                  (have y0 := (YBr).cell 0 _ rfl; have y1 := (YBr).cell 1 _ rfl; have y2 := (YBr).cell 2 _ rfl; have y3 := (YBr).cell 3 _ rfl; have y4 := (YBr).cell 4 _ rfl)
                  (have p0 := (BPr).cell 0 _ rfl; have p1 := (BPr).cell 1 _ rfl; have p2 := (BPr).cell 2 _ rfl; have p3 := (BPr).cell 3 _ rfl; have p4 := (BPr).cell 4 _ rfl; have p5 := (BPr).cell 5 _ rfl; have p6 := (BPr).cell 6 _ rfl; have p7 := (BPr).cell 7 _ rfl; have p8 := (BPr).cell 8 _ rfl)
                  clear YBr BPr c1
                  go_wp2_with fail
                  refine (KH.out _ _ _ X1.out X2.out).mono ?_
                  rintro e w5 ⟨rfl, hb⟩
                  have HBr := Lib.hid (HBr.out.trans (hb.mono HBr.out.size))
                  clear hb X1 X2 KH KB
                  (clear y0 y1 y2 y3 y4)
                  (clear p0 p1 p2 p3 p4 p5 p6 p7 p8)
                  cases hfa : fa with
                  | true =>
                    obtain ⟨hE, hV⟩ := HSO.out.2 a (hhere.out hfa)
                    have HE := Lib.hid hE
                    have HV := Lib.hid hV
                    clear hfa hE hV
                    go_wp2_with fail
                    go_returns
                    exact ⟨by rw [HE.out, HV.out]; rfl, HB.out.trans (HBr.out.mono HB.out.size)⟩
                  | false =>
                    have HN := Lib.hid (hnext.out hfa)
                    clear hfa
                    go_wp2_with fail
                    go_roundw
                    case rel => exact ⟨k + 1, by omega, by go_num, HN.out, HBr.out⟩
                    case measure => (simp [intOf] <;> omega)
              · obtain rfl : k = L.length := by omega
                have hfn := HF.out
                rw [List.take_length] at hfn
                obtain ⟨hE, hV⟩ := HSO.out.1 hfn
                have HE := Lib.hid hE
                have HV := Lib.hid hV
                clear hfn hE hV
                go_wp2_with fail
                go_returns
                exact ⟨by rw [HE.out, HV.out]; rfl, HB.out.trans (HBr.out.mono HB.out.size)⟩
        · obtain ⟨hE, hV⟩ := soon_2 (fr := fr) z1 z2 (show soonA y fr long ≠ 0 by rw [hA]; exact z4)
          rw [hE, hV]
          have h2 : timesE y fr = 2 := by
            unfold timesE at z4 ⊢
            rw [chk_0 z1, if_pos rfl] at z4 ⊢
            split at z4
            · exact absurd rfl z4
            · next h => rw [if_neg h]
          rw [h2] at K3
          generalize holdV y.d p ms ks = x at *
          generalize timesV y fr = L at *
          clear z1 z2 hE hV hA z4 h2
          go_enter Tryz.func14, Tryz.ntmps14
          go_wp2_with fail
          refine (K1.out _ (by (repeat (first | (with_reducible exact Below.refl _ _) | (with_reducible assumption) | (with_reducible refine below_alloc ?_ _) | (with_reducible refine below_drewN ?_ _) | (with_reducible refine Below.drew ?_) | (with_reducible refine below_then ?_ (by with_reducible assumption)) | (with_reducible refine Below.setCell ?_ (by go_size) _))))).mono ?_
          rintro e w1 ⟨rfl, hb⟩
          (have YB := Lib.hid (((Blk.new w 26 #[.int .i64 y.d.x, .int .i64 y.d.y, .int .i64 y.d.z, (.slice bn y.ns.length cn), (.slice bl y.ls.length cl)]).alloc (.cells #[.int .i64 p.b.b.x, .int .i64 p.b.b.y, .int .i64 p.b.b.z, .int .i64 p.b.s.x, .int .i64 p.b.s.y, .int .i64 p.b.s.z, .bool p.t0, .bool p.t1, .bool p.t2] 31)).below hb); have BP := Lib.hid ((by have := (Blk.new (w.alloc (.cells #[.int .i64 y.d.x, .int .i64 y.d.y, .int .i64 y.d.z, (.slice bn y.ns.length cn), (.slice bl y.ls.length cl)] 26)) 31 #[.int .i64 p.b.b.x, .int .i64 p.b.b.y, .int .i64 p.b.b.z, .int .i64 p.b.s.x, .int .i64 p.b.s.y, .int .i64 p.b.s.z, .bool p.t0, .bool p.t1, .bool p.t2]).below hb; rwa [World.size_alloc] at this : Blk w1 (w.heap.size + 1) 31 #[.int .i64 p.b.b.x, .int .i64 p.b.b.y, .int .i64 p.b.b.z, .int .i64 p.b.s.x, .int .i64 p.b.s.y, .int .i64 p.b.s.z, .bool p.t0, .bool p.t1, .bool p.t2])); have HB := Lib.hid (below_then (show Below w.heap.size w ((w.alloc (.cells #[.int .i64 y.d.x, .int .i64 y.d.y, .int .i64 y.d.z, (.slice bn y.ns.length cn), (.slice bl y.ls.length cl)] 26)).alloc (.cells #[.int .i64 p.b.b.x, .int .i64 p.b.b.y, .int .i64 p.b.b.z, .int .i64 p.b.s.x, .int .i64 p.b.s.y, .int .i64 p.b.s.z, .bool p.t0, .bool p.t1, .bool p.t2] 31)) by (repeat (first | (with_reducible exact Below.refl _ _) | (with_reducible assumption) | (with_reducible refine below_alloc ?_ _) | (with_reducible refine below_drewN ?_ _) | (with_reducible refine Below.drew ?_) | (with_reducible refine below_then ?_ (by with_reducible assumption)) | (with_reducible refine Below.setCell ?_ (by go_size) _)))) hb))
          clear hb
          (have y0 := (YB.out).cell 0 _ rfl; have y1 := (YB.out).cell 1 _ rfl; have y2 := (YB.out).cell 2 _ rfl; have y3 := (YB.out).cell 3 _ rfl; have y4 := (YB.out).cell 4 _ rfl)
          (have p0 := (BP.out).cell 0 _ rfl; have p1 := (BP.out).cell 1 _ rfl; have p2 := (BP.out).cell 2 _ rfl; have p3 := (BP.out).cell 3 _ rfl; have p4 := (BP.out).cell 4 _ rfl; have p5 := (BP.out).cell 5 _ rfl; have p6 := (BP.out).cell 6 _ rfl; have p7 := (BP.out).cell 7 _ rfl; have p8 := (BP.out).cell 8 _ rfl)
          go_wp2_with fail
          refine (K2.out _ HB.out).mono ?_
          rintro e w2 ⟨rfl, hb⟩
          (have YB := Lib.hid (YB.out.below hb); have BP := Lib.hid (BP.out.below hb); have HB := Lib.hid (below_then HB.out hb))
          clear hb
          (clear y0 y1 y2 y3 y4)
          (clear p0 p1 p2 p3 p4 p5 p6 p7 p8)
          (have y0 := (YB.out).cell 0 _ rfl; have y1 := (YB.out).cell 1 _ rfl; have y2 := (YB.out).cell 2 _ rfl; have y3 := (YB.out).cell 3 _ rfl; have y4 := (YB.out).cell 4 _ rfl)
          go_wp2_with fail
          refine (K3.out _ HB.out).mono ?_
          rintro e w3 ⟨vl, rfl, _, hb⟩
          (have YB := Lib.hid (YB.out.below hb); have BP := Lib.hid (BP.out.below hb); have HB := Lib.hid (below_then HB.out hb))
          clear hb
          (clear y0 y1 y2 y3 y4)
          go_wp2_with fail
          go_returns
          exact ⟨rfl, HB.out⟩
    · obtain ⟨hE, hV⟩ := soon_h (fr := fr) (long := long) z1 z2
      have hy2 : (holdE y.d p ms ks != 0) = true := by simpa using z2
      rw [hE, hV]
      generalize holdV y.d p ms ks = x at *
      generalize holdE y.d p ms ks = ex at *
      clear z1 z2 hE hV
      go_enter Tryz.func14, Tryz.ntmps14
      go_wp2_with fail
      refine (K1.out _ (by (repeat (first | (with_reducible exact Below.refl _ _) | (with_reducible assumption) | (with_reducible refine below_alloc ?_ _) | (with_reducible refine below_drewN ?_ _) | (with_reducible refine Below.drew ?_) | (with_reducible refine below_then ?_ (by with_reducible assumption)) | (with_reducible refine Below.setCell ?_ (by go_size) _))))).mono ?_
      rintro e w1 ⟨rfl, hb⟩
      (have YB := Lib.hid (((Blk.new w 26 #[.int .i64 y.d.x, .int .i64 y.d.y, .int .i64 y.d.z, (.slice bn y.ns.length cn), (.slice bl y.ls.length cl)]).alloc (.cells #[.int .i64 p.b.b.x, .int .i64 p.b.b.y, .int .i64 p.b.b.z, .int .i64 p.b.s.x, .int .i64 p.b.s.y, .int .i64 p.b.s.z, .bool p.t0, .bool p.t1, .bool p.t2] 31)).below hb); have BP := Lib.hid ((by have := (Blk.new (w.alloc (.cells #[.int .i64 y.d.x, .int .i64 y.d.y, .int .i64 y.d.z, (.slice bn y.ns.length cn), (.slice bl y.ls.length cl)] 26)) 31 #[.int .i64 p.b.b.x, .int .i64 p.b.b.y, .int .i64 p.b.b.z, .int .i64 p.b.s.x, .int .i64 p.b.s.y, .int .i64 p.b.s.z, .bool p.t0, .bool p.t1, .bool p.t2]).below hb; rwa [World.size_alloc] at this : Blk w1 (w.heap.size + 1) 31 #[.int .i64 p.b.b.x, .int .i64 p.b.b.y, .int .i64 p.b.b.z, .int .i64 p.b.s.x, .int .i64 p.b.s.y, .int .i64 p.b.s.z, .bool p.t0, .bool p.t1, .bool p.t2])); have HB := Lib.hid (below_then (show Below w.heap.size w ((w.alloc (.cells #[.int .i64 y.d.x, .int .i64 y.d.y, .int .i64 y.d.z, (.slice bn y.ns.length cn), (.slice bl y.ls.length cl)] 26)).alloc (.cells #[.int .i64 p.b.b.x, .int .i64 p.b.b.y, .int .i64 p.b.b.z, .int .i64 p.b.s.x, .int .i64 p.b.s.y, .int .i64 p.b.s.z, .bool p.t0, .bool p.t1, .bool p.t2] 31)) by (repeat (first | (with_reducible exact Below.refl _ _) | (with_reducible assumption) | (with_reducible refine below_alloc ?_ _) | (with_reducible refine below_drewN ?_ _) | (with_reducible refine Below.drew ?_) | (with_reducible refine below_then ?_ (by with_reducible assumption)) | (with_reducible refine Below.setCell ?_ (by go_size) _)))) hb))
      clear hb
      (have y0 := (YB.out).cell 0 _ rfl; have y1 := (YB.out).cell 1 _ rfl; have y2 := (YB.out).cell 2 _ rfl; have y3 := (YB.out).cell 3 _ rfl; have y4 := (YB.out).cell 4 _ rfl)
      (have p0 := (BP.out).cell 0 _ rfl; have p1 := (BP.out).cell 1 _ rfl; have p2 := (BP.out).cell 2 _ rfl; have p3 := (BP.out).cell 3 _ rfl; have p4 := (BP.out).cell 4 _ rfl; have p5 := (BP.out).cell 5 _ rfl; have p6 := (BP.out).cell 6 _ rfl; have p7 := (BP.out).cell 7 _ rfl; have p8 := (BP.out).cell 8 _ rfl)
      go_wp2_with fail
      refine (K2.out _ HB.out).mono ?_
      rintro e w2 ⟨rfl, hb⟩
      (have YB := Lib.hid (YB.out.below hb); have BP := Lib.hid (BP.out.below hb); have HB := Lib.hid (below_then HB.out hb))
      clear hb
      (clear y0 y1 y2 y3 y4)
      (clear p0 p1 p2 p3 p4 p5 p6 p7 p8)
      go_wp2_with fail
      go_returns
      exact ⟨rfl, HB.out⟩
  · obtain ⟨hE, hV⟩ := soon_8 (p := p) (ms := ms) (ks := ks) (fr := fr) (long := long) z1
    have h8 : y.chk = 8 := by
      unfold Yd.chk at z1 ⊢
      cases ho : y.okB with
      | true => rw [ho] at z1; exact absurd rfl z1
      | false => rfl
    rw [h8] at K1
    rw [hE, hV]
    clear z1 hE hV h8
    go_enter Tryz.func14, Tryz.ntmps14
    go_wp2_with fail
    refine (K1.out _ (by (repeat (first | (with_reducible exact Below.refl _ _) | (with_reducible assumption) | (with_reducible refine below_alloc ?_ _) | (with_reducible refine below_drewN ?_ _) | (with_reducible refine Below.drew ?_) | (with_reducible refine below_then ?_ (by with_reducible assumption)) | (with_reducible refine Below.setCell ?_ (by go_size) _))))).mono ?_
    rintro e w1 ⟨rfl, hb⟩
    (have YB := Lib.hid (((Blk.new w 26 #[.int .i64 y.d.x, .int .i64 y.d.y, .int .i64 y.d.z, (.slice bn y.ns.length cn), (.slice bl y.ls.length cl)]).alloc (.cells #[.int .i64 p.b.b.x, .int .i64 p.b.b.y, .int .i64 p.b.b.z, .int .i64 p.b.s.x, .int .i64 p.b.s.y, .int .i64 p.b.s.z, .bool p.t0, .bool p.t1, .bool p.t2] 31)).below hb); have BP := Lib.hid ((by have := (Blk.new (w.alloc (.cells #[.int .i64 y.d.x, .int .i64 y.d.y, .int .i64 y.d.z, (.slice bn y.ns.length cn), (.slice bl y.ls.length cl)] 26)) 31 #[.int .i64 p.b.b.x, .int .i64 p.b.b.y, .int .i64 p.b.b.z, .int .i64 p.b.s.x, .int .i64 p.b.s.y, .int .i64 p.b.s.z, .bool p.t0, .bool p.t1, .bool p.t2]).below hb; rwa [World.size_alloc] at this : Blk w1 (w.heap.size + 1) 31 #[.int .i64 p.b.b.x, .int .i64 p.b.b.y, .int .i64 p.b.b.z, .int .i64 p.b.s.x, .int .i64 p.b.s.y, .int .i64 p.b.s.z, .bool p.t0, .bool p.t1, .bool p.t2])); have HB := Lib.hid (below_then (show Below w.heap.size w ((w.alloc (.cells #[.int .i64 y.d.x, .int .i64 y.d.y, .int .i64 y.d.z, (.slice bn y.ns.length cn), (.slice bl y.ls.length cl)] 26)).alloc (.cells #[.int .i64 p.b.b.x, .int .i64 p.b.b.y, .int .i64 p.b.b.z, .int .i64 p.b.s.x, .int .i64 p.b.s.y, .int .i64 p.b.s.z, .bool p.t0, .bool p.t1, .bool p.t2] 31)) by (repeat (first | (with_reducible exact Below.refl _ _) | (with_reducible assumption) | (with_reducible refine below_alloc ?_ _) | (with_reducible refine below_drewN ?_ _) | (with_reducible refine Below.drew ?_) | (with_reducible refine below_then ?_ (by with_reducible assumption)) | (with_reducible refine Below.setCell ?_ (by go_size) _)))) hb))
    clear hb
    go_wp2_with fail
    go_returns
    exact ⟨rfl, HB.out⟩
end
end Go.Proofs.YtofoenlhbmammaaGreat
