/- ScoreSpread: how scattered what is free is turns by a place's open sides: the call returns true. -/
import Derived.Test.YthabpiphfaedaaaDoorSpreadL
import Derived.Test.YthabpiphfaedaaaDoorScoreAlive
import Derived.Test.YthabpiphfaedaaaDoorRowPlace
import Derived.Test.YthabpiphfaedaaaDoorRowTab
import Derived.Test.YthabpiphfaedaaaDoorRound
namespace Go.Proofs.YthabpiphfaedaaaDoor
open Go.ChangeShapes Go.WideShapes Go.ChangeAt Go.RowKit Go.Shelf

set_option maxRecDepth 100000 in set_option maxHeartbeats 4000000 in
theorem law14_ScoreSpread (d : V3) (p : Pl) (bs : Option Addr) (cs : Nat) (s : List Nat) (w : World) (hs : Rd w bs (wcells s) ∧ W64 s)
    (hT : TabAt 0 Lib.deBruijn64tab w) (hg : 0 < w.heap.size) :
    Calls Tryd.prog 6 #[.agg #[.int .i64 d.x, .int .i64 d.y, .int .i64 d.z], .agg #[.int .i64 p.b.b.x, .int .i64 p.b.b.y, .int .i64 p.b.b.z, .int .i64 p.b.s.x, .int .i64 p.b.s.y, .int .i64 p.b.s.z, .bool p.t0, .bool p.t1, .bool p.t2], .slice bs s.length cs] w (RB w (.bool true)) := by
  have HA := Lib.hid (fun W (hw : Below w.heap.size w W) => law14_alive W (tab_keep' hT hg hw).1 (tab_keep' hT hg hw).2)
  by_cases l1 : s.length ≤ 100
  · have S := SetIn.mk hs.1 (by omega) hs.2
    have H1 := Lib.hid (fun W (hw : Below w.heap.size w W) => score_Spread d bs cs s W (S.keep hw) (tab_keep' hT hg hw).1 (tab_keep' hT hg hw).2)
    have HS := Lib.hid (fun W => place_Sets d p W)
    by_cases hok : oneE d s = 0 ∧ plChk d p = 0
    · obtain ⟨ho, hp⟩ := hok
      obtain ⟨i0, hi, iz0, iz1, iz2⟩ := info_parts infoInt
      have pf := pl_facts hp
      obtain ⟨hd, hc⟩ := oneE_0 ho
      have hn := V3.n_pos hd
      obtain ⟨m, hm⟩ : ∃ m : Nat, d.n = (m : Int) := ⟨d.n.toNat, by omega⟩
      have hqm : d.x * d.y * d.z = (m : Int) := hm
      have hxy := V3.xy_le hd
      have c2 := sChk2_of pf.mChk hc
      have FM := Lib.hid (And.intro (midsV_fit d p) (midsV_len d p))
      have HMeet := Lib.hid (fun ba ca W (hw : Below w.heap.size w W) (h : SetIn W ba (midsV d p)) => by have := set_Meet d.n ba bs ca cs (midsV d p) s W h (S.keep hw); rw [c2, hm] at this; exact this)
      have HF := Lib.hid (fun h => spread_facts hp ho hs.2 h)
      have HOr := Lib.hid (fun ba ca W (hw : Below w.heap.size w W) (h : SetIn W ba (midsV d p)) => by have := (show Calls Tryd.prog 25 #[.int .i64 d.n, .slice ba (midsV d p).length ca, .slice bs s.length cs] W (RUE W (joinIf orW d.n (midsV d p) s) (sChk2 d.n (midsV d p) s)) from set_Or d.n ba bs ca cs (midsV d p) s W h (S.keep hw)); rw [c2] at this; exact this)
      have HY := Lib.hid (fun ba ca W (hw : Below w.heap.size w W) (h : SetIn W ba (midsV d p)) => score_Open d ba bs ca cs (midsV d p) s W h (S.keep hw) (tab_keep' hT hg hw).1 (tab_keep' hT hg hw).2)
      have hof := (setOf_facts (n := d.n) (l := rangeL m) (by unfold nMay; omega) (by rw [rangeL_len]; omega) (fun x hx => by have := mem_rangeL.1 hx; omega)).1
      have HOf := Lib.hid (fun ba ca W (h : LIn W ba (rangeL m)) => by have := set_Of d.n ba ca (rangeL m) W h; rw [hof] at this; exact this)
      have FO := Lib.hid (And.intro (ofSet_fit' d.n (rangeL m)) (ofSet_len' d.n (rangeL m)))
      rw [ho] at H1
      rw [hp] at HS
      by_cases hmt : anyNZ (joinIf andW d.n (midsV d p) s) = true
      · rw [hm] at hmt
        have HMT := Lib.hid (fun ba ca W hw h => by have := HMeet.out ba ca W hw h; rw [hmt] at this; exact this)
        clear hs hT hg S ho hp pf hd hc hof hmt HF HOr HY HOf FO HMeet c2
        rw [hm] at hn
        clear hm
        generalize midsV d p = A at *
        generalize linksV d p = B at *
        generalize spreadV d s = P1 at *
        (go_enter Tryd.func6, Tryd.ntmps6; go_wp2_with fail; refine (HA.out _ (by (repeat (first | (with_reducible exact Below.refl _ _) | (with_reducible assumption) | (with_reducible refine below_alloc ?_ _) | (with_reducible refine below_drewN ?_ _) | (with_reducible refine Below.drew ?_) | (with_reducible refine below_then ?_ (by with_reducible assumption)) | (with_reducible refine Below.setCell ?_ (by go_size) _))))).mono ?_; rintro e w1 ⟨rfl, hb⟩; have BD := Lib.hid (((Blk.new w 23 #[.int .i64 d.x, .int .i64 d.y, .int .i64 d.z]).alloc (.cells #[.int .i64 p.b.b.x, .int .i64 p.b.b.y, .int .i64 p.b.b.z, .int .i64 p.b.s.x, .int .i64 p.b.s.y, .int .i64 p.b.s.z, .bool p.t0, .bool p.t1, .bool p.t2] 28)).below hb); have bp := (Blk.new (w.alloc (.cells #[.int .i64 d.x, .int .i64 d.y, .int .i64 d.z] 23)) 28 #[.int .i64 p.b.b.x, .int .i64 p.b.b.y, .int .i64 p.b.b.z, .int .i64 p.b.s.x, .int .i64 p.b.s.y, .int .i64 p.b.s.z, .bool p.t0, .bool p.t1, .bool p.t2]).below hb; simp only [World.size_alloc] at bp; have BP := Lib.hid bp; have HB := Lib.hid (below_then (show Below w.heap.size w ((w.alloc (.cells #[.int .i64 d.x, .int .i64 d.y, .int .i64 d.z] 23)).alloc (.cells #[.int .i64 p.b.b.x, .int .i64 p.b.b.y, .int .i64 p.b.b.z, .int .i64 p.b.s.x, .int .i64 p.b.s.y, .int .i64 p.b.s.z, .bool p.t0, .bool p.t1, .bool p.t2] 28)) by (repeat (first | (with_reducible exact Below.refl _ _) | (with_reducible assumption) | (with_reducible refine below_alloc ?_ _) | (with_reducible refine below_drewN ?_ _) | (with_reducible refine Below.drew ?_) | (with_reducible refine below_then ?_ (by with_reducible assumption)) | (with_reducible refine Below.setCell ?_ (by go_size) _)))) hb); clear hb bp; ((have d0 := (BD.out).cell 0 _ rfl; have d1 := (BD.out).cell 1 _ rfl; have d2 := (BD.out).cell 2 _ rfl); (have p0 := (BP.out).cell 0 _ rfl; have p1 := (BP.out).cell 1 _ rfl; have p2 := (BP.out).cell 2 _ rfl; have p3 := (BP.out).cell 3 _ rfl; have p4 := (BP.out).cell 4 _ rfl; have p5 := (BP.out).cell 5 _ rfl; have p6 := (BP.out).cell 6 _ rfl; have p7 := (BP.out).cell 7 _ rfl; have p8 := (BP.out).cell 8 _ rfl); go_wp2_with fail); refine (H1.out _ HB.out).mono ?_; rintro e w2 ⟨rfl, hb⟩; (have BD := Lib.hid (BD.out.below hb); have BP := Lib.hid (BP.out.below hb); have HB := Lib.hid (below_then HB.out hb)); clear hb; (clear d0 d1 d2); (clear p0 p1 p2 p3 p4 p5 p6 p7 p8); ((have d0 := (BD.out).cell 0 _ rfl; have d1 := (BD.out).cell 1 _ rfl; have d2 := (BD.out).cell 2 _ rfl); (have p0 := (BP.out).cell 0 _ rfl; have p1 := (BP.out).cell 1 _ rfl; have p2 := (BP.out).cell 2 _ rfl; have p3 := (BP.out).cell 3 _ rfl; have p4 := (BP.out).cell 4 _ rfl; have p5 := (BP.out).cell 5 _ rfl; have p6 := (BP.out).cell 6 _ rfl; have p7 := (BP.out).cell 7 _ rfl; have p8 := (BP.out).cell 8 _ rfl); go_wp2_with fail); refine (HS.out _).mono ?_; rintro e w3 ⟨v1, u1, rfl, q1, r1, hb⟩)
        obtain ⟨ba, ca, rfl, sa, _⟩ := set_of_own q1 (by have := FM.out.2; omega) FM.out.1
        have SA := Lib.hid sa
        (have BD := Lib.hid (BD.out.below hb); have BP := Lib.hid (BP.out.below hb); have HB := Lib.hid (below_then HB.out hb))
        clear hb q1 r1 sa
        (clear d0 d1 d2)
        (clear p0 p1 p2 p3 p4 p5 p6 p7 p8)
        ((have d0 := (BD.out).cell 0 _ rfl; have d1 := (BD.out).cell 1 _ rfl; have d2 := (BD.out).cell 2 _ rfl); go_wp2_with fail)
        refine (HMT.out ba ca _ HB.out SA.out).mono ?_
        rintro e w4 ⟨rfl, hb⟩
        have HB4 := below_then HB.out hb
        clear hb
        (clear d0 d1 d2)
        go_wp2_with fail
        go_returns
        exact ⟨rfl, HB4⟩
      · have hmt : anyNZ (joinIf andW d.n (midsV d p) s) = false := by simpa using hmt
        have sf := HF.out hmt
        have HT2 := Lib.hid (fun bt ct W (hw : Below w.heap.size w W) (h : SetIn W bt (joinIf orW d.n (midsV d p) s)) => by have := score_Spread d bt ct (joinIf orW d.n (midsV d p) s) W h (tab_keep' hT hg hw).1 (tab_keep' hT hg hw).2; rw [sf.e1] at this; exact this)
        have ot := ot_facts hn sf.chk sf.fit
        have htn : d.n.toNat = m := by omega
        have HLe := Lib.hid (fun ba bt ca ct W (h1 : SetIn W ba (ofSet d.n (rangeL m))) (h2 : SetIn W bt (joinIf orW d.n (midsV d p) s)) => by
          have := (show Calls Tryd.prog 29 #[.int .i64 d.n, .slice ba (ofSet d.n (rangeL m)).length ca, .slice bt (joinIf orW d.n (midsV d p) s).length ct] W (RUE W (joinIf lessW d.n (ofSet d.n (rangeL m)) (joinIf orW d.n (midsV d p) s)) (sChk2 d.n (ofSet d.n (rangeL m)) (joinIf orW d.n (midsV d p) s))) from set_Less d.n ba bt ca ct (ofSet d.n (rangeL m)) (joinIf orW d.n (midsV d p) s) W h1 h2)
          have h3 := ot.c2
          rw [htn] at h3
          rw [h3, show joinIf lessW d.n (ofSet d.n (rangeL m)) (joinIf orW d.n (midsV d p) s) = othersV d.n (joinIf orW d.n (midsV d p) s) by unfold othersV; rw [htn]] at this
          exact this)
        have HX := Lib.hid (fun ba bf ca cf W (hw : Below w.heap.size w W) (h1 : SetIn W ba (midsV d p)) (h2 : SetIn W bf (othersV d.n (joinIf orW d.n (midsV d p) s))) => by have := score_Open d ba bf ca cf (midsV d p) (othersV d.n (joinIf orW d.n (midsV d p) s)) W h1 h2 (tab_keep' hT hg hw).1 (tab_keep' hT hg hw).2; rw [sf.e2] at this; exact this)
        have HY2 := Lib.hid (fun ba ca W hw h => by have := HY.out ba ca W hw h; rw [sf.e3] at this; exact this)
        have HM2 := Lib.hid (fun ba ca W hw h => by have := HMeet.out ba ca W hw h; rw [← hm, hmt] at this; exact this)
        have law := sf.law
        have FT := Lib.hid (And.intro sf.fit sf.len)
        have FF := Lib.hid (And.intro ot.fit ot.len)
        obtain ⟨x0, x1⟩ := openV_range' d (midsV d p) (othersV d.n (joinIf orW d.n (midsV d p) s))
        obtain ⟨y0, y1⟩ := openV_range' d (midsV d p) s
        obtain ⟨z0, z1⟩ := spreadV_range d s (S.fit)
        clear hs S ho hp pf hd hc hof hmt HF HY HMeet c2 sf ot htn hT hg
        rw [hm] at hn HOr HOf HLe FO HM2 HT2 law FT FF HX x0 x1
        clear hm
        generalize openV d (midsV d p) (othersV (m : Int) (joinIf orW (m : Int) (midsV d p) s)) = X at *
        generalize openV d (midsV d p) s = Y at *
        generalize othersV (m : Int) (joinIf orW (m : Int) (midsV d p) s) = F at *
        generalize spreadV d (joinIf orW (m : Int) (midsV d p) s) = P2 at *
        generalize joinIf orW (m : Int) (midsV d p) s = T at *
        generalize ofSet (m : Int) (rangeL m) = O at *
        generalize spreadV d s = P1 at *
        generalize midsV d p = A at *
        generalize linksV d p = B at *
        subst law
        (go_enter Tryd.func6, Tryd.ntmps6; go_wp2_with fail; refine (HA.out _ (by (repeat (first | (with_reducible exact Below.refl _ _) | (with_reducible assumption) | (with_reducible refine below_alloc ?_ _) | (with_reducible refine below_drewN ?_ _) | (with_reducible refine Below.drew ?_) | (with_reducible refine below_then ?_ (by with_reducible assumption)) | (with_reducible refine Below.setCell ?_ (by go_size) _))))).mono ?_; rintro e w1 ⟨rfl, hb⟩; have BD := Lib.hid (((Blk.new w 23 #[.int .i64 d.x, .int .i64 d.y, .int .i64 d.z]).alloc (.cells #[.int .i64 p.b.b.x, .int .i64 p.b.b.y, .int .i64 p.b.b.z, .int .i64 p.b.s.x, .int .i64 p.b.s.y, .int .i64 p.b.s.z, .bool p.t0, .bool p.t1, .bool p.t2] 28)).below hb); have bp := (Blk.new (w.alloc (.cells #[.int .i64 d.x, .int .i64 d.y, .int .i64 d.z] 23)) 28 #[.int .i64 p.b.b.x, .int .i64 p.b.b.y, .int .i64 p.b.b.z, .int .i64 p.b.s.x, .int .i64 p.b.s.y, .int .i64 p.b.s.z, .bool p.t0, .bool p.t1, .bool p.t2]).below hb; simp only [World.size_alloc] at bp; have BP := Lib.hid bp; have HB := Lib.hid (below_then (show Below w.heap.size w ((w.alloc (.cells #[.int .i64 d.x, .int .i64 d.y, .int .i64 d.z] 23)).alloc (.cells #[.int .i64 p.b.b.x, .int .i64 p.b.b.y, .int .i64 p.b.b.z, .int .i64 p.b.s.x, .int .i64 p.b.s.y, .int .i64 p.b.s.z, .bool p.t0, .bool p.t1, .bool p.t2] 28)) by (repeat (first | (with_reducible exact Below.refl _ _) | (with_reducible assumption) | (with_reducible refine below_alloc ?_ _) | (with_reducible refine below_drewN ?_ _) | (with_reducible refine Below.drew ?_) | (with_reducible refine below_then ?_ (by with_reducible assumption)) | (with_reducible refine Below.setCell ?_ (by go_size) _)))) hb); clear hb bp; ((have d0 := (BD.out).cell 0 _ rfl; have d1 := (BD.out).cell 1 _ rfl; have d2 := (BD.out).cell 2 _ rfl); (have p0 := (BP.out).cell 0 _ rfl; have p1 := (BP.out).cell 1 _ rfl; have p2 := (BP.out).cell 2 _ rfl; have p3 := (BP.out).cell 3 _ rfl; have p4 := (BP.out).cell 4 _ rfl; have p5 := (BP.out).cell 5 _ rfl; have p6 := (BP.out).cell 6 _ rfl; have p7 := (BP.out).cell 7 _ rfl; have p8 := (BP.out).cell 8 _ rfl); go_wp2_with fail); refine (H1.out _ HB.out).mono ?_; rintro e w2 ⟨rfl, hb⟩; (have BD := Lib.hid (BD.out.below hb); have BP := Lib.hid (BP.out.below hb); have HB := Lib.hid (below_then HB.out hb)); clear hb; (clear d0 d1 d2); (clear p0 p1 p2 p3 p4 p5 p6 p7 p8); ((have d0 := (BD.out).cell 0 _ rfl; have d1 := (BD.out).cell 1 _ rfl; have d2 := (BD.out).cell 2 _ rfl); (have p0 := (BP.out).cell 0 _ rfl; have p1 := (BP.out).cell 1 _ rfl; have p2 := (BP.out).cell 2 _ rfl; have p3 := (BP.out).cell 3 _ rfl; have p4 := (BP.out).cell 4 _ rfl; have p5 := (BP.out).cell 5 _ rfl; have p6 := (BP.out).cell 6 _ rfl; have p7 := (BP.out).cell 7 _ rfl; have p8 := (BP.out).cell 8 _ rfl); go_wp2_with fail); refine (HS.out _).mono ?_; rintro e w3 ⟨v1, u1, rfl, q1, r1, hb⟩)
        obtain ⟨ba, ca, rfl, sa, _⟩ := set_of_own q1 (by have := FM.out.2; omega) FM.out.1
        have SA := Lib.hid sa
        (have BD := Lib.hid (BD.out.below hb); have BP := Lib.hid (BP.out.below hb); have HB := Lib.hid (below_then HB.out hb))
        clear hb q1 r1 sa
        (clear d0 d1 d2)
        (clear p0 p1 p2 p3 p4 p5 p6 p7 p8)
        ((have d0 := (BD.out).cell 0 _ rfl; have d1 := (BD.out).cell 1 _ rfl; have d2 := (BD.out).cell 2 _ rfl); go_wp2_with fail)
        refine (HM2.out ba ca _ HB.out SA.out).mono ?_
        rintro e w4 ⟨rfl, hb⟩
        have SA := Lib.hid (SA.out.keep hb)
        (have BD := Lib.hid (BD.out.below hb); have BP := Lib.hid (BP.out.below hb); have HB := Lib.hid (below_then HB.out hb))
        clear hb
        (clear d0 d1 d2)
        go_wp2_with fail
        refine (HOr.out ba ca _ HB.out SA.out).mono ?_
        rintro e w5 ⟨v5, rfl, q5, hb⟩
        obtain ⟨bt, ct, rfl, st, _⟩ := set_of_own q5 (by have := FT.out.2; omega) FT.out.1
        have ST := Lib.hid st
        have SA := Lib.hid (SA.out.keep hb)
        (have BD := Lib.hid (BD.out.below hb); have BP := Lib.hid (BP.out.below hb); have HB := Lib.hid (below_then HB.out hb))
        clear hb q5 st
        ((have d0 := (BD.out).cell 0 _ rfl; have d1 := (BD.out).cell 1 _ rfl; have d2 := (BD.out).cell 2 _ rfl); go_wp2_with fail)
        refine (HT2.out bt ct _ HB.out ST.out).mono ?_
        rintro e w6 ⟨rfl, hb⟩
        have SA := Lib.hid (SA.out.keep hb)
        have ST := Lib.hid (ST.out.keep hb)
        (have BD := Lib.hid (BD.out.below hb); have BP := Lib.hid (BP.out.below hb); have HB := Lib.hid (below_then HB.out hb))
        clear hb
        (clear d0 d1 d2)
        obtain ⟨w7, hmk, hown, hgr⟩ := run_make_full (P := Tryd.prog) w6 w6.heap.size 38 3 i0 (.int .i64 0) 1 Tryd.underlying38 hi iz0 iz1 .i64 .i64 m (by rw [iz2]; omega) (by unfold maxLen; omega) (Nat.le_refl _)
        have hz : (madeCells (Value.int .i64 0).cells (m * 1)).toList = ic (fillL m 0) := by
          rw [show (Value.int .i64 0).cells = #[Value.int .i64 0] from rfl, Nat.mul_one, toList_madeCells_one, fillL_none]; simp [ic]
        rw [hz] at hown
        have hbel : Below w6.heap.size w6 w7 := (Below.refl _ _).grown hgr (Nat.le_refl _) (fun k e => by cases e)
        have HO7 := Lib.hid hown
        have HB7 := Lib.hid hbel
        clear hz hgr hown hbel
        go_wp2_with fail
        go_loopw [21] (fun i wr => ∃ k : Nat, k ≤ m ∧ i = .int .i64 k ∧ wr.ownsRow w6.heap.size 3 1 (.slice (some ⟨w6.heap.size, 0, none⟩) m m) m (ic (fillL m k)) ∧ Below w6.heap.size w6 wr) (fun i _ => m - (intOf i).toNat)
        case atStart => exact ⟨0, Nat.zero_le _, rfl, HO7.out, HB7.out⟩
        case round =>
          clear hmk HO7 HB7
          obtain ⟨k, hk, rfl, hown, hbe⟩ := hrel
          have HOK := Lib.hid hown
          have HBE := Lib.hid hbe
          by_cases hlt : k < m
          · have hca : wr.cell? ⟨w6.heap.size, k, none⟩ = some ((ic (fillL m k))[k]'(by rw [ic_len, fillL_len hk]; exact hlt)) := by rw [hown.cellAt k (by omega)]; simp
            have hfa : wr.frozen? ⟨w6.heap.size, k, none⟩ = false := hown.frozenAt k
            have HST := Lib.hid (show (wr.setCell ⟨w6.heap.size, k, none⟩ (.int .i64 k)).ownsRow w6.heap.size 3 1 (.slice (some ⟨w6.heap.size, 0, none⟩) m m) m (ic (fillL m (k + 1))) by have := (hown.stored k (.int .i64 k)).1; rw [fillL_set hlt] at this; exact this)
            have hcx : ∃ y, wr.cell? ⟨w6.heap.size, k, none⟩ = some y := ⟨_, hca⟩
            obtain ⟨y, hcy⟩ := hcx
            clear hca hown hbe
            go_wp2_with fail
            go_roundw
            case rel => exact ⟨k + 1, by omega, by go_num, HST.out, HBE.out.setCell (p := ⟨w6.heap.size, k, none⟩) (by simp) _⟩
            case measure => (simp [intOf] <;> omega)
          · obtain rfl : k = m := by omega
            rw [fillL_all] at hown
            have hl : wr.ownsRow w6.heap.size 3 1 (.slice (some ⟨w6.heap.size, 0, none⟩) (rangeL k).length k) (rangeL k).length ((rangeL k).map (Value.int .i64)) := by rw [rangeL_len]; exact hown
            obtain ⟨bw, cw, e, lw, _⟩ := list_of_own hl (by rw [rangeL_len]; omega)
            cases e
            have HOf2 := Lib.hid (show Calls Tryd.prog 27 #[.int .i64 k, .slice (some ⟨w6.heap.size, 0, none⟩) k k] wr (RUE wr O 0) from by have := HOf.out (some ⟨w6.heap.size, 0, none⟩) k wr lw; rw [rangeL_len] at this; exact this)
            have HB8 := Lib.hid (HB.out.trans (hbe.mono HB.out.size))
            have SA := Lib.hid (SA.out.keep hbe)
            have ST := Lib.hid (ST.out.keep hbe)
            have BD := Lib.hid (BD.out.below hbe)
            clear hown hl lw hbe
            go_wp2_with fail
            refine HOf2.out.mono ?_
            rintro e w9 ⟨v9, rfl, q9, hb⟩
            obtain ⟨bo, co, rfl, so, _⟩ := set_of_own q9 (by have := FO.out.2; omega) FO.out.1
            have SO := Lib.hid so
            have SA := Lib.hid (SA.out.keep hb)
            have ST := Lib.hid (ST.out.keep hb)
            have BD := Lib.hid (BD.out.below hb)
            have HB9 := Lib.hid (below_then HB8.out hb)
            clear hb q9 so
            go_wp2_with fail
            refine (HLe.out bo bt co ct _ SO.out ST.out).mono ?_
            rintro e w10 ⟨v10, rfl, q10, hb⟩
            obtain ⟨bf, cf, rfl, sf, _⟩ := set_of_own q10 (by have := FF.out.2; omega) FF.out.1
            have SF := Lib.hid sf
            have SA := Lib.hid (SA.out.keep hb)
            have BD := Lib.hid (BD.out.below hb)
            have HB10 := Lib.hid (below_then HB9.out hb)
            clear hb q10 sf
            ((have d0 := (BD.out).cell 0 _ rfl; have d1 := (BD.out).cell 1 _ rfl; have d2 := (BD.out).cell 2 _ rfl); go_wp2_with fail)
            refine (HX.out ba bf ca cf _ HB10.out SA.out SF.out).mono ?_
            rintro e w11 ⟨rfl, hb⟩
            have SA := Lib.hid (SA.out.keep hb)
            have BD := Lib.hid (BD.out.below hb)
            have HB11 := Lib.hid (below_then HB10.out hb)
            clear hb
            (clear d0 d1 d2)
            ((have d0 := (BD.out).cell 0 _ rfl; have d1 := (BD.out).cell 1 _ rfl; have d2 := (BD.out).cell 2 _ rfl); go_wp2_with fail)
            refine (HY2.out ba ca _ HB11.out SA.out).mono ?_
            rintro e w12 ⟨rfl, hb⟩
            have HB12 := below_then HB11.out hb
            clear hb
            (clear d0 d1 d2)
            go_wp2_with fail
            go_returns
            exact ⟨by simp, HB12⟩
    · by_cases ho : oneE d s = 0
      · have hp : ¬ plChk d p = 0 := fun h => hok ⟨ho, h⟩
        have hy : (plChk d p != 0) = true := by simpa using hp
        rw [ho] at H1
        generalize plChk d p = E at *
        generalize spreadV d s = P1 at *
        clear hs hT hg S hok ho hp
        (go_enter Tryd.func6, Tryd.ntmps6; go_wp2_with fail; refine (HA.out _ (by (repeat (first | (with_reducible exact Below.refl _ _) | (with_reducible assumption) | (with_reducible refine below_alloc ?_ _) | (with_reducible refine below_drewN ?_ _) | (with_reducible refine Below.drew ?_) | (with_reducible refine below_then ?_ (by with_reducible assumption)) | (with_reducible refine Below.setCell ?_ (by go_size) _))))).mono ?_; rintro e w1 ⟨rfl, hb⟩; have BD := Lib.hid (((Blk.new w 23 #[.int .i64 d.x, .int .i64 d.y, .int .i64 d.z]).alloc (.cells #[.int .i64 p.b.b.x, .int .i64 p.b.b.y, .int .i64 p.b.b.z, .int .i64 p.b.s.x, .int .i64 p.b.s.y, .int .i64 p.b.s.z, .bool p.t0, .bool p.t1, .bool p.t2] 28)).below hb); have bp := (Blk.new (w.alloc (.cells #[.int .i64 d.x, .int .i64 d.y, .int .i64 d.z] 23)) 28 #[.int .i64 p.b.b.x, .int .i64 p.b.b.y, .int .i64 p.b.b.z, .int .i64 p.b.s.x, .int .i64 p.b.s.y, .int .i64 p.b.s.z, .bool p.t0, .bool p.t1, .bool p.t2]).below hb; simp only [World.size_alloc] at bp; have BP := Lib.hid bp; have HB := Lib.hid (below_then (show Below w.heap.size w ((w.alloc (.cells #[.int .i64 d.x, .int .i64 d.y, .int .i64 d.z] 23)).alloc (.cells #[.int .i64 p.b.b.x, .int .i64 p.b.b.y, .int .i64 p.b.b.z, .int .i64 p.b.s.x, .int .i64 p.b.s.y, .int .i64 p.b.s.z, .bool p.t0, .bool p.t1, .bool p.t2] 28)) by (repeat (first | (with_reducible exact Below.refl _ _) | (with_reducible assumption) | (with_reducible refine below_alloc ?_ _) | (with_reducible refine below_drewN ?_ _) | (with_reducible refine Below.drew ?_) | (with_reducible refine below_then ?_ (by with_reducible assumption)) | (with_reducible refine Below.setCell ?_ (by go_size) _)))) hb); clear hb bp; ((have d0 := (BD.out).cell 0 _ rfl; have d1 := (BD.out).cell 1 _ rfl; have d2 := (BD.out).cell 2 _ rfl); (have p0 := (BP.out).cell 0 _ rfl; have p1 := (BP.out).cell 1 _ rfl; have p2 := (BP.out).cell 2 _ rfl; have p3 := (BP.out).cell 3 _ rfl; have p4 := (BP.out).cell 4 _ rfl; have p5 := (BP.out).cell 5 _ rfl; have p6 := (BP.out).cell 6 _ rfl; have p7 := (BP.out).cell 7 _ rfl; have p8 := (BP.out).cell 8 _ rfl); go_wp2_with fail); refine (H1.out _ HB.out).mono ?_; rintro e w2 ⟨rfl, hb⟩; (have BD := Lib.hid (BD.out.below hb); have BP := Lib.hid (BP.out.below hb); have HB := Lib.hid (below_then HB.out hb)); clear hb; (clear d0 d1 d2); (clear p0 p1 p2 p3 p4 p5 p6 p7 p8); ((have d0 := (BD.out).cell 0 _ rfl; have d1 := (BD.out).cell 1 _ rfl; have d2 := (BD.out).cell 2 _ rfl); (have p0 := (BP.out).cell 0 _ rfl; have p1 := (BP.out).cell 1 _ rfl; have p2 := (BP.out).cell 2 _ rfl; have p3 := (BP.out).cell 3 _ rfl; have p4 := (BP.out).cell 4 _ rfl; have p5 := (BP.out).cell 5 _ rfl; have p6 := (BP.out).cell 6 _ rfl; have p7 := (BP.out).cell 7 _ rfl; have p8 := (BP.out).cell 8 _ rfl); go_wp2_with fail); refine (HS.out _).mono ?_; rintro e w3 ⟨v1, u1, rfl, q1, r1, hb⟩)
        have HB3 := below_then HB.out hb
        clear hb q1 r1
        (clear d0 d1 d2)
        (clear p0 p1 p2 p3 p4 p5 p6 p7 p8)
        go_wp2_with fail
        go_returns
        exact ⟨rfl, HB3⟩
      · have hy : (oneE d s != 0) = true := by simpa using ho
        generalize plChk d p = E at *
        generalize oneE d s = E1 at *
        generalize spreadV d s = P1 at *
        clear hs hT hg S hok ho
        (go_enter Tryd.func6, Tryd.ntmps6; go_wp2_with fail; refine (HA.out _ (by (repeat (first | (with_reducible exact Below.refl _ _) | (with_reducible assumption) | (with_reducible refine below_alloc ?_ _) | (with_reducible refine below_drewN ?_ _) | (with_reducible refine Below.drew ?_) | (with_reducible refine below_then ?_ (by with_reducible assumption)) | (with_reducible refine Below.setCell ?_ (by go_size) _))))).mono ?_; rintro e w1 ⟨rfl, hb⟩; have BD := Lib.hid (((Blk.new w 23 #[.int .i64 d.x, .int .i64 d.y, .int .i64 d.z]).alloc (.cells #[.int .i64 p.b.b.x, .int .i64 p.b.b.y, .int .i64 p.b.b.z, .int .i64 p.b.s.x, .int .i64 p.b.s.y, .int .i64 p.b.s.z, .bool p.t0, .bool p.t1, .bool p.t2] 28)).below hb); have bp := (Blk.new (w.alloc (.cells #[.int .i64 d.x, .int .i64 d.y, .int .i64 d.z] 23)) 28 #[.int .i64 p.b.b.x, .int .i64 p.b.b.y, .int .i64 p.b.b.z, .int .i64 p.b.s.x, .int .i64 p.b.s.y, .int .i64 p.b.s.z, .bool p.t0, .bool p.t1, .bool p.t2]).below hb; simp only [World.size_alloc] at bp; have BP := Lib.hid bp; have HB := Lib.hid (below_then (show Below w.heap.size w ((w.alloc (.cells #[.int .i64 d.x, .int .i64 d.y, .int .i64 d.z] 23)).alloc (.cells #[.int .i64 p.b.b.x, .int .i64 p.b.b.y, .int .i64 p.b.b.z, .int .i64 p.b.s.x, .int .i64 p.b.s.y, .int .i64 p.b.s.z, .bool p.t0, .bool p.t1, .bool p.t2] 28)) by (repeat (first | (with_reducible exact Below.refl _ _) | (with_reducible assumption) | (with_reducible refine below_alloc ?_ _) | (with_reducible refine below_drewN ?_ _) | (with_reducible refine Below.drew ?_) | (with_reducible refine below_then ?_ (by with_reducible assumption)) | (with_reducible refine Below.setCell ?_ (by go_size) _)))) hb); clear hb bp; ((have d0 := (BD.out).cell 0 _ rfl; have d1 := (BD.out).cell 1 _ rfl; have d2 := (BD.out).cell 2 _ rfl); (have p0 := (BP.out).cell 0 _ rfl; have p1 := (BP.out).cell 1 _ rfl; have p2 := (BP.out).cell 2 _ rfl; have p3 := (BP.out).cell 3 _ rfl; have p4 := (BP.out).cell 4 _ rfl; have p5 := (BP.out).cell 5 _ rfl; have p6 := (BP.out).cell 6 _ rfl; have p7 := (BP.out).cell 7 _ rfl; have p8 := (BP.out).cell 8 _ rfl); go_wp2_with fail); refine (H1.out _ HB.out).mono ?_; rintro e w2 ⟨rfl, hb⟩; (have BD := Lib.hid (BD.out.below hb); have BP := Lib.hid (BP.out.below hb); have HB := Lib.hid (below_then HB.out hb)); clear hb; (clear d0 d1 d2); (clear p0 p1 p2 p3 p4 p5 p6 p7 p8); ((have d0 := (BD.out).cell 0 _ rfl; have d1 := (BD.out).cell 1 _ rfl; have d2 := (BD.out).cell 2 _ rfl); (have p0 := (BP.out).cell 0 _ rfl; have p1 := (BP.out).cell 1 _ rfl; have p2 := (BP.out).cell 2 _ rfl; have p3 := (BP.out).cell 3 _ rfl; have p4 := (BP.out).cell 4 _ rfl; have p5 := (BP.out).cell 5 _ rfl; have p6 := (BP.out).cell 6 _ rfl; have p7 := (BP.out).cell 7 _ rfl; have p8 := (BP.out).cell 8 _ rfl); go_wp2_with fail); refine (HS.out _).mono ?_; rintro e w3 ⟨v1, u1, rfl, q1, r1, hb⟩)
        have HB3 := below_then HB.out hb
        clear hb q1 r1
        (clear d0 d1 d2)
        (clear p0 p1 p2 p3 p4 p5 p6 p7 p8)
        go_wp2_with fail
        go_returns
        exact ⟨rfl, HB3⟩
  · have l1' : 100 < s.length := by omega
    clear hs hT hg l1
    go_enter Tryd.func6, Tryd.ntmps6
    go_wp2_with ((with_reducible refine (HA.out _ (by (repeat (first | (with_reducible exact Below.refl _ _) | (with_reducible assumption) | (with_reducible refine below_alloc ?_ _) | (with_reducible refine below_drewN ?_ _) | (with_reducible refine Below.drew ?_) | (with_reducible refine below_then ?_ (by with_reducible assumption)) | (with_reducible refine Below.setCell ?_ (by go_size) _))))).mono ?_); rintro e w1 ⟨rfl, hb1⟩; (obtain ⟨hc1, hf1⟩ := bcell hb1; have hz1 := hb1.size; (try simp at hz1); have hB : Below w.heap.size w w1 := (by (repeat (first | (with_reducible exact Below.refl _ _) | (with_reducible assumption) | (with_reducible refine below_alloc ?_ _) | (with_reducible refine below_drewN ?_ _) | (with_reducible refine Below.drew ?_) | (with_reducible refine below_then ?_ (by with_reducible assumption)) | (with_reducible refine Below.setCell ?_ (by go_size) _)))); obtain ⟨hcB, hfB⟩ := bcell hB; (try have z0 : w.heap.size < w1.heap.size := by omega); (try have z1 : w.heap.size + 1 < w1.heap.size := by omega); (try have z2 : w.heap.size + 2 < w1.heap.size := by omega); (try have z3 : w.heap.size + 3 < w1.heap.size := by omega)))
    all_goals
      go_returns
      exact ⟨rfl, by (repeat (first | (with_reducible exact Below.refl _ _) | (with_reducible assumption) | (with_reducible refine below_alloc ?_ _) | (with_reducible refine below_drewN ?_ _) | (with_reducible refine Below.drew ?_) | (with_reducible refine below_then ?_ (by with_reducible assumption)) | (with_reducible refine Below.setCell ?_ (by go_size) _)))⟩
set_option maxRecDepth 100000 in set_option maxHeartbeats 4000000 in
theorem lift_scoreSpread (os : Os) (started : os.Started) (H : Type) (enc : TypeId × Value → H) (F : Stop.Interp) :
    ReturnsInHanded {} Tryd.checked os 6 .any ((OpenSpec.ofChange Rows.scoreSpreadSpec).preRow enc Tryd.prog Tryd.f6 Rows.scoreSpreadRow.domain false Rows.scoreSpreadRow.laid) (((OpenSpec.ofChange Rows.scoreSpreadSpec).at F).post enc Tryd.prog Tryd.f6 false true false false) := by
  obtain ⟨places, hx⟩ : ∃ places, DataW.whole enc Tryd.prog ((laidWorld os).forCall (fun _ _ => 0) ⟨#[], #[.agg #[.int .i64 0, .int .i64 0, .int .i64 0], .agg #[.int .i64 0, .int .i64 0, .int .i64 0, .int .i64 0, .int .i64 0, .int .i64 0, .bool false, .bool false, .bool false], .slice none 0 0], []⟩).memory Tryd.f6.params.toList Rows.scoreSpreadSpec.vars false #[.agg #[.int .i64 0, .int .i64 0, .int .i64 0], .agg #[.int .i64 0, .int .i64 0, .int .i64 0, .int .i64 0, .int .i64 0, .int .i64 0, .bool false, .bool false, .bool false], .slice none 0 0].toList 8 = some ([.agg [.lit (.int .i64 0), .lit (.int .i64 0), .lit (.int .i64 0)], .agg [.agg [.agg [.lit (.int .i64 0), .lit (.int .i64 0), .lit (.int .i64 0)], .agg [.lit (.int .i64 0), .lit (.int .i64 0), .lit (.int .i64 0)]], .agg [.lit (.bool false), .lit (.bool false), .lit (.bool false)]], .nil], [], places) := ⟨[], by kernel_rfl⟩
  refine returnsInHanded_of_row (C := Tryd.checked) (s := OpenSpec.ofChange Rows.scoreSpreadSpec) ownKnob0 started (by kernel_rfl) Tryd.func6
    (witness_row_at (enc := enc) (C := Tryd.checked) false (laidWorld os) #[.agg #[.int .i64 0, .int .i64 0, .int .i64 0], .agg #[.int .i64 0, .int .i64 0, .int .i64 0, .int .i64 0, .int .i64 0, .int .i64 0, .bool false, .bool false, .bool false], .slice none 0 0] rfl (by kernel_rfl) (by kernel_rfl) (by kernel_rfl)
      (OpenSpec.preRow_of_cond 8 hx (by kernel_rfl) (fun k hk => by cases hk) (by kernel_rfl) (laidMet_of_run' 8 (by kernel_rfl) (by kernel_rfl)))) ?_
  intro W base args ds gs before hval0 hW _ _ _ hL0 _ _
  have hval : ∀ (j : Nat) t v, Tryd.f6.params[j]? = some t → args[j]? = some v → Value.okWide Tryd.prog W .any base t v := hval0
  have hT := tab_of_laid (W := W) hL0
  have hg := tab_lt hT
  have hW' := hW
  obtain ⟨p, q, hA0, hV, rfl, hfz, hnd⟩ := hW
  have hA : DataW.TrodAll enc Tryd.prog W 0 (fun _ => true) true Tryd.f6.params.toList args.toList ds p := hA0
  rw [Tryd.params6] at hA hval
  have hK := hA
  obtain ⟨v0, vs0, d0, ds0, p0, q0, hargs, rfl, rfl, h0, r0⟩ := trodAll_cons hA
  obtain ⟨v1, vs1, d1, ds1, p1, q1, rfl, rfl, rfl, h1, r1⟩ := trodAll_cons r0
  obtain ⟨v2, vs2, d2, ds2, p2, q2, rfl, rfl, rfl, h2, r2⟩ := trodAll_cons r1
  obtain ⟨rfl, rfl, rfl⟩ := trodAll_nil r2
  obtain rfl : args = #[v0, v1, v2] := by cases args; simp_all
  obtain ⟨d, rfl⟩ := open_dims (hval 0 _ v0 rfl rfl)
  obtain ⟨p, rfl⟩ := open_place (hval 1 _ v1 rfl rfl)
  obtain ⟨bs, s, cs, rfl, hs, _⟩ := open_set (hval 2 _ v2 rfl rfl) h2
  obtain ⟨rfl, rfl⟩ := trodVars_none hV
  clear hA0 hval0
  simp only [List.append_nil] at hW'
  refine (law14_ScoreSpread d p bs cs s W hs hT hg).mono fun e W' ⟨he, bel⟩ => ?_
  subst he
  refine ⟨_, rfl, _, _, _, [], _, [], hW', trodAll_mk1 (shut_bool Tryd.underlying4 _), trodAll_below bel _ _ _ _ ?_ hK, rfl, bel.frame _, fun h => by cases h⟩
  intro t ht
  simp at ht <;> (rcases ht with rfl | rfl | rfl <;> exact ⟨by kernel_rfl, of_decide_eq_true (by kernel_rfl)⟩)

theorem said_scoreSpread : Rows.ScoreSpreadSaid :=
  OpenClaim.holds_of_cond 6 Tryd.f6 rfl rfl rfl rfl rfl rfl rfl ⟨rfl, rfl, rfl, rfl, rfl⟩ rfl rfl rfl rfl rfl (by kernel_rfl) Tryd.func6 (by kernel_rfl)
    (of_decide_eq_true (by kernel_rfl)) (by unfold Func.isWrapper; first | (rw [if_pos (by decide +kernel)]; kernel_rfl) | (rw [if_neg (by decide +kernel)]; exact ⟨rfl, rfl⟩))
    (fun os started H enc _ F => by rw [OpenClaim.pre_eq_preRow]; exact lift_scoreSpread os started H enc F)

theorem plain_scoreSpread (f : FuncId) (fn : Func) (hf : Tryd.pinned.checked.prog.funcNamed "tidehall/tidehalllaw14.ScoreSpread" = some f) (hfn : Tryd.pinned.checked.prog.funcs[f]? = some fn) :
    false = Tryd.pinned.checked.prog.looks [] ∧ ∀ (j : Nat) t, fn.params[j]? = some t → Tryd.pinned.checked.prog.wantsStandIn t = false := by
  obtain rfl : f = 6 := Option.some.inj ((show Tryd.prog.funcNamed "tidehall/tidehalllaw14.ScoreSpread" = some 6 by kernel_rfl).symm.trans hf) |>.symm
  obtain rfl : fn = Tryd.f6 := (Option.some.inj (Tryd.func6.symm.trans hfn)).symm
  refine ⟨by kernel_rfl, fun j t ht => ?_⟩
  rw [Tryd.params6] at ht
  have hm := Array.mem_of_getElem? ht
  simp at hm <;> (rcases hm with rfl | rfl | rfl <;> exact (show Tryd.prog.wantsStandIn _ = false by kernel_rfl))

theorem ScoreSpread_holds : Rows.ScoreSpreadCardSaid :=
  Claim7.holds_tied_plain_at .later [] _ _ _ _ said_scoreSpread (fun _ h => by cases h) (by kernel_rfl) (fun _ h => by cases h) scoreSpread_row_tie rfl ⟨rfl, rfl⟩ (by kernel_rfl) rfl plain_scoreSpread (by kernel_rfl)
end Go.Proofs.YthabpiphfaedaaaDoor
