/- ScoreMore: a score with more that is not free is no greater; where all others are not free it is how many cables it takes: the call returns true. -/
import Derived.Test.YthabpiphfaedaaaDoorSpreadL
import Derived.Test.YthabpiphfaedaaaDoorScoreAlive
import Derived.Test.YthabpiphfaedaaaDoorRowPlace
import Derived.Test.YthabpiphfaedaaaDoorRowTab
import Derived.Test.YthabpiphfaedaaaDoorRound
namespace Go.Proofs.YthabpiphfaedaaaDoor
open Go.ChangeShapes Go.WideShapes Go.ChangeAt Go.RowKit Go.Shelf

theorem scoreV_top (d : V3) (p : Pl) (s : List Nat) : 0 ≤ scoreV d p s ∧ scoreV d p s ≤ 1000000 ∧ (scoreE d p s ≠ 0 → scoreV d p s = 0) := by
  unfold scoreV
  split
  · next h =>
    have pf := pl_facts (scoreE_0 h).2
    have h1 := openTo_le d (freeV d p s) (nums (midsV d p))
    have h2 := listV_len d.n (midsV d p)
    rw [show listV d.n (midsV d p) = nums (midsV d p) from if_pos pf.mChk] at h2
    have h3 := listV_len (3 * d.n) (linksV d p)
    rw [show listV (3 * d.n) (linksV d p) = nums (linksV d p) from if_pos pf.lChk] at h3
    unfold manyV
    rw [if_pos pf.lChk]
    exact ⟨by omega, by omega, fun h4 => absurd h h4⟩
  · exact ⟨by omega, by omega, fun _ => rfl⟩
set_option maxRecDepth 100000 in set_option maxHeartbeats 4000000 in
theorem law14_ScoreMore (d : V3) (p : Pl) (bs bt : Option Addr) (cs ct : Nat) (s t : List Nat) (w : World) (hs : Rd w bs (wcells s) ∧ W64 s) (ht : Rd w bt (wcells t) ∧ W64 t)
    (hT : TabAt 0 Lib.deBruijn64tab w) (hg : 0 < w.heap.size) :
    Calls Tryd.prog 7 #[.agg #[.int .i64 d.x, .int .i64 d.y, .int .i64 d.z], .agg #[.int .i64 p.b.b.x, .int .i64 p.b.b.y, .int .i64 p.b.b.z, .int .i64 p.b.s.x, .int .i64 p.b.s.y, .int .i64 p.b.s.z, .bool p.t0, .bool p.t1, .bool p.t2], .slice bs s.length cs, .slice bt t.length ct] w (RB w (.bool true)) := by
  have HA := Lib.hid (fun W (hw : Below w.heap.size w W) => law14_alive W (tab_keep' hT hg hw).1 (tab_keep' hT hg hw).2)
  by_cases l1 : s.length ≤ 100
  · by_cases l2 : t.length ≤ 100
    · have S := SetIn.mk hs.1 (by omega) hs.2
      have T := SetIn.mk ht.1 (by omega) ht.2
      have H1 := Lib.hid (fun W (hw : Below w.heap.size w W) => score_Of d p bs cs s W (S.keep hw) (tab_keep' hT hg hw).1 (tab_keep' hT hg hw).2)
      obtain ⟨z0, z1, z2⟩ := scoreV_top d p s
      by_cases hE : scoreE d p s = 0
      · obtain ⟨ho, hp⟩ := scoreE_0 hE
        obtain ⟨i0, hi, iz0, iz1, iz2⟩ := info_parts infoInt
        have pf := pl_facts hp
        obtain ⟨hd, hc⟩ := oneE_0 ho
        have hn := V3.n_pos hd
        obtain ⟨m, hm⟩ : ∃ m : Nat, d.n = (m : Int) := ⟨d.n.toNat, by omega⟩
        have hqm : d.x * d.y * d.z = (m : Int) := hm
        have hxy := V3.xy_le hd
        have HOr := Lib.hid (fun W (hw : Below w.heap.size w W) => show Calls Tryd.prog 25 #[.int .i64 d.n, .slice bs s.length cs, .slice bt t.length ct] W (RUE W (joinIf orW d.n s t) (sChk2 d.n s t)) from set_Or d.n bs bt cs ct s t W (S.keep hw) (T.keep hw))
        rw [hE] at H1
        by_cases hO : sChk2 d.n s t = 0
        · have mf := more_facts hp ho hs.2 ht.2 hO
          have htn : d.n.toNat = m := by omega
          have hof := (setOf_facts (n := d.n) (l := rangeL m) (by unfold nMay; omega) (by rw [rangeL_len]; omega) (fun x hx => by have := mem_rangeL.1 hx; omega)).1
          have HS := Lib.hid (fun W => by have := place_Sets d p W; rw [hp] at this; exact this)
          have HM := Lib.hid (fun ba ca W h => by have := set_Many (3 * d.n) ba ca (linksV d p) W h; rw [pf.lChk] at this; exact this)
          have H2 := Lib.hid (fun ba ca W (hw : Below w.heap.size w W) (h : SetIn W ba (joinIf orW d.n s t)) => by have := score_Of d p ba ca (joinIf orW d.n s t) W h (tab_keep' hT hg hw).1 (tab_keep' hT hg hw).2; rw [mf.eB] at this; exact this)
          have H3 := Lib.hid (fun ba ca W (hw : Below w.heap.size w W) (h : SetIn W ba (othersV d.n (midsV d p))) => by have := score_Of d p ba ca (othersV d.n (midsV d p)) W h (tab_keep' hT hg hw).1 (tab_keep' hT hg hw).2; rw [mf.eR, mf.same] at this; exact this)
          have HOf := Lib.hid (fun ba ca W (h : LIn W ba (rangeL m)) => by have := set_Of d.n ba ca (rangeL m) W h; rw [hof] at this; exact this)
          have HLe := Lib.hid (fun ba bb ca cb W (h1 : SetIn W ba (ofSet d.n (rangeL m))) (h2 : SetIn W bb (midsV d p)) => by
            have := (show Calls Tryd.prog 29 #[.int .i64 d.n, .slice ba (ofSet d.n (rangeL m)).length ca, .slice bb (midsV d p).length cb] W (RUE W (joinIf lessW d.n (ofSet d.n (rangeL m)) (midsV d p)) (sChk2 d.n (ofSet d.n (rangeL m)) (midsV d p))) from set_Less d.n ba bb ca cb (ofSet d.n (rangeL m)) (midsV d p) W h1 h2)
            have h3 := mf.c2
            rw [htn] at h3
            rw [h3, show joinIf lessW d.n (ofSet d.n (rangeL m)) (midsV d p) = othersV d.n (midsV d p) by unfold othersV; rw [htn]] at this
            exact this)
          have FB := Lib.hid (And.intro mf.fB (Nat.le_trans mf.lB l1))
          have FR := Lib.hid (And.intro mf.fR mf.lR)
          have FO := Lib.hid (And.intro (ofSet_fit' d.n (rangeL m)) (ofSet_len' d.n (rangeL m)))
          have FM := Lib.hid (And.intro (midsV_fit d p) (midsV_len d p))
          have FL := Lib.hid (And.intro (linksV_fit d p) (linksV_len d p))
          have hle := mf.less
          have hge := mf.least
          rw [hO] at HOr
          clear hs ht hT hg S T ho hp pf hd hc hof mf htn hE hO z2
          rw [hm] at hn HOr HM H2 H3 HOf HLe FB FR FO hle hge
          clear hm
          generalize manyV (3 * (m : Int)) (linksV d p) = Y at *
          generalize scoreV d p (joinIf orW (m : Int) s t) = V2 at *
          generalize othersV (m : Int) (midsV d p) = R at *
          generalize joinIf orW (m : Int) s t = U at *
          generalize ofSet (m : Int) (rangeL m) = O at *
          generalize scoreV d p s = V1 at *
          generalize midsV d p = A at *
          generalize linksV d p = B at *
          have hle1 : decide (V2 ≤ V1) = true := decide_eq_true hle
          have hge1 : decide (Y ≤ V2) = true := decide_eq_true hge
          (go_enter Tryd.func7, Tryd.ntmps7; go_wp2_with fail; refine (HA.out _ (by (repeat (first | (with_reducible exact Below.refl _ _) | (with_reducible assumption) | (with_reducible refine below_alloc ?_ _) | (with_reducible refine below_drewN ?_ _) | (with_reducible refine Below.drew ?_) | (with_reducible refine below_then ?_ (by with_reducible assumption)) | (with_reducible refine Below.setCell ?_ (by go_size) _))))).mono ?_; rintro e w1 ⟨rfl, hb⟩; have BD := Lib.hid (((Blk.new w 23 #[.int .i64 d.x, .int .i64 d.y, .int .i64 d.z]).alloc (.cells #[.int .i64 p.b.b.x, .int .i64 p.b.b.y, .int .i64 p.b.b.z, .int .i64 p.b.s.x, .int .i64 p.b.s.y, .int .i64 p.b.s.z, .bool p.t0, .bool p.t1, .bool p.t2] 28)).below hb); have bp := (Blk.new (w.alloc (.cells #[.int .i64 d.x, .int .i64 d.y, .int .i64 d.z] 23)) 28 #[.int .i64 p.b.b.x, .int .i64 p.b.b.y, .int .i64 p.b.b.z, .int .i64 p.b.s.x, .int .i64 p.b.s.y, .int .i64 p.b.s.z, .bool p.t0, .bool p.t1, .bool p.t2]).below hb; simp only [World.size_alloc] at bp; have BP := Lib.hid bp; have HB := Lib.hid (below_then (show Below w.heap.size w ((w.alloc (.cells #[.int .i64 d.x, .int .i64 d.y, .int .i64 d.z] 23)).alloc (.cells #[.int .i64 p.b.b.x, .int .i64 p.b.b.y, .int .i64 p.b.b.z, .int .i64 p.b.s.x, .int .i64 p.b.s.y, .int .i64 p.b.s.z, .bool p.t0, .bool p.t1, .bool p.t2] 28)) by (repeat (first | (with_reducible exact Below.refl _ _) | (with_reducible assumption) | (with_reducible refine below_alloc ?_ _) | (with_reducible refine below_drewN ?_ _) | (with_reducible refine Below.drew ?_) | (with_reducible refine below_then ?_ (by with_reducible assumption)) | (with_reducible refine Below.setCell ?_ (by go_size) _)))) hb); clear hb bp; ((have d0 := (BD.out).cell 0 _ rfl; have d1 := (BD.out).cell 1 _ rfl; have d2 := (BD.out).cell 2 _ rfl); (have p0 := (BP.out).cell 0 _ rfl; have p1 := (BP.out).cell 1 _ rfl; have p2 := (BP.out).cell 2 _ rfl; have p3 := (BP.out).cell 3 _ rfl; have p4 := (BP.out).cell 4 _ rfl; have p5 := (BP.out).cell 5 _ rfl; have p6 := (BP.out).cell 6 _ rfl; have p7 := (BP.out).cell 7 _ rfl; have p8 := (BP.out).cell 8 _ rfl); go_wp2_with fail); refine (H1.out _ HB.out).mono ?_; rintro e w2 ⟨rfl, hb⟩; (have BD := Lib.hid (BD.out.below hb); have BP := Lib.hid (BP.out.below hb); have HB := Lib.hid (below_then HB.out hb)); clear hb; (clear d0 d1 d2 p0 p1 p2 p3 p4 p5 p6 p7 p8))
          ((have d0 := (BD.out).cell 0 _ rfl; have d1 := (BD.out).cell 1 _ rfl; have d2 := (BD.out).cell 2 _ rfl); (have p0 := (BP.out).cell 0 _ rfl; have p1 := (BP.out).cell 1 _ rfl; have p2 := (BP.out).cell 2 _ rfl; have p3 := (BP.out).cell 3 _ rfl; have p4 := (BP.out).cell 4 _ rfl; have p5 := (BP.out).cell 5 _ rfl; have p6 := (BP.out).cell 6 _ rfl; have p7 := (BP.out).cell 7 _ rfl; have p8 := (BP.out).cell 8 _ rfl); go_wp2_with fail)
          refine (HOr.out _ HB.out).mono ?_
          rintro e w3 ⟨v3, rfl, q3, hb⟩
          obtain ⟨bu, cu, rfl, su, _⟩ := set_of_own q3 (by have := FB.out.2; omega) FB.out.1
          have SU := Lib.hid su
          (have BD := Lib.hid (BD.out.below hb); have BP := Lib.hid (BP.out.below hb); have HB := Lib.hid (below_then HB.out hb))
          clear hb q3 su
          (clear d0 d1 d2 p0 p1 p2 p3 p4 p5 p6 p7 p8)
          ((have d0 := (BD.out).cell 0 _ rfl; have d1 := (BD.out).cell 1 _ rfl; have d2 := (BD.out).cell 2 _ rfl); (have p0 := (BP.out).cell 0 _ rfl; have p1 := (BP.out).cell 1 _ rfl; have p2 := (BP.out).cell 2 _ rfl; have p3 := (BP.out).cell 3 _ rfl; have p4 := (BP.out).cell 4 _ rfl; have p5 := (BP.out).cell 5 _ rfl; have p6 := (BP.out).cell 6 _ rfl; have p7 := (BP.out).cell 7 _ rfl; have p8 := (BP.out).cell 8 _ rfl); go_wp2_with fail)
          refine (H2.out bu cu _ HB.out SU.out).mono ?_
          rintro e w4 ⟨rfl, hb⟩
          (have BD := Lib.hid (BD.out.below hb); have BP := Lib.hid (BP.out.below hb); have HB := Lib.hid (below_then HB.out hb))
          clear hb SU
          (clear d0 d1 d2 p0 p1 p2 p3 p4 p5 p6 p7 p8)
          ((have d0 := (BD.out).cell 0 _ rfl; have d1 := (BD.out).cell 1 _ rfl; have d2 := (BD.out).cell 2 _ rfl); (have p0 := (BP.out).cell 0 _ rfl; have p1 := (BP.out).cell 1 _ rfl; have p2 := (BP.out).cell 2 _ rfl; have p3 := (BP.out).cell 3 _ rfl; have p4 := (BP.out).cell 4 _ rfl; have p5 := (BP.out).cell 5 _ rfl; have p6 := (BP.out).cell 6 _ rfl; have p7 := (BP.out).cell 7 _ rfl; have p8 := (BP.out).cell 8 _ rfl); go_wp2_with fail)
          refine (HS.out _).mono ?_
          rintro e w5 ⟨v5, u5, rfl, q5, r5, hb⟩
          obtain ⟨ba, ca, rfl, sa, _⟩ := set_of_own q5 (by have := FM.out.2; omega) FM.out.1
          obtain ⟨bb, cb, rfl, sb, _⟩ := set_of_own r5 (by have := FL.out.2; omega) FL.out.1
          have SA := Lib.hid sa
          have SB := Lib.hid sb
          (have BD := Lib.hid (BD.out.below hb); have BP := Lib.hid (BP.out.below hb); have HB := Lib.hid (below_then HB.out hb))
          clear hb q5 r5 sa sb
          (clear d0 d1 d2 p0 p1 p2 p3 p4 p5 p6 p7 p8)
          go_wp2_with fail
          refine (HM.out bb cb _ SB.out).mono ?_
          rintro e w6 ⟨rfl, hb⟩
          have SA := Lib.hid (SA.out.keep hb)
          (have BD := Lib.hid (BD.out.below hb); have BP := Lib.hid (BP.out.below hb); have HB := Lib.hid (below_then HB.out hb))
          clear hb SB
          obtain ⟨w7, hmk, hown, hgr⟩ := run_make_full (P := Tryd.prog) w6 w6.heap.size 38 3 i0 (.int .i64 0) 1 Tryd.underlying38 hi iz0 iz1 .i64 .i64 m (by rw [iz2]; omega) (by unfold maxLen; omega) (Nat.le_refl _)
          have hz : (madeCells (Value.int .i64 0).cells (m * 1)).toList = ic (fillL m 0) := by
            rw [show (Value.int .i64 0).cells = #[Value.int .i64 0] from rfl, Nat.mul_one, toList_madeCells_one, fillL_none]; simp [ic]
          rw [hz] at hown
          have hbel : Below w6.heap.size w6 w7 := (Below.refl _ _).grown hgr (Nat.le_refl _) (fun k e => by cases e)
          have HO7 := Lib.hid hown
          have HB7 := Lib.hid hbel
          clear hz hgr hown hbel
          go_wp2_with fail
          go_loopw [23] (fun i wr => ∃ k : Nat, k ≤ m ∧ i = .int .i64 k ∧ wr.ownsRow w6.heap.size 3 1 (.slice (some ⟨w6.heap.size, 0, none⟩) m m) m (ic (fillL m k)) ∧ Below w6.heap.size w6 wr) (fun i _ => m - (intOf i).toNat)
          case atStart => exact ⟨0, Nat.zero_le _, rfl, HO7.out, HB7.out⟩
          case round =>
            clear hmk HO7 HB7
            obtain ⟨k, hk, rfl, hown, hbe⟩ := hrel
            have HOK := Lib.hid hown
            have HBE := Lib.hid hbe
            by_cases hlt : k < m
            · have hca : wr.cell? ⟨w6.heap.size, k, none⟩ = some ((ic (fillL m k))[k]'(by rw [ic_len, fillL_len hk]; exact hlt)) := by rw [hown.cellAt k (by omega)]; simp
              have hfa : wr.frozen? ⟨w6.heap.size, k, none⟩ = false := hown.frozenAt k
              have HST := Lib.hid (show (wr.setCell ⟨w6.heap.size, k, none⟩ (.int .i64 k)).ownsRow w6.heap.size 3 1 (.slice (some ⟨w6.heap.size, 0, none⟩) m m) m (ic (fillL m (k + 1))) by have := (hown.stored k (.int .i64 k)).1; rw [fillL_set hlt] at this; exact this)
              have hcx : ∃ y, wr.cell? ⟨w6.heap.size, k, none⟩ = some y := ⟨_, hca⟩
              obtain ⟨y, hcy⟩ := hcx
              clear hca hown hbe
              go_wp2_with fail
              go_roundw
              case rel => exact ⟨k + 1, by omega, by go_num, HST.out, HBE.out.setCell (p := ⟨w6.heap.size, k, none⟩) (by simp) _⟩
              case measure => (simp [intOf] <;> omega)
            · obtain rfl : k = m := by omega
              rw [fillL_all] at hown
              have hl : wr.ownsRow w6.heap.size 3 1 (.slice (some ⟨w6.heap.size, 0, none⟩) (rangeL k).length k) (rangeL k).length ((rangeL k).map (Value.int .i64)) := by rw [rangeL_len]; exact hown
              obtain ⟨bw, cw, e, lw, _⟩ := list_of_own hl (by rw [rangeL_len]; omega)
              cases e

              have HOf2 := Lib.hid (show Calls Tryd.prog 27 #[.int .i64 k, .slice (some ⟨w6.heap.size, 0, none⟩) k k] wr (RUE wr O 0) from by have := HOf.out (some ⟨w6.heap.size, 0, none⟩) k wr lw; rw [rangeL_len] at this; exact this)
              have HB8 := Lib.hid (HB.out.trans (hbe.mono HB.out.size))
              have SA := Lib.hid (SA.out.keep hbe)
              have BD := Lib.hid (BD.out.below hbe)
              have BP := Lib.hid (BP.out.below hbe)
              clear hown hl lw hbe
              go_wp2_with fail
              refine HOf2.out.mono ?_
              rintro e w9 ⟨v9, rfl, q9, hb⟩
              obtain ⟨bo, co, rfl, so, _⟩ := set_of_own q9 (by have := FO.out.2; omega) FO.out.1
              have SO := Lib.hid so
              have SA := Lib.hid (SA.out.keep hb)
              have BD := Lib.hid (BD.out.below hb)
              have BP := Lib.hid (BP.out.below hb)
              have HB9 := Lib.hid (below_then HB8.out hb)
              clear hb q9 so
              go_wp2_with fail
              refine (HLe.out bo ba co ca _ SO.out SA.out).mono ?_
              rintro e w10 ⟨v10, rfl, q10, hb⟩
              obtain ⟨bf, cf, rfl, sf, _⟩ := set_of_own q10 (by have := FR.out.2; omega) FR.out.1
              have SF := Lib.hid sf
              have BD := Lib.hid (BD.out.below hb)
              have BP := Lib.hid (BP.out.below hb)
              have HB10 := Lib.hid (below_then HB9.out hb)
              clear hb q10 sf
              ((have d0 := (BD.out).cell 0 _ rfl; have d1 := (BD.out).cell 1 _ rfl; have d2 := (BD.out).cell 2 _ rfl); (have p0 := (BP.out).cell 0 _ rfl; have p1 := (BP.out).cell 1 _ rfl; have p2 := (BP.out).cell 2 _ rfl; have p3 := (BP.out).cell 3 _ rfl; have p4 := (BP.out).cell 4 _ rfl; have p5 := (BP.out).cell 5 _ rfl; have p6 := (BP.out).cell 6 _ rfl; have p7 := (BP.out).cell 7 _ rfl; have p8 := (BP.out).cell 8 _ rfl); go_wp2_with fail)
              refine (H3.out bf cf _ HB10.out SF.out).mono ?_
              rintro e w11 ⟨rfl, hb⟩
              have HB11 := below_then HB10.out hb
              clear hb
              (clear d0 d1 d2 p0 p1 p2 p3 p4 p5 p6 p7 p8)
              go_wp2_with fail
              go_returns
              exact ⟨by simp, HB11⟩
        · have hy : (sChk2 d.n s t != 0) = true := by simpa using hO
          clear hs ht hT hg S T ho hp pf hd hc hE hO z2
          rw [hm] at hn HOr hy
          clear hm
          generalize joinIf orW (m : Int) s t = U at *
          generalize sChk2 (m : Int) s t = E2 at *
          generalize scoreV d p s = V1 at *
          (go_enter Tryd.func7, Tryd.ntmps7; go_wp2_with fail; refine (HA.out _ (by (repeat (first | (with_reducible exact Below.refl _ _) | (with_reducible assumption) | (with_reducible refine below_alloc ?_ _) | (with_reducible refine below_drewN ?_ _) | (with_reducible refine Below.drew ?_) | (with_reducible refine below_then ?_ (by with_reducible assumption)) | (with_reducible refine Below.setCell ?_ (by go_size) _))))).mono ?_; rintro e w1 ⟨rfl, hb⟩; have BD := Lib.hid (((Blk.new w 23 #[.int .i64 d.x, .int .i64 d.y, .int .i64 d.z]).alloc (.cells #[.int .i64 p.b.b.x, .int .i64 p.b.b.y, .int .i64 p.b.b.z, .int .i64 p.b.s.x, .int .i64 p.b.s.y, .int .i64 p.b.s.z, .bool p.t0, .bool p.t1, .bool p.t2] 28)).below hb); have bp := (Blk.new (w.alloc (.cells #[.int .i64 d.x, .int .i64 d.y, .int .i64 d.z] 23)) 28 #[.int .i64 p.b.b.x, .int .i64 p.b.b.y, .int .i64 p.b.b.z, .int .i64 p.b.s.x, .int .i64 p.b.s.y, .int .i64 p.b.s.z, .bool p.t0, .bool p.t1, .bool p.t2]).below hb; simp only [World.size_alloc] at bp; have BP := Lib.hid bp; have HB := Lib.hid (below_then (show Below w.heap.size w ((w.alloc (.cells #[.int .i64 d.x, .int .i64 d.y, .int .i64 d.z] 23)).alloc (.cells #[.int .i64 p.b.b.x, .int .i64 p.b.b.y, .int .i64 p.b.b.z, .int .i64 p.b.s.x, .int .i64 p.b.s.y, .int .i64 p.b.s.z, .bool p.t0, .bool p.t1, .bool p.t2] 28)) by (repeat (first | (with_reducible exact Below.refl _ _) | (with_reducible assumption) | (with_reducible refine below_alloc ?_ _) | (with_reducible refine below_drewN ?_ _) | (with_reducible refine Below.drew ?_) | (with_reducible refine below_then ?_ (by with_reducible assumption)) | (with_reducible refine Below.setCell ?_ (by go_size) _)))) hb); clear hb bp; ((have d0 := (BD.out).cell 0 _ rfl; have d1 := (BD.out).cell 1 _ rfl; have d2 := (BD.out).cell 2 _ rfl); (have p0 := (BP.out).cell 0 _ rfl; have p1 := (BP.out).cell 1 _ rfl; have p2 := (BP.out).cell 2 _ rfl; have p3 := (BP.out).cell 3 _ rfl; have p4 := (BP.out).cell 4 _ rfl; have p5 := (BP.out).cell 5 _ rfl; have p6 := (BP.out).cell 6 _ rfl; have p7 := (BP.out).cell 7 _ rfl; have p8 := (BP.out).cell 8 _ rfl); go_wp2_with fail); refine (H1.out _ HB.out).mono ?_; rintro e w2 ⟨rfl, hb⟩; (have BD := Lib.hid (BD.out.below hb); have BP := Lib.hid (BP.out.below hb); have HB := Lib.hid (below_then HB.out hb)); clear hb; (clear d0 d1 d2 p0 p1 p2 p3 p4 p5 p6 p7 p8))
          ((have d0 := (BD.out).cell 0 _ rfl; have d1 := (BD.out).cell 1 _ rfl; have d2 := (BD.out).cell 2 _ rfl); (have p0 := (BP.out).cell 0 _ rfl; have p1 := (BP.out).cell 1 _ rfl; have p2 := (BP.out).cell 2 _ rfl; have p3 := (BP.out).cell 3 _ rfl; have p4 := (BP.out).cell 4 _ rfl; have p5 := (BP.out).cell 5 _ rfl; have p6 := (BP.out).cell 6 _ rfl; have p7 := (BP.out).cell 7 _ rfl; have p8 := (BP.out).cell 8 _ rfl); go_wp2_with fail)
          refine (HOr.out _ HB.out).mono ?_
          rintro e w3 ⟨v3, rfl, q3, hb⟩
          have HB3 := below_then HB.out hb
          clear hb q3
          (clear d0 d1 d2 p0 p1 p2 p3 p4 p5 p6 p7 p8)
          go_wp2_with fail
          go_returns
          exact ⟨rfl, HB3⟩
      · have hy : (scoreE d p s != 0) = true := by simpa using hE
        rw [z2 hE] at H1
        generalize scoreE d p s = E at *
        clear hs ht hT hg S T hE z0 z1 z2
        (go_enter Tryd.func7, Tryd.ntmps7; go_wp2_with fail; refine (HA.out _ (by (repeat (first | (with_reducible exact Below.refl _ _) | (with_reducible assumption) | (with_reducible refine below_alloc ?_ _) | (with_reducible refine below_drewN ?_ _) | (with_reducible refine Below.drew ?_) | (with_reducible refine below_then ?_ (by with_reducible assumption)) | (with_reducible refine Below.setCell ?_ (by go_size) _))))).mono ?_; rintro e w1 ⟨rfl, hb⟩; have BD := Lib.hid (((Blk.new w 23 #[.int .i64 d.x, .int .i64 d.y, .int .i64 d.z]).alloc (.cells #[.int .i64 p.b.b.x, .int .i64 p.b.b.y, .int .i64 p.b.b.z, .int .i64 p.b.s.x, .int .i64 p.b.s.y, .int .i64 p.b.s.z, .bool p.t0, .bool p.t1, .bool p.t2] 28)).below hb); have bp := (Blk.new (w.alloc (.cells #[.int .i64 d.x, .int .i64 d.y, .int .i64 d.z] 23)) 28 #[.int .i64 p.b.b.x, .int .i64 p.b.b.y, .int .i64 p.b.b.z, .int .i64 p.b.s.x, .int .i64 p.b.s.y, .int .i64 p.b.s.z, .bool p.t0, .bool p.t1, .bool p.t2]).below hb; simp only [World.size_alloc] at bp; have BP := Lib.hid bp; have HB := Lib.hid (below_then (show Below w.heap.size w ((w.alloc (.cells #[.int .i64 d.x, .int .i64 d.y, .int .i64 d.z] 23)).alloc (.cells #[.int .i64 p.b.b.x, .int .i64 p.b.b.y, .int .i64 p.b.b.z, .int .i64 p.b.s.x, .int .i64 p.b.s.y, .int .i64 p.b.s.z, .bool p.t0, .bool p.t1, .bool p.t2] 28)) by (repeat (first | (with_reducible exact Below.refl _ _) | (with_reducible assumption) | (with_reducible refine below_alloc ?_ _) | (with_reducible refine below_drewN ?_ _) | (with_reducible refine Below.drew ?_) | (with_reducible refine below_then ?_ (by with_reducible assumption)) | (with_reducible refine Below.setCell ?_ (by go_size) _)))) hb); clear hb bp; ((have d0 := (BD.out).cell 0 _ rfl; have d1 := (BD.out).cell 1 _ rfl; have d2 := (BD.out).cell 2 _ rfl); (have p0 := (BP.out).cell 0 _ rfl; have p1 := (BP.out).cell 1 _ rfl; have p2 := (BP.out).cell 2 _ rfl; have p3 := (BP.out).cell 3 _ rfl; have p4 := (BP.out).cell 4 _ rfl; have p5 := (BP.out).cell 5 _ rfl; have p6 := (BP.out).cell 6 _ rfl; have p7 := (BP.out).cell 7 _ rfl; have p8 := (BP.out).cell 8 _ rfl); go_wp2_with fail); refine (H1.out _ HB.out).mono ?_; rintro e w2 ⟨rfl, hb⟩; (have BD := Lib.hid (BD.out.below hb); have BP := Lib.hid (BP.out.below hb); have HB := Lib.hid (below_then HB.out hb)); clear hb; (clear d0 d1 d2 p0 p1 p2 p3 p4 p5 p6 p7 p8))
        go_wp2_with fail
        go_returns
        exact ⟨rfl, HB.out⟩
    · have l2' : 100 < t.length := by omega
      clear hs ht hT hg l2
      go_enter Tryd.func7, Tryd.ntmps7
      go_wp2_with ((with_reducible refine (HA.out _ (by (repeat (first | (with_reducible exact Below.refl _ _) | (with_reducible assumption) | (with_reducible refine below_alloc ?_ _) | (with_reducible refine below_drewN ?_ _) | (with_reducible refine Below.drew ?_) | (with_reducible refine below_then ?_ (by with_reducible assumption)) | (with_reducible refine Below.setCell ?_ (by go_size) _))))).mono ?_); rintro e w1 ⟨rfl, hb1⟩; (obtain ⟨hc1, hf1⟩ := bcell hb1; have hz1 := hb1.size; (try simp at hz1); have hB : Below w.heap.size w w1 := (by (repeat (first | (with_reducible exact Below.refl _ _) | (with_reducible assumption) | (with_reducible refine below_alloc ?_ _) | (with_reducible refine below_drewN ?_ _) | (with_reducible refine Below.drew ?_) | (with_reducible refine below_then ?_ (by with_reducible assumption)) | (with_reducible refine Below.setCell ?_ (by go_size) _)))); obtain ⟨hcB, hfB⟩ := bcell hB; (try have z0 : w.heap.size < w1.heap.size := by omega); (try have z1 : w.heap.size + 1 < w1.heap.size := by omega); (try have z2 : w.heap.size + 2 < w1.heap.size := by omega); (try have z3 : w.heap.size + 3 < w1.heap.size := by omega)))
      all_goals
        go_returns
        exact ⟨rfl, by (repeat (first | (with_reducible exact Below.refl _ _) | (with_reducible assumption) | (with_reducible refine below_alloc ?_ _) | (with_reducible refine below_drewN ?_ _) | (with_reducible refine Below.drew ?_) | (with_reducible refine below_then ?_ (by with_reducible assumption)) | (with_reducible refine Below.setCell ?_ (by go_size) _)))⟩
  · have l1' : 100 < s.length := by omega
    clear hs ht hT hg l1
    go_enter Tryd.func7, Tryd.ntmps7
    go_wp2_with ((with_reducible refine (HA.out _ (by (repeat (first | (with_reducible exact Below.refl _ _) | (with_reducible assumption) | (with_reducible refine below_alloc ?_ _) | (with_reducible refine below_drewN ?_ _) | (with_reducible refine Below.drew ?_) | (with_reducible refine below_then ?_ (by with_reducible assumption)) | (with_reducible refine Below.setCell ?_ (by go_size) _))))).mono ?_); rintro e w1 ⟨rfl, hb1⟩; (obtain ⟨hc1, hf1⟩ := bcell hb1; have hz1 := hb1.size; (try simp at hz1); have hB : Below w.heap.size w w1 := (by (repeat (first | (with_reducible exact Below.refl _ _) | (with_reducible assumption) | (with_reducible refine below_alloc ?_ _) | (with_reducible refine below_drewN ?_ _) | (with_reducible refine Below.drew ?_) | (with_reducible refine below_then ?_ (by with_reducible assumption)) | (with_reducible refine Below.setCell ?_ (by go_size) _)))); obtain ⟨hcB, hfB⟩ := bcell hB; (try have z0 : w.heap.size < w1.heap.size := by omega); (try have z1 : w.heap.size + 1 < w1.heap.size := by omega); (try have z2 : w.heap.size + 2 < w1.heap.size := by omega); (try have z3 : w.heap.size + 3 < w1.heap.size := by omega)))
    all_goals
      go_returns
      exact ⟨rfl, by (repeat (first | (with_reducible exact Below.refl _ _) | (with_reducible assumption) | (with_reducible refine below_alloc ?_ _) | (with_reducible refine below_drewN ?_ _) | (with_reducible refine Below.drew ?_) | (with_reducible refine below_then ?_ (by with_reducible assumption)) | (with_reducible refine Below.setCell ?_ (by go_size) _)))⟩
set_option maxRecDepth 100000 in set_option maxHeartbeats 4000000 in
theorem lift_scoreMore (os : Os) (started : os.Started) (H : Type) (enc : TypeId × Value → H) (F : Stop.Interp) :
    ReturnsInHanded {} Tryd.checked os 7 .any ((OpenSpec.ofChange Rows.scoreMoreSpec).preRow enc Tryd.prog Tryd.f7 Rows.scoreMoreRow.domain false Rows.scoreMoreRow.laid) (((OpenSpec.ofChange Rows.scoreMoreSpec).at F).post enc Tryd.prog Tryd.f7 false true false false) := by
  obtain ⟨places, hx⟩ : ∃ places, DataW.whole enc Tryd.prog ((laidWorld os).forCall (fun _ _ => 0) ⟨#[], #[.agg #[.int .i64 0, .int .i64 0, .int .i64 0], .agg #[.int .i64 0, .int .i64 0, .int .i64 0, .int .i64 0, .int .i64 0, .int .i64 0, .bool false, .bool false, .bool false], .slice none 0 0, .slice none 0 0], []⟩).memory Tryd.f7.params.toList Rows.scoreMoreSpec.vars false #[.agg #[.int .i64 0, .int .i64 0, .int .i64 0], .agg #[.int .i64 0, .int .i64 0, .int .i64 0, .int .i64 0, .int .i64 0, .int .i64 0, .bool false, .bool false, .bool false], .slice none 0 0, .slice none 0 0].toList 8 = some ([.agg [.lit (.int .i64 0), .lit (.int .i64 0), .lit (.int .i64 0)], .agg [.agg [.agg [.lit (.int .i64 0), .lit (.int .i64 0), .lit (.int .i64 0)], .agg [.lit (.int .i64 0), .lit (.int .i64 0), .lit (.int .i64 0)]], .agg [.lit (.bool false), .lit (.bool false), .lit (.bool false)]], .nil, .nil], [], places) := ⟨[], by kernel_rfl⟩
  refine returnsInHanded_of_row (C := Tryd.checked) (s := OpenSpec.ofChange Rows.scoreMoreSpec) ownKnob0 started (by kernel_rfl) Tryd.func7
    (witness_row_at (enc := enc) (C := Tryd.checked) false (laidWorld os) #[.agg #[.int .i64 0, .int .i64 0, .int .i64 0], .agg #[.int .i64 0, .int .i64 0, .int .i64 0, .int .i64 0, .int .i64 0, .int .i64 0, .bool false, .bool false, .bool false], .slice none 0 0, .slice none 0 0] rfl (by kernel_rfl) (by kernel_rfl) (by kernel_rfl)
      (OpenSpec.preRow_of_cond 8 hx (by kernel_rfl) (fun k hk => by cases hk) (by kernel_rfl) (laidMet_of_run' 8 (by kernel_rfl) (by kernel_rfl)))) ?_
  intro W base args ds gs before hval0 hW _ _ _ hL0 _ _
  have hval : ∀ (j : Nat) t v, Tryd.f7.params[j]? = some t → args[j]? = some v → Value.okWide Tryd.prog W .any base t v := hval0
  have hT := tab_of_laid (W := W) hL0
  have hg := tab_lt hT
  have hW' := hW
  obtain ⟨p, q, hA0, hV, rfl, hfz, hnd⟩ := hW
  have hA : DataW.TrodAll enc Tryd.prog W 0 (fun _ => true) true Tryd.f7.params.toList args.toList ds p := hA0
  rw [Tryd.params7] at hA hval
  have hK := hA
  obtain ⟨v0, vs0, d0, ds0, p0, q0, hargs, rfl, rfl, h0, r0⟩ := trodAll_cons hA
  obtain ⟨v1, vs1, d1, ds1, p1, q1, rfl, rfl, rfl, h1, r1⟩ := trodAll_cons r0
  obtain ⟨v2, vs2, d2, ds2, p2, q2, rfl, rfl, rfl, h2, r2⟩ := trodAll_cons r1
  obtain ⟨v3, vs3, d3, ds3, p3, q3, rfl, rfl, rfl, h3, r3⟩ := trodAll_cons r2
  obtain ⟨rfl, rfl, rfl⟩ := trodAll_nil r3
  obtain rfl : args = #[v0, v1, v2, v3] := by cases args; simp_all
  obtain ⟨d, rfl⟩ := open_dims (hval 0 _ v0 rfl rfl)
  obtain ⟨p, rfl⟩ := open_place (hval 1 _ v1 rfl rfl)
  obtain ⟨bs, s, cs, rfl, hs, _⟩ := open_set (hval 2 _ v2 rfl rfl) h2
  obtain ⟨bt, t, ct, rfl, ht, _⟩ := open_set (hval 3 _ v3 rfl rfl) h3
  obtain ⟨rfl, rfl⟩ := trodVars_none hV
  clear hA0 hval0
  simp only [List.append_nil] at hW'
  refine (law14_ScoreMore d p bs bt cs ct s t W hs ht hT hg).mono fun e W' ⟨he, bel⟩ => ?_
  subst he
  refine ⟨_, rfl, _, _, _, [], _, [], hW', trodAll_mk1 (shut_bool Tryd.underlying4 _), trodAll_below bel _ _ _ _ ?_ hK, rfl, bel.frame _, fun h => by cases h⟩
  intro t ht
  simp at ht <;> (rcases ht with rfl | rfl | rfl | rfl <;> exact ⟨by kernel_rfl, of_decide_eq_true (by kernel_rfl)⟩)

theorem said_scoreMore : Rows.ScoreMoreSaid :=
  OpenClaim.holds_of_cond 7 Tryd.f7 rfl rfl rfl rfl rfl rfl rfl ⟨rfl, rfl, rfl, rfl, rfl⟩ rfl rfl rfl rfl rfl (by kernel_rfl) Tryd.func7 (by kernel_rfl)
    (of_decide_eq_true (by kernel_rfl)) (by unfold Func.isWrapper; first | (rw [if_pos (by decide +kernel)]; kernel_rfl) | (rw [if_neg (by decide +kernel)]; exact ⟨rfl, rfl⟩))
    (fun os started H enc _ F => by rw [OpenClaim.pre_eq_preRow]; exact lift_scoreMore os started H enc F)

theorem plain_scoreMore (f : FuncId) (fn : Func) (hf : Tryd.pinned.checked.prog.funcNamed "tidehall/tidehalllaw14.ScoreMore" = some f) (hfn : Tryd.pinned.checked.prog.funcs[f]? = some fn) :
    false = Tryd.pinned.checked.prog.looks [] ∧ ∀ (j : Nat) t, fn.params[j]? = some t → Tryd.pinned.checked.prog.wantsStandIn t = false := by
  obtain rfl : f = 7 := Option.some.inj ((show Tryd.prog.funcNamed "tidehall/tidehalllaw14.ScoreMore" = some 7 by kernel_rfl).symm.trans hf) |>.symm
  obtain rfl : fn = Tryd.f7 := (Option.some.inj (Tryd.func7.symm.trans hfn)).symm
  refine ⟨by kernel_rfl, fun j t ht => ?_⟩
  rw [Tryd.params7] at ht
  have hm := Array.mem_of_getElem? ht
  simp at hm <;> (rcases hm with rfl | rfl | rfl | rfl <;> exact (show Tryd.prog.wantsStandIn _ = false by kernel_rfl))

theorem ScoreMore_holds : Rows.ScoreMoreCardSaid :=
  Claim7.holds_tied_plain_at .later [] _ _ _ _ said_scoreMore (fun _ h => by cases h) (by kernel_rfl) (fun _ h => by cases h) scoreMore_row_tie rfl ⟨rfl, rfl⟩ (by kernel_rfl) rfl plain_scoreMore (by kernel_rfl)
end Go.Proofs.YthabpiphfaedaaaDoor
