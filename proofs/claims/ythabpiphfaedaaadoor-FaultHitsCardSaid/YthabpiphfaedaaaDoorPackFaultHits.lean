/- FaultHits: a place is hit by just its midplanes and cables; marks of some are told as just these: the call returns true. -/
import Derived.Test.YthabpiphfaedaaaDoorQ0FaultAlive
import Derived.Test.YthabpiphfaedaaaDoorQ0FaultHit
import Derived.Test.YthabpiphfaedaaaDoorQ0SetTz
import Derived.Test.YthabpiphfaedaaaDoorQ0PlCount
import Derived.Test.YthabpiphfaedaaaDoorQ8FaultHits
import Derived.Test.YthabpiphfaedaaaDoorQ0RowPlace
namespace Go.Proofs.YthabpiphfaedaaaDoor

section
open Go.ChangeShapes Go.WideShapes Go.ChangeAt Go.RowKit Go.Shelf

/-- The numbers of a set of one. -/
theorem list_one {n x : Int} (hn : nMay n) (h0 : 0 ≤ x ∧ x < n) : listV n (ofSet n [x]) = [x] ∧ sChk n (ofSet n [x]) = 0 := by
  obtain ⟨e1, e2, e3⟩ := setOf_facts (n := n) (l := [x]) hn (by simp) (fun y hy => by simp at hy; omega)
  refine ⟨?_, e2⟩
  have hp := nums_perm (l := [x]) e2 (ofSet_fit' _ _) (by simp) (fun y hy => by simp at hy; omega) e3
  exact List.perm_singleton.1 hp
theorem mk_one {n x : Int} (h0 : 0 ≤ x ∧ x < n) : mk n (-1) [x] = true := by
  rw [mk_iff]
  exact ⟨fun y hy => by simp at hy; omega, by simp⟩
theorem bad_one {d : V3} {m k : Int} (hd : d.may) (hm : 0 ≤ m ∧ m < d.n) (hk : 0 ≤ k ∧ k < 3 * d.n) : badE d [m] [] [k] = 0 ∧ badN d [m] [] [k] = ofSet d.n [m] ∧ badL d [m] [] [k] = ofSet (3 * d.n) [k] := by
  have hE : badE d [m] [] [k] = 0 := by
    unfold badE
    rw [if_pos hd, mk_one hm, mk_one hk]
    rfl
  exact ⟨hE, if_pos hE, if_pos hE⟩
theorem iin_one (W : World) (t : TypeId) (x : Int) : IIn (W.alloc (.cells #[.int .i64 x] t)) (some ⟨W.heap.size, 0, none⟩) [x] := ⟨rd_newC W #[.int .i64 x] t, by simp⟩
theorem rie_iin {W : World} {B : Nat} {v : Value} {x : Int} (h : W.ownsRow B 3 1 v [x].length ([x].map (Value.int .i64))) : ∃ b c, v = .slice b 1 c ∧ IIn W b [x] := by
  obtain ⟨b, c, e, rd, _⟩ := own_rd h
  exact ⟨b, c, e, rd, by simp⟩
theorem tab_keepH {w W : World} (hT : TabAt 0 Lib.deBruijn64tab w) (hg : 0 < w.heap.size) (hb : Below w.heap.size w W) : TabAt 0 Lib.deBruijn64tab W ∧ 0 < W.heap.size :=
  ⟨fun j hj => (hb.cell (p := ⟨0, j, none⟩) hg).trans (hT j hj), Nat.lt_of_lt_of_le hg hb.size⟩
set_option maxRecDepth 100000 in set_option maxHeartbeats 4000000 in
theorem law17_FaultHits (d : V3) (p : Pl) (m k : Int) (w : World) (hT : TabAt 0 Lib.deBruijn64tab w) (hg : 0 < w.heap.size) :
    Calls Tryd.prog 10 #[.agg #[.int .i64 d.x, .int .i64 d.y, .int .i64 d.z], .agg #[.int .i64 p.b.b.x, .int .i64 p.b.b.y, .int .i64 p.b.b.z, .int .i64 p.b.s.x, .int .i64 p.b.s.y, .int .i64 p.b.s.z, .bool p.t0, .bool p.t1, .bool p.t2], .int .i64 m, .int .i64 k] w (RB w (.bool true)) := by
  have A0 := Lib.hid (fun W => law17_alive W)
  have A1 := Lib.hid (fun W => place_Sets d p W)
  have A2 := Lib.hid (fun W => pos_Many d W)
  have A3 := Lib.hid (fun W => fault_Hit d p m k W)
  have F := Lib.hid (And.intro (midsV_fit d p) (linksV_fit d p))
  have l1 := midsV_len d p
  have l2 := linksV_len d p
  by_cases hz : plChk d p = 0
  · have pf := pl_facts hz
    have hd := pf.may
    have hnn := V3.n_le hd
    have hnm := fb_nMay hd
    rw [hz] at A1
    rw [V3.many_ok hd, V3.err_ok hd] at A2
    by_cases hr : (0 ≤ m ∧ m < d.n) ∧ (0 ≤ k ∧ k < 3 * d.n)
    · have e0 : hitE d p m k = 0 := by unfold hitE; rw [if_pos hz, if_pos (by omega)]
      have v0 : hitV d p m k = (hasI (midsV d p) m || hasI (linksV d p) k) := if_pos e0
      have e1 : hitE d p m (-1) = 0 := by unfold hitE; rw [if_pos hz, if_pos (by omega)]
      have v1 : hitV d p m (-1) = hasI (midsV d p) m := by rw [show hitV d p m (-1) = (hasI (midsV d p) m || hasI (linksV d p) (-1)) from if_pos e1, hasI_neg (ws := linksV d p) (k := -1) (by decide), Bool.or_false]
      have e2 : hitE d p (-1) k = 0 := by unfold hitE; rw [if_pos hz, if_pos (by omega)]
      have v2 : hitV d p (-1) k = hasI (linksV d p) k := by rw [show hitV d p (-1) k = (hasI (midsV d p) (-1) || hasI (linksV d p) k) from if_pos e2, hasI_neg (ws := midsV d p) (k := -1) (by decide), Bool.false_or]
      have A4 := Lib.hid (fun ba ca W (h : SetIn W ba (midsV d p)) => by have hh := set_Has d.n ba ca (midsV d p) m W h; rw [hasV_of pf.mChk, pf.mChk] at hh; exact hh)
      have A5 := Lib.hid (fun ba ca W (h : SetIn W ba (linksV d p)) => by have hh := set_Has (3 * d.n) ba ca (linksV d p) k W h; rw [hasV_of pf.lChk, pf.lChk] at hh; exact hh)
      have A6 := Lib.hid (fun W => by have hh := fault_Hit d p m (-1) W; rw [e1, v1] at hh; exact hh)
      have A7 := Lib.hid (fun W => by have hh := fault_Hit d p (-1) k W; rw [e2, v2] at hh; exact hh)
      obtain ⟨b0, bn, bl⟩ := bad_one hd hr.1 hr.2
      obtain ⟨o1, o2⟩ := list_one hnm.1 hr.1
      obtain ⟨o3, o4⟩ := list_one hnm.2 hr.2
      have A8 := Lib.hid (fun W b1 b2 (h1 : IIn W (some b1) [m]) (h2 : IIn W (some b2) [k]) => show Calls Tryd.prog 39 #[.agg #[.int .i64 d.x, .int .i64 d.y, .int .i64 d.z], .slice (some b1) 1 1, .slice none 0 0, .slice (some b2) 1 1] W (RPS W (ofSet d.n [m]) (ofSet (3 * d.n) [k]) 0) from by
        have hh := fault_Bad d (some b1) none (some b2) 1 0 1 [m] [] [k] W h1 ⟨Rd.nil _ _, by simp⟩ h2 (fun h => by cases h) (fun _ => ⟨rfl, rfl⟩) (fun h => by cases h)
        rw [b0, bn, bl] at hh
        exact hh)
      have A9 := Lib.hid (fun ba ca W (hw : Below w.heap.size w W) (h : SetIn W ba (ofSet d.n [m])) => by have hh := set_List d.n ba ca _ W h (tab_keepH hT hg hw).1 (tab_keepH hT hg hw).2; rw [o1, o2] at hh; exact hh)
      have AA := Lib.hid (fun ba ca W (hw : Below w.heap.size w W) (h : SetIn W ba (ofSet (3 * d.n) [k])) => by have hh := set_List (3 * d.n) ba ca _ W h (tab_keepH hT hg hw).1 (tab_keepH hT hg hw).2; rw [o3, o4] at hh; exact hh)
      have FO := Lib.hid (And.intro (And.intro (ofSet_fit' d.n [m]) (ofSet_len' d.n [m])) (And.intro (ofSet_fit' (3 * d.n) [k]) (ofSet_len' (3 * d.n) [k])))
      have g1 := (ofSet_len' d.n [m])
      have g2 := (ofSet_len' (3 * d.n) [k])
      have AB := Lib.hid (fun (x : Int) W b1 b2 c1 c2 (h1 : IIn W b1 [x]) (h2 : IIn W b2 [x]) => show Calls Tryd.prog 40 #[.slice b1 1 c1, .slice b2 1 c2] W (RB W (.bool true)) from Calls.rb_eq (same_law b1 b2 c1 c2 [x] [x] W h1 h2) (show Value.bool (decide ([x] = [x])) = .bool true by simp))
      rw [e0, v0] at A3
      have r1 := hr.1
      have r2 := hr.2
      generalize hasI (midsV d p) m = x1 at *
      generalize hasI (linksV d p) k = x2 at *
      generalize midsV d p = M at *
      generalize linksV d p = L at *
      generalize ofSet d.n [m] = O1 at *
      generalize ofSet (3 * d.n) [k] = O2 at *
      clear hz pf hd hnm hr e0 v0 e1 v1 e2 v2 b0 bn bl o1 o2 o3 o4 hT hg
      generalize d.n = n at *
      have q1 : decide (m < 0) = false := decide_eq_false (by omega)
      have q2 : decide (n ≤ m) = false := decide_eq_false (by omega)
      have q3 : decide (k < 0) = false := decide_eq_false (by omega)
      have q4 : decide (3 * n ≤ k) = false := decide_eq_false (by omega)
      clear r1 r2
      go_enter Tryd.func10, Tryd.ntmps10
      go_wp2_with fail
      refine (A0.out _).mono ?_
      rintro e w1 ⟨rfl, hb⟩
      have BD := Lib.hid (((Blk.new w 23 #[.int .i64 d.x, .int .i64 d.y, .int .i64 d.z]).alloc (.cells #[.int .i64 p.b.b.x, .int .i64 p.b.b.y, .int .i64 p.b.b.z, .int .i64 p.b.s.x, .int .i64 p.b.s.y, .int .i64 p.b.s.z, .bool p.t0, .bool p.t1, .bool p.t2] 28)).below hb)
      have BP := Lib.hid ((by have := (Blk.new (w.alloc (.cells #[.int .i64 d.x, .int .i64 d.y, .int .i64 d.z] 23)) 28 #[.int .i64 p.b.b.x, .int .i64 p.b.b.y, .int .i64 p.b.b.z, .int .i64 p.b.s.x, .int .i64 p.b.s.y, .int .i64 p.b.s.z, .bool p.t0, .bool p.t1, .bool p.t2]).below hb; rwa [World.size_alloc] at this : Blk w1 (w.heap.size + 1) 28 #[.int .i64 p.b.b.x, .int .i64 p.b.b.y, .int .i64 p.b.b.z, .int .i64 p.b.s.x, .int .i64 p.b.s.y, .int .i64 p.b.s.z, .bool p.t0, .bool p.t1, .bool p.t2]))
      have HB := Lib.hid (below_then (show Below w.heap.size w ((w.alloc (.cells #[.int .i64 d.x, .int .i64 d.y, .int .i64 d.z] 23)).alloc (.cells #[.int .i64 p.b.b.x, .int .i64 p.b.b.y, .int .i64 p.b.b.z, .int .i64 p.b.s.x, .int .i64 p.b.s.y, .int .i64 p.b.s.z, .bool p.t0, .bool p.t1, .bool p.t2] 28)) by (repeat (first | (with_reducible exact Below.refl _ _) | (with_reducible assumption) | (with_reducible refine below_alloc ?_ _) | (with_reducible refine below_drewN ?_ _) | (with_reducible refine Below.drew ?_) | (with_reducible refine below_then ?_ (by with_reducible assumption)) | (with_reducible refine Below.setCell ?_ (by go_size) _)))) hb)
      clear hb
      (have d0 := (BD.out).cell 0 _ rfl; have d1 := (BD.out).cell 1 _ rfl; have d2 := (BD.out).cell 2 _ rfl)
      (have p0 := (BP.out).cell 0 _ rfl; have p1 := (BP.out).cell 1 _ rfl; have p2 := (BP.out).cell 2 _ rfl; have p3 := (BP.out).cell 3 _ rfl; have p4 := (BP.out).cell 4 _ rfl; have p5 := (BP.out).cell 5 _ rfl; have p6 := (BP.out).cell 6 _ rfl; have p7 := (BP.out).cell 7 _ rfl; have p8 := (BP.out).cell 8 _ rfl)
      go_wp2_with fail
      refine (A1.out _).mono ?_
      rintro e w2 ⟨vm, vl, rfl, om, ol, hb⟩
      obtain ⟨b1, c1, rfl, s1, _⟩ := set_of_own om (by omega) F.out.1
      obtain ⟨b2, c2, rfl, s2, _⟩ := set_of_own ol (by omega) F.out.2
      have BD := Lib.hid (BD.out.below hb)
      have BP := Lib.hid (BP.out.below hb)
      have HB := Lib.hid (below_then HB.out hb)
      have S1 := Lib.hid s1
      have S2 := Lib.hid s2
      clear hb om ol s1 s2
      (clear d0 d1 d2)
      (clear p0 p1 p2 p3 p4 p5 p6 p7 p8)
      (have d0 := (BD.out).cell 0 _ rfl; have d1 := (BD.out).cell 1 _ rfl; have d2 := (BD.out).cell 2 _ rfl)
      go_wp2_with fail
      refine (A2.out _).mono ?_
      rintro e w3 ⟨rfl, hb⟩
      (have BD := Lib.hid (BD.out.below hb); have BP := Lib.hid (BP.out.below hb); have HB := Lib.hid (below_then HB.out hb); (try have S1 := Lib.hid (S1.out.keep hb)); (try have S2 := Lib.hid (S2.out.keep hb)); clear hb)
      (clear d0 d1 d2)
      (have d0 := (BD.out).cell 0 _ rfl; have d1 := (BD.out).cell 1 _ rfl; have d2 := (BD.out).cell 2 _ rfl)
      (have p0 := (BP.out).cell 0 _ rfl; have p1 := (BP.out).cell 1 _ rfl; have p2 := (BP.out).cell 2 _ rfl; have p3 := (BP.out).cell 3 _ rfl; have p4 := (BP.out).cell 4 _ rfl; have p5 := (BP.out).cell 5 _ rfl; have p6 := (BP.out).cell 6 _ rfl; have p7 := (BP.out).cell 7 _ rfl; have p8 := (BP.out).cell 8 _ rfl)
      go_wp2_with fail
      refine (A3.out _).mono ?_
      rintro e w4 ⟨rfl, hb⟩
      (have BD := Lib.hid (BD.out.below hb); have BP := Lib.hid (BP.out.below hb); have HB := Lib.hid (below_then HB.out hb); (try have S1 := Lib.hid (S1.out.keep hb)); (try have S2 := Lib.hid (S2.out.keep hb)); clear hb)
      (clear d0 d1 d2)
      (clear p0 p1 p2 p3 p4 p5 p6 p7 p8)
      go_wp2_with fail
      refine (A4.out _ _ _ S1.out).mono ?_
      rintro e w5 ⟨rfl, hb⟩
      (have BD := Lib.hid (BD.out.below hb); have BP := Lib.hid (BP.out.below hb); have HB := Lib.hid (below_then HB.out hb); (try have S1 := Lib.hid (S1.out.keep hb)); (try have S2 := Lib.hid (S2.out.keep hb)); clear hb)
      go_wp2_with fail
      refine (A5.out _ _ _ S2.out).mono ?_
      rintro e w6 ⟨rfl, hb⟩
      (have BD := Lib.hid (BD.out.below hb); have BP := Lib.hid (BP.out.below hb); have HB := Lib.hid (below_then HB.out hb); (try have S1 := Lib.hid (S1.out.keep hb)); (try have S2 := Lib.hid (S2.out.keep hb)); clear hb)
      (have d0 := (BD.out).cell 0 _ rfl; have d1 := (BD.out).cell 1 _ rfl; have d2 := (BD.out).cell 2 _ rfl)
      (have p0 := (BP.out).cell 0 _ rfl; have p1 := (BP.out).cell 1 _ rfl; have p2 := (BP.out).cell 2 _ rfl; have p3 := (BP.out).cell 3 _ rfl; have p4 := (BP.out).cell 4 _ rfl; have p5 := (BP.out).cell 5 _ rfl; have p6 := (BP.out).cell 6 _ rfl; have p7 := (BP.out).cell 7 _ rfl; have p8 := (BP.out).cell 8 _ rfl)
      go_wp2_with fail
      refine (A6.out _).mono ?_
      rintro e w7 ⟨rfl, hb⟩
      (have BD := Lib.hid (BD.out.below hb); have BP := Lib.hid (BP.out.below hb); have HB := Lib.hid (below_then HB.out hb); (try have S1 := Lib.hid (S1.out.keep hb)); (try have S2 := Lib.hid (S2.out.keep hb)); clear hb)
      (clear d0 d1 d2)
      (clear p0 p1 p2 p3 p4 p5 p6 p7 p8)
      (have d0 := (BD.out).cell 0 _ rfl; have d1 := (BD.out).cell 1 _ rfl; have d2 := (BD.out).cell 2 _ rfl)
      (have p0 := (BP.out).cell 0 _ rfl; have p1 := (BP.out).cell 1 _ rfl; have p2 := (BP.out).cell 2 _ rfl; have p3 := (BP.out).cell 3 _ rfl; have p4 := (BP.out).cell 4 _ rfl; have p5 := (BP.out).cell 5 _ rfl; have p6 := (BP.out).cell 6 _ rfl; have p7 := (BP.out).cell 7 _ rfl; have p8 := (BP.out).cell 8 _ rfl)
      go_wp2_with fail
      refine (A7.out _).mono ?_
      rintro e w8 ⟨rfl, hb⟩
      (have BD := Lib.hid (BD.out.below hb); have BP := Lib.hid (BP.out.below hb); have HB := Lib.hid (below_then HB.out hb); (try have S1 := Lib.hid (S1.out.keep hb)); (try have S2 := Lib.hid (S2.out.keep hb)); clear hb)
      (clear d0 d1 d2)
      (clear p0 p1 p2 p3 p4 p5 p6 p7 p8)
      clear A0 A1 A2 A3 A4 A5 A6 A7 S1 S2
      have I1 := Lib.hid ((iin_one w8 3 m).keep (show Below (w8.alloc (.cells #[.int .i64 m] 3)).heap.size (w8.alloc (.cells #[.int .i64 m] 3)) ((w8.alloc (.cells #[.int .i64 m] 3)).alloc (.cells #[.int .i64 k] 3)) by (repeat (first | (with_reducible exact Below.refl _ _) | (with_reducible assumption) | (with_reducible refine below_alloc ?_ _) | (with_reducible refine below_drewN ?_ _) | (with_reducible refine Below.drew ?_) | (with_reducible refine below_then ?_ (by with_reducible assumption)) | (with_reducible refine Below.setCell ?_ (by go_size) _)))))
      have I2 := Lib.hid (show IIn ((w8.alloc (.cells #[.int .i64 m] 3)).alloc (.cells #[.int .i64 k] 3)) (some ⟨w8.heap.size + 1, 0, none⟩) [k] by have := iin_one (w8.alloc (.cells #[.int .i64 m] 3)) 3 k; rwa [World.size_alloc] at this)
      have HB2 := Lib.hid (show Below w8.heap.size w8 ((w8.alloc (.cells #[.int .i64 m] 3)).alloc (.cells #[.int .i64 k] 3)) by (repeat (first | (with_reducible exact Below.refl _ _) | (with_reducible assumption) | (with_reducible refine below_alloc ?_ _) | (with_reducible refine below_drewN ?_ _) | (with_reducible refine Below.drew ?_) | (with_reducible refine below_then ?_ (by with_reducible assumption)) | (with_reducible refine Below.setCell ?_ (by go_size) _))))
      cases x1 <;> cases x2
      all_goals
        (have d0 := (BD.out).cell 0 _ rfl; have d1 := (BD.out).cell 1 _ rfl; have d2 := (BD.out).cell 2 _ rfl)
        go_wp2_with fail
        refine (A8.out _ _ _ I1.out I2.out).mono ?_
        rintro e w9 ⟨v9, u9, rfl, oo1, oo2, hb⟩
        obtain ⟨b5, c5, rfl, s5, _⟩ := set_of_own oo1 (by omega) FO.out.1.1
        obtain ⟨b6, c6, rfl, s6, _⟩ := set_of_own oo2 (by omega) FO.out.2.1
        have S5 := Lib.hid s5
        have S6 := Lib.hid s6
        have HB := Lib.hid (below_then HB.out (below_then HB2.out hb))
        clear hb oo1 oo2 s5 s6 d0 d1 d2 BD BP
        go_wp2_with fail
        refine (A9.out _ _ _ HB.out S5.out).mono ?_
        rintro e w10 ⟨v10, rfl, oo1, hb⟩
        obtain ⟨b7, c7, rfl, s7⟩ := rie_iin oo1
        have S7 := Lib.hid s7
        have HB := Lib.hid (below_then HB.out hb)
        have S6 := Lib.hid (S6.out.keep hb)
        clear hb oo1 s7 S5
        go_wp2_with fail
        refine (AA.out _ _ _ HB.out S6.out).mono ?_
        rintro e w11 ⟨v11, rfl, oo1, hb⟩
        obtain ⟨b8, c8, rfl, s8⟩ := rie_iin oo1
        have S8 := Lib.hid s8
        have HB := Lib.hid (below_then HB.out hb)
        have S7 := Lib.hid (S7.out.keep hb)
        clear hb oo1 s8 S6
        go_wp2_with fail
        refine (AB.out m _ _ _ _ _ (S7.out.keep (by (repeat (first | (with_reducible exact Below.refl _ _) | (with_reducible assumption) | (with_reducible refine below_alloc ?_ _) | (with_reducible refine below_drewN ?_ _) | (with_reducible refine Below.drew ?_) | (with_reducible refine below_then ?_ (by with_reducible assumption)) | (with_reducible refine Below.setCell ?_ (by go_size) _))))) (iin_one w11 3 m)).mono ?_
        rintro e w12 ⟨rfl, hb⟩
        have hb12 := below_then (show Below w11.heap.size w11 _ by (repeat (first | (with_reducible exact Below.refl _ _) | (with_reducible assumption) | (with_reducible refine below_alloc ?_ _) | (with_reducible refine below_drewN ?_ _) | (with_reducible refine Below.drew ?_) | (with_reducible refine below_then ?_ (by with_reducible assumption)) | (with_reducible refine Below.setCell ?_ (by go_size) _)))) hb
        have HB := Lib.hid (below_then HB.out hb12)
        have S8 := Lib.hid (S8.out.keep hb12)
        clear hb hb12 S7
        go_wp2_with fail
        refine (AB.out k _ _ _ _ _ (S8.out.keep (by (repeat (first | (with_reducible exact Below.refl _ _) | (with_reducible assumption) | (with_reducible refine below_alloc ?_ _) | (with_reducible refine below_drewN ?_ _) | (with_reducible refine Below.drew ?_) | (with_reducible refine below_then ?_ (by with_reducible assumption)) | (with_reducible refine Below.setCell ?_ (by go_size) _))))) (iin_one w12 3 k)).mono ?_
        rintro e w13 ⟨rfl, hb⟩
        have HB := Lib.hid (below_then HB.out (below_then (show Below w12.heap.size w12 _ by (repeat (first | (with_reducible exact Below.refl _ _) | (with_reducible assumption) | (with_reducible refine below_alloc ?_ _) | (with_reducible refine below_drewN ?_ _) | (with_reducible refine Below.drew ?_) | (with_reducible refine below_then ?_ (by with_reducible assumption)) | (with_reducible refine Below.setCell ?_ (by go_size) _)))) hb))
        clear hb
        go_wp2_with fail
        go_returns
        exact ⟨rfl, HB.out⟩
    · generalize hitE d p m k = E at *
      generalize hitV d p m k = V at *
      generalize midsV d p = M at *
      generalize linksV d p = L at *
      clear hz pf hd hnm hT hg
      generalize d.n = n at *
      go_enter Tryd.func10, Tryd.ntmps10
      go_wp2_with fail
      refine (A0.out _).mono ?_
      rintro e w1 ⟨rfl, hb⟩
      have BD := Lib.hid (((Blk.new w 23 #[.int .i64 d.x, .int .i64 d.y, .int .i64 d.z]).alloc (.cells #[.int .i64 p.b.b.x, .int .i64 p.b.b.y, .int .i64 p.b.b.z, .int .i64 p.b.s.x, .int .i64 p.b.s.y, .int .i64 p.b.s.z, .bool p.t0, .bool p.t1, .bool p.t2] 28)).below hb)
      have BP := Lib.hid ((by have := (Blk.new (w.alloc (.cells #[.int .i64 d.x, .int .i64 d.y, .int .i64 d.z] 23)) 28 #[.int .i64 p.b.b.x, .int .i64 p.b.b.y, .int .i64 p.b.b.z, .int .i64 p.b.s.x, .int .i64 p.b.s.y, .int .i64 p.b.s.z, .bool p.t0, .bool p.t1, .bool p.t2]).below hb; rwa [World.size_alloc] at this : Blk w1 (w.heap.size + 1) 28 #[.int .i64 p.b.b.x, .int .i64 p.b.b.y, .int .i64 p.b.b.z, .int .i64 p.b.s.x, .int .i64 p.b.s.y, .int .i64 p.b.s.z, .bool p.t0, .bool p.t1, .bool p.t2]))
      have HB := Lib.hid (below_then (show Below w.heap.size w ((w.alloc (.cells #[.int .i64 d.x, .int .i64 d.y, .int .i64 d.z] 23)).alloc (.cells #[.int .i64 p.b.b.x, .int .i64 p.b.b.y, .int .i64 p.b.b.z, .int .i64 p.b.s.x, .int .i64 p.b.s.y, .int .i64 p.b.s.z, .bool p.t0, .bool p.t1, .bool p.t2] 28)) by (repeat (first | (with_reducible exact Below.refl _ _) | (with_reducible assumption) | (with_reducible refine below_alloc ?_ _) | (with_reducible refine below_drewN ?_ _) | (with_reducible refine Below.drew ?_) | (with_reducible refine below_then ?_ (by with_reducible assumption)) | (with_reducible refine Below.setCell ?_ (by go_size) _)))) hb)
      clear hb
      (have d0 := (BD.out).cell 0 _ rfl; have d1 := (BD.out).cell 1 _ rfl; have d2 := (BD.out).cell 2 _ rfl)
      (have p0 := (BP.out).cell 0 _ rfl; have p1 := (BP.out).cell 1 _ rfl; have p2 := (BP.out).cell 2 _ rfl; have p3 := (BP.out).cell 3 _ rfl; have p4 := (BP.out).cell 4 _ rfl; have p5 := (BP.out).cell 5 _ rfl; have p6 := (BP.out).cell 6 _ rfl; have p7 := (BP.out).cell 7 _ rfl; have p8 := (BP.out).cell 8 _ rfl)
      go_wp2_with fail
      refine (A1.out _).mono ?_
      rintro e w2 ⟨vm, vl, rfl, om, ol, hb⟩
      obtain ⟨b1, c1, rfl, s1, _⟩ := set_of_own om (by omega) F.out.1
      obtain ⟨b2, c2, rfl, s2, _⟩ := set_of_own ol (by omega) F.out.2
      have BD := Lib.hid (BD.out.below hb)
      have BP := Lib.hid (BP.out.below hb)
      have HB := Lib.hid (below_then HB.out hb)
      have S1 := Lib.hid s1
      have S2 := Lib.hid s2
      clear hb om ol s1 s2
      (clear d0 d1 d2)
      (clear p0 p1 p2 p3 p4 p5 p6 p7 p8)
      (have d0 := (BD.out).cell 0 _ rfl; have d1 := (BD.out).cell 1 _ rfl; have d2 := (BD.out).cell 2 _ rfl)
      go_wp2_with fail
      refine (A2.out _).mono ?_
      rintro e w3 ⟨rfl, hb⟩
      (have BD := Lib.hid (BD.out.below hb); have BP := Lib.hid (BP.out.below hb); have HB := Lib.hid (below_then HB.out hb); (try have S1 := Lib.hid (S1.out.keep hb)); (try have S2 := Lib.hid (S2.out.keep hb)); clear hb)
      (clear d0 d1 d2)
      (have d0 := (BD.out).cell 0 _ rfl; have d1 := (BD.out).cell 1 _ rfl; have d2 := (BD.out).cell 2 _ rfl)
      (have p0 := (BP.out).cell 0 _ rfl; have p1 := (BP.out).cell 1 _ rfl; have p2 := (BP.out).cell 2 _ rfl; have p3 := (BP.out).cell 3 _ rfl; have p4 := (BP.out).cell 4 _ rfl; have p5 := (BP.out).cell 5 _ rfl; have p6 := (BP.out).cell 6 _ rfl; have p7 := (BP.out).cell 7 _ rfl; have p8 := (BP.out).cell 8 _ rfl)
      go_wp2_with fail
      refine (A3.out _).mono ?_
      rintro e w4 ⟨rfl, hb⟩
      (have BD := Lib.hid (BD.out.below hb); have BP := Lib.hid (BP.out.below hb); have HB := Lib.hid (below_then HB.out hb); (try have S1 := Lib.hid (S1.out.keep hb)); (try have S2 := Lib.hid (S2.out.keep hb)); clear hb)
      (clear d0 d1 d2)
      (clear p0 p1 p2 p3 p4 p5 p6 p7 p8)
      by_cases q1 : m < 0
      · clear hr
        go_wp2_with fail
        go_returns
        exact ⟨rfl, HB.out⟩
      by_cases q2 : n ≤ m
      · clear hr
        go_wp2_with fail
        go_returns
        exact ⟨rfl, HB.out⟩
      by_cases q3 : k < 0
      · clear hr
        go_wp2_with fail
        go_returns
        exact ⟨rfl, HB.out⟩
      have q4 : 3 * n ≤ k := by omega
      clear hr
      go_wp2_with fail
      go_returns
      exact ⟨rfl, HB.out⟩
  · have hE : hitE d p m k = plChk d p := if_neg hz
    have hV : hitV d p m k = false := if_neg (by rw [hE]; exact hz)
    have hy : (plChk d p != 0) = true := by simpa using hz
    rw [hE, hV] at A3
    generalize plChk d p = x at *
    generalize d.many = nm at *
    generalize d.err = ne at *
    generalize midsV d p = M at *
    generalize linksV d p = L at *
    clear hz hE hV hT hg
    go_enter Tryd.func10, Tryd.ntmps10
    go_wp2_with fail
    refine (A0.out _).mono ?_
    rintro e w1 ⟨rfl, hb⟩
    have BD := Lib.hid (((Blk.new w 23 #[.int .i64 d.x, .int .i64 d.y, .int .i64 d.z]).alloc (.cells #[.int .i64 p.b.b.x, .int .i64 p.b.b.y, .int .i64 p.b.b.z, .int .i64 p.b.s.x, .int .i64 p.b.s.y, .int .i64 p.b.s.z, .bool p.t0, .bool p.t1, .bool p.t2] 28)).below hb)
    have BP := Lib.hid ((by have := (Blk.new (w.alloc (.cells #[.int .i64 d.x, .int .i64 d.y, .int .i64 d.z] 23)) 28 #[.int .i64 p.b.b.x, .int .i64 p.b.b.y, .int .i64 p.b.b.z, .int .i64 p.b.s.x, .int .i64 p.b.s.y, .int .i64 p.b.s.z, .bool p.t0, .bool p.t1, .bool p.t2]).below hb; rwa [World.size_alloc] at this : Blk w1 (w.heap.size + 1) 28 #[.int .i64 p.b.b.x, .int .i64 p.b.b.y, .int .i64 p.b.b.z, .int .i64 p.b.s.x, .int .i64 p.b.s.y, .int .i64 p.b.s.z, .bool p.t0, .bool p.t1, .bool p.t2]))
    have HB := Lib.hid (below_then (show Below w.heap.size w ((w.alloc (.cells #[.int .i64 d.x, .int .i64 d.y, .int .i64 d.z] 23)).alloc (.cells #[.int .i64 p.b.b.x, .int .i64 p.b.b.y, .int .i64 p.b.b.z, .int .i64 p.b.s.x, .int .i64 p.b.s.y, .int .i64 p.b.s.z, .bool p.t0, .bool p.t1, .bool p.t2] 28)) by (repeat (first | (with_reducible exact Below.refl _ _) | (with_reducible assumption) | (with_reducible refine below_alloc ?_ _) | (with_reducible refine below_drewN ?_ _) | (with_reducible refine Below.drew ?_) | (with_reducible refine below_then ?_ (by with_reducible assumption)) | (with_reducible refine Below.setCell ?_ (by go_size) _)))) hb)
    clear hb
    (have d0 := (BD.out).cell 0 _ rfl; have d1 := (BD.out).cell 1 _ rfl; have d2 := (BD.out).cell 2 _ rfl)
    (have p0 := (BP.out).cell 0 _ rfl; have p1 := (BP.out).cell 1 _ rfl; have p2 := (BP.out).cell 2 _ rfl; have p3 := (BP.out).cell 3 _ rfl; have p4 := (BP.out).cell 4 _ rfl; have p5 := (BP.out).cell 5 _ rfl; have p6 := (BP.out).cell 6 _ rfl; have p7 := (BP.out).cell 7 _ rfl; have p8 := (BP.out).cell 8 _ rfl)
    go_wp2_with fail
    refine (A1.out _).mono ?_
    rintro e w2 ⟨vm, vl, rfl, om, ol, hb⟩
    obtain ⟨b1, c1, rfl, s1, _⟩ := set_of_own om (by omega) F.out.1
    obtain ⟨b2, c2, rfl, s2, _⟩ := set_of_own ol (by omega) F.out.2
    have BD := Lib.hid (BD.out.below hb)
    have BP := Lib.hid (BP.out.below hb)
    have HB := Lib.hid (below_then HB.out hb)
    have S1 := Lib.hid s1
    have S2 := Lib.hid s2
    clear hb om ol s1 s2
    (clear d0 d1 d2)
    (clear p0 p1 p2 p3 p4 p5 p6 p7 p8)
    (have d0 := (BD.out).cell 0 _ rfl; have d1 := (BD.out).cell 1 _ rfl; have d2 := (BD.out).cell 2 _ rfl)
    go_wp2_with fail
    refine (A2.out _).mono ?_
    rintro e w3 ⟨rfl, hb⟩
    (have BD := Lib.hid (BD.out.below hb); have BP := Lib.hid (BP.out.below hb); have HB := Lib.hid (below_then HB.out hb); (try have S1 := Lib.hid (S1.out.keep hb)); (try have S2 := Lib.hid (S2.out.keep hb)); clear hb)
    (clear d0 d1 d2)
    (have d0 := (BD.out).cell 0 _ rfl; have d1 := (BD.out).cell 1 _ rfl; have d2 := (BD.out).cell 2 _ rfl)
    (have p0 := (BP.out).cell 0 _ rfl; have p1 := (BP.out).cell 1 _ rfl; have p2 := (BP.out).cell 2 _ rfl; have p3 := (BP.out).cell 3 _ rfl; have p4 := (BP.out).cell 4 _ rfl; have p5 := (BP.out).cell 5 _ rfl; have p6 := (BP.out).cell 6 _ rfl; have p7 := (BP.out).cell 7 _ rfl; have p8 := (BP.out).cell 8 _ rfl)
    go_wp2_with fail
    refine (A3.out _).mono ?_
    rintro e w4 ⟨rfl, hb⟩
    (have BD := Lib.hid (BD.out.below hb); have BP := Lib.hid (BP.out.below hb); have HB := Lib.hid (below_then HB.out hb); (try have S1 := Lib.hid (S1.out.keep hb)); (try have S2 := Lib.hid (S2.out.keep hb)); clear hb)
    (clear d0 d1 d2)
    (clear p0 p1 p2 p3 p4 p5 p6 p7 p8)
    go_wp2_with fail
    go_returns
    exact ⟨rfl, HB.out⟩
set_option maxRecDepth 100000 in set_option maxHeartbeats 4000000 in
theorem lift_faultHits (os : Os) (started : os.Started) (H : Type) (enc : TypeId × Value → H) (F : Stop.Interp) :
    ReturnsInHanded {} Tryd.checked os 10 .any ((OpenSpec.ofChange Rows.faultHitsSpec).preRow enc Tryd.prog Tryd.f10 Rows.faultHitsRow.domain false Rows.faultHitsRow.laid) (((OpenSpec.ofChange Rows.faultHitsSpec).at F).post enc Tryd.prog Tryd.f10 false true false false) := by
  obtain ⟨places, hx⟩ : ∃ places, DataW.whole enc Tryd.prog ((laidWorld os).forCall (fun _ _ => 0) ⟨#[], #[.agg #[.int .i64 0, .int .i64 0, .int .i64 0], .agg #[.int .i64 0, .int .i64 0, .int .i64 0, .int .i64 0, .int .i64 0, .int .i64 0, .bool false, .bool false, .bool false], .int .i64 0, .int .i64 0], []⟩).memory Tryd.f10.params.toList Rows.faultHitsSpec.vars false #[.agg #[.int .i64 0, .int .i64 0, .int .i64 0], .agg #[.int .i64 0, .int .i64 0, .int .i64 0, .int .i64 0, .int .i64 0, .int .i64 0, .bool false, .bool false, .bool false], .int .i64 0, .int .i64 0].toList 8 = some ([.agg [.lit (.int .i64 0), .lit (.int .i64 0), .lit (.int .i64 0)], .agg [.agg [.agg [.lit (.int .i64 0), .lit (.int .i64 0), .lit (.int .i64 0)], .agg [.lit (.int .i64 0), .lit (.int .i64 0), .lit (.int .i64 0)]], .agg [.lit (.bool false), .lit (.bool false), .lit (.bool false)]], .lit (.int .i64 0), .lit (.int .i64 0)], [], places) := ⟨[], by kernel_rfl⟩
  refine returnsInHanded_of_row (C := Tryd.checked) (s := OpenSpec.ofChange Rows.faultHitsSpec) ownKnob0 started (by kernel_rfl) Tryd.func10
    (witness_row_at (enc := enc) (C := Tryd.checked) false (laidWorld os) #[.agg #[.int .i64 0, .int .i64 0, .int .i64 0], .agg #[.int .i64 0, .int .i64 0, .int .i64 0, .int .i64 0, .int .i64 0, .int .i64 0, .bool false, .bool false, .bool false], .int .i64 0, .int .i64 0] rfl (by kernel_rfl) (by kernel_rfl) (by kernel_rfl)
      (OpenSpec.preRow_of_cond 8 hx (by kernel_rfl) (fun k hk => by cases hk) (by kernel_rfl) (laidMet_of_run' 8 (by kernel_rfl) (by kernel_rfl)))) ?_
  intro W base args ds gs before hval0 hW _ _ _ hL0 _ _
  have hval : ∀ (j : Nat) t v, Tryd.f10.params[j]? = some t → args[j]? = some v → Value.okWide Tryd.prog W .any base t v := hval0
  have hT := tab_of_laid (W := W) hL0
  have hg := tab_lt hT
  have hW' := hW
  obtain ⟨p, q, hA0, hV, rfl, hfz, hnd⟩ := hW
  have hA : DataW.TrodAll enc Tryd.prog W 0 (fun _ => true) true Tryd.f10.params.toList args.toList ds p := hA0
  rw [Tryd.params10] at hA hval
  have hK := hA
  obtain ⟨v0, vs0, d0, ds0, p0, q0, hargs, rfl, rfl, h0, r0⟩ := trodAll_cons hA
  obtain ⟨v1, vs1, d1, ds1, p1, q1, rfl, rfl, rfl, h1, r1⟩ := trodAll_cons r0
  obtain ⟨v2, vs2, d2, ds2, p2, q2, rfl, rfl, rfl, h2, r2⟩ := trodAll_cons r1
  obtain ⟨v3, vs3, d3, ds3, p3, q3, rfl, rfl, rfl, h3, r3⟩ := trodAll_cons r2
  obtain ⟨rfl, rfl, rfl⟩ := trodAll_nil r3
  obtain rfl : args = #[v0, v1, v2, v3] := by cases args; simp_all
  obtain ⟨d, rfl⟩ := open_dims (hval 0 _ v0 rfl rfl)
  obtain ⟨pp, rfl⟩ := open_place (hval 1 _ v1 rfl rfl)
  obtain ⟨m, rfl⟩ := okWide_int Tryd.underlying3 (hval 2 _ v2 rfl rfl)
  obtain ⟨k, rfl⟩ := okWide_int Tryd.underlying3 (hval 3 _ v3 rfl rfl)
  obtain ⟨rfl, rfl⟩ := trodVars_none hV
  clear hA0 hval0
  simp only [List.append_nil] at hW'
  refine (law17_FaultHits d pp m k W hT hg).mono fun e W' ⟨he, bel⟩ => ?_
  subst he
  refine ⟨_, rfl, _, _, _, [], _, [], hW', trodAll_mk1 (shut_bool Tryd.underlying4 _), trodAll_below bel _ _ _ _ ?_ hK, rfl, bel.frame _, fun h => by cases h⟩
  intro t ht
  simp at ht <;> (rcases ht with rfl | rfl | rfl | rfl <;> exact ⟨by kernel_rfl, of_decide_eq_true (by kernel_rfl)⟩)

theorem said_faultHits : Rows.FaultHitsSaid :=
  OpenClaim.holds_of_cond 10 Tryd.f10 rfl rfl rfl rfl rfl rfl rfl ⟨rfl, rfl, rfl, rfl, rfl⟩ rfl rfl rfl rfl rfl (by kernel_rfl) Tryd.func10 (by kernel_rfl)
    (of_decide_eq_true (by kernel_rfl)) (by unfold Func.isWrapper; first | (rw [if_pos (by decide +kernel)]; kernel_rfl) | (rw [if_neg (by decide +kernel)]; exact ⟨rfl, rfl⟩))
    (fun os started H enc _ F => by rw [OpenClaim.pre_eq_preRow]; exact lift_faultHits os started H enc F)

theorem plain_faultHits (f : FuncId) (fn : Func) (hf : Tryd.pinned.checked.prog.funcNamed "tidehall/tidehalllaw17.FaultHits" = some f) (hfn : Tryd.pinned.checked.prog.funcs[f]? = some fn) :
    false = Tryd.pinned.checked.prog.looks [] ∧ ∀ (j : Nat) t, fn.params[j]? = some t → Tryd.pinned.checked.prog.wantsStandIn t = false := by
  obtain rfl : f = 10 := Option.some.inj ((show Tryd.prog.funcNamed "tidehall/tidehalllaw17.FaultHits" = some 10 by kernel_rfl).symm.trans hf) |>.symm
  obtain rfl : fn = Tryd.f10 := (Option.some.inj (Tryd.func10.symm.trans hfn)).symm
  refine ⟨by kernel_rfl, fun j t ht => ?_⟩
  rw [Tryd.params10] at ht
  have hm := Array.mem_of_getElem? ht
  simp at hm <;> (rcases hm with rfl | rfl | rfl | rfl <;> exact (show Tryd.prog.wantsStandIn _ = false by kernel_rfl))

theorem FaultHits_holds : Rows.FaultHitsCardSaid :=
  Claim7.holds_tied_plain_at .later [] _ _ _ _ said_faultHits (fun _ h => by cases h) (by kernel_rfl) (fun _ h => by cases h) faultHits_row_tie rfl ⟨rfl, rfl⟩ (by kernel_rfl) rfl plain_faultHits (by kernel_rfl)
end
end Go.Proofs.YthabpiphfaedaaaDoor
