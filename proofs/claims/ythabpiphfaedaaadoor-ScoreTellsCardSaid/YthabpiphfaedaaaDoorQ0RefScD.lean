/- REF 14: open sides, the score of a place, how scattered what is free is. -/
import Derived.Deep.RegionHeld3
import Derived.Test.YthabpiphfaedaaaDoorQ0RefScC
import Derived.Test.YthabpiphfaedaaaDoorQ0RefTk
namespace Go.Proofs.YthabpiphfaedaaaDoor

section
open Go.RowKit Go.Shelf

theorem oneE_08 (d : V3) (s : List Nat) : oneE d s = 0 ∨ oneE d s = 8 := by
  unfold oneE
  split
  · split
    · exact .inl rfl
    · exact .inr rfl
  · exact .inr rfl
set_option maxRecDepth 100000 in set_option maxHeartbeats 4000000 in
theorem ref14_may (d : V3) (bs : Option Addr) (cs : Nat) (s : List Nat) (w : World) (hs : SetIn w bs s) : Calls Tryd.prog 66 #[.agg #[.int .i64 d.x, .int .i64 d.y, .int .i64 d.z], .slice bs s.length cs] w (RB w (.bool (decide (oneE d s = 0)))) := by
  have HM := Lib.hid (fun W => ref01_May d W)
  by_cases hd : d.may
  · have HN := Lib.hid (fun W => ref01_N d W hd)
    have hnm := (pl_nMay hd).1
    have HS := Lib.hid (fun W (h : Below w.heap.size w W) => ref03_May d.n bs cs s W (hs.keep h) hnm)
    have hv : decide (oneE d s = 0) = refMay d.n s := by
      rw [refMay_eq hnm hs.fit]
      unfold oneE sChk
      rw [if_pos hd, if_pos hnm]
      by_cases h : setMay d.n s
      · rw [okIf_yes h]; simp [h]
      · rw [okIf_no h]; simp [h]
    rw [hv]
    rw [decide_eq_true hd] at HM
    clear hd hs hv hnm
    generalize refMay d.n s = x at *
    generalize d.n = n at *
    go_enter Tryd.func66, Tryd.ntmps66
    go_wp2_with fail
    refine (HM.out _).mono ?_
    rintro e w1 ⟨rfl, hb1⟩
    (have BD := Lib.hid ((Blk.new w 23 #[.int .i64 d.x, .int .i64 d.y, .int .i64 d.z]).below hb1); have HB := Lib.hid (below_then (show Below w.heap.size w (w.alloc (.cells #[.int .i64 d.x, .int .i64 d.y, .int .i64 d.z] 23)) by (repeat (first | (with_reducible exact Below.refl _ _) | (with_reducible assumption) | (with_reducible refine below_alloc ?_ _) | (with_reducible refine below_drewN ?_ _) | (with_reducible refine Below.drew ?_) | (with_reducible refine below_then ?_ (by with_reducible assumption)) | (with_reducible refine Below.setCell ?_ (by go_size) _)))) hb1); clear hb1)
    (have d0 := (BD.out).cell 0 _ rfl; have d1 := (BD.out).cell 1 _ rfl; have d2 := (BD.out).cell 2 _ rfl)
    go_wp2_with fail
    refine (HN.out _).mono ?_
    rintro e w2 ⟨rfl, hb⟩
    have HB := Lib.hid (below_then HB.out hb)
    clear hb
    (clear d0 d1 d2)
    go_wp2_with fail
    refine (HS.out _ HB.out).mono ?_
    rintro e w3 ⟨rfl, hw3⟩
    have hw3 := hw3.symm
    subst hw3
    go_wp2_with fail
    go_returns
    exact ⟨rfl, HB.out⟩
  · have hv : decide (oneE d s = 0) = false := by unfold oneE; rw [if_neg hd]; rfl
    rw [hv]
    rw [decide_eq_false hd] at HM
    clear hd hs hv
    go_enter Tryd.func66, Tryd.ntmps66
    go_wp2_with ((with_reducible refine (HM.out _).mono ?_); rintro e w1 ⟨rfl, hb1⟩; (obtain ⟨hc1, hf1⟩ := bcell hb1; have hz1 := hb1.size; (try simp at hz1); have hB : Below w.heap.size w w1 := (by (repeat (first | (with_reducible exact Below.refl _ _) | (with_reducible assumption) | (with_reducible refine below_alloc ?_ _) | (with_reducible refine below_drewN ?_ _) | (with_reducible refine Below.drew ?_) | (with_reducible refine below_then ?_ (by with_reducible assumption)) | (with_reducible refine Below.setCell ?_ (by go_size) _)))); obtain ⟨hcB, hfB⟩ := bcell hB; (try have z0 : w.heap.size < w1.heap.size := by omega); (try have z1 : w.heap.size + 1 < w1.heap.size := by omega); (try have z2 : w.heap.size + 2 < w1.heap.size := by omega); (try have z3 : w.heap.size + 3 < w1.heap.size := by omega)))
    all_goals
      go_returns
      exact ⟨rfl, by (repeat (first | (with_reducible exact Below.refl _ _) | (with_reducible assumption) | (with_reducible refine below_alloc ?_ _) | (with_reducible refine below_drewN ?_ _) | (with_reducible refine Below.drew ?_) | (with_reducible refine below_then ?_ (by with_reducible assumption)) | (with_reducible refine Below.setCell ?_ (by go_size) _)))⟩
theorem cntV_le (d : V3) (a b : List Bool) (hd : d.may) : cntV d a b ≤ 24576 := by
  have h1 := cntTo_le d (tAt a) (tAt b) d.n.toNat
  have h2 := V3.n_le hd
  unfold cntV
  omega
set_option maxRecDepth 100000 in set_option maxHeartbeats 4000000 in
theorem ref14_Open (d : V3) (ba bb : Option Addr) (ca cb : Nat) (a b : List Nat) (w : World) (ha : SetIn w ba a) (hb : SetIn w bb b) :
    Calls Tryd.prog 34 #[.agg #[.int .i64 d.x, .int .i64 d.y, .int .i64 d.z], .slice ba a.length ca, .slice bb b.length cb] w (RB w (.tuple #[.int .i64 (openV d a b), .int .i64 (openE d a b)])) := by
  have M1 := Lib.hid (fun W (h : Below w.heap.size w W) => ref14_may d ba ca a W (ha.keep h))
  have M2 := Lib.hid (fun W (h : Below w.heap.size w W) => ref14_may d bb cb b W (hb.keep h))
  by_cases h1 : oneE d a = 0
  · rw [decide_eq_true h1] at M1
    by_cases h2 : oneE d b = 0
    · rw [decide_eq_true h2] at M2
      have hd := (oneE_0 h1).1
      have hE : openE d a b = 0 := openE_of hd (oneE_0 h1).2 (oneE_0 h2).2
      have hV := open_cnt hE ha.fit hb.fit
      have T1 := Lib.hid (fun W (h : Below w.heap.size w W) => ref14_truths d ba ca a W hd (ha.keep h))
      have T2 := Lib.hid (fun W (h : Below w.heap.size w W) => ref14_truths d bb cb b W hd (hb.keep h))
      have la := trL_len a d.n.toNat
      have lb := trL_len b d.n.toNat
      have hnn := V3.n_le hd
      have HC := Lib.hid (fun x y cx cy W (hx : BIn W x (trL a d.n.toNat)) (hy : BIn W y (trL b d.n.toNat)) => ref14_counted d x y cx cy _ _ W hd hx hy la lb)
      rw [hE, hV]
      generalize cntV d (trL a d.n.toNat) (trL b d.n.toNat) = C at *
      generalize trL a d.n.toNat = X at *
      generalize trL b d.n.toNat = Y at *
      clear h1 h2 hE hV ha hb hd
      have xl : X.length ≤ 100000 := by omega
      have yl : Y.length ≤ 100000 := by omega
      clear la lb
      go_enter Tryd.func34, Tryd.ntmps34
      go_wp2_with fail
      refine (M1.out _ (by (repeat (first | (with_reducible exact Below.refl _ _) | (with_reducible assumption) | (with_reducible refine below_alloc ?_ _) | (with_reducible refine below_drewN ?_ _) | (with_reducible refine Below.drew ?_) | (with_reducible refine below_then ?_ (by with_reducible assumption)) | (with_reducible refine Below.setCell ?_ (by go_size) _))))).mono ?_
      rintro e w1 ⟨rfl, hb1⟩
      (have BD := Lib.hid ((Blk.new w 23 #[.int .i64 d.x, .int .i64 d.y, .int .i64 d.z]).below hb1); have HB := Lib.hid (below_then (show Below w.heap.size w (w.alloc (.cells #[.int .i64 d.x, .int .i64 d.y, .int .i64 d.z] 23)) by (repeat (first | (with_reducible exact Below.refl _ _) | (with_reducible assumption) | (with_reducible refine below_alloc ?_ _) | (with_reducible refine below_drewN ?_ _) | (with_reducible refine Below.drew ?_) | (with_reducible refine below_then ?_ (by with_reducible assumption)) | (with_reducible refine Below.setCell ?_ (by go_size) _)))) hb1); clear hb1)
      (have d0 := (BD.out).cell 0 _ rfl; have d1 := (BD.out).cell 1 _ rfl; have d2 := (BD.out).cell 2 _ rfl)
      go_wp2_with fail
      refine (M2.out _ HB.out).mono ?_
      rintro e w2 ⟨rfl, hb⟩
      have HB := Lib.hid (below_then HB.out hb)
      have BD := Lib.hid (BD.out.below hb)
      clear hb
      (clear d0 d1 d2)
      have zs := HB.out.size
      have hld := BD.out.lt
      have U1 := Lib.hid (fun W (h : Below w2.heap.size w2 W) => T1.out W (below_then HB.out h))
      have U2 := Lib.hid (fun W (h : Below w2.heap.size w2 W) => T2.out W (below_then HB.out h))
      go_wp2_with fail
      (have d0 := (BD.out).cell 0 _ rfl; have d1 := (BD.out).cell 1 _ rfl; have d2 := (BD.out).cell 2 _ rfl)
      have mixed : Tryd.prog.follows .mixedOrders = true := by kernel_rfl
      go_region_held3 (fun W => W.cell? ⟨w.heap.size, 0, none⟩ = some (.int .i64 d.x) ∧ W.cell? ⟨w.heap.size, 1, none⟩ = some (.int .i64 d.y) ∧ W.cell? ⟨w.heap.size, 2, none⟩ = some (.int .i64 d.z)) (go_keep)
        (first
          | ((with_reducible refine (U1.out _ (by (repeat (first | (with_reducible exact Below.refl _ _) | (with_reducible assumption) | (with_reducible refine below_alloc ?_ _) | (with_reducible refine below_drewN ?_ _) | (with_reducible refine Below.drew ?_) | (with_reducible refine below_then ?_ (by with_reducible assumption)) | (with_reducible refine Below.setCell ?_ (by go_size) _))))).mono ?_); rintro e wa ⟨va, rfl, hoa, hba⟩; obtain ⟨xa, ca', rfl, la'⟩ := bools_of_own hoa xl; have hza := hba.size; (try simp at hza); have HBa := below_then (show Below w2.heap.size w2 _ by (repeat (first | (with_reducible exact Below.refl _ _) | (with_reducible assumption) | (with_reducible refine below_alloc ?_ _) | (with_reducible refine below_drewN ?_ _) | (with_reducible refine Below.drew ?_) | (with_reducible refine below_then ?_ (by with_reducible assumption)) | (with_reducible refine Below.setCell ?_ (by go_size) _)))) hba; (have d0 := ((BD.out.below HBa)).cell 0 _ rfl; have d1 := ((BD.out.below HBa)).cell 1 _ rfl; have d2 := ((BD.out.below HBa)).cell 2 _ rfl))
          | ((with_reducible refine (U2.out _ (by (repeat (first | (with_reducible exact Below.refl _ _) | (with_reducible assumption) | (with_reducible refine below_alloc ?_ _) | (with_reducible refine below_drewN ?_ _) | (with_reducible refine Below.drew ?_) | (with_reducible refine below_then ?_ (by with_reducible assumption)) | (with_reducible refine Below.setCell ?_ (by go_size) _))))).mono ?_); rintro e wb ⟨vb, rfl, hob, hbb⟩; obtain ⟨xb, cb', rfl, lb'⟩ := bools_of_own hob yl; have hzb := hbb.size; (try simp at hzb); have HBb := below_then (show Below w2.heap.size w2 _ by (repeat (first | (with_reducible exact Below.refl _ _) | (with_reducible assumption) | (with_reducible refine below_alloc ?_ _) | (with_reducible refine below_drewN ?_ _) | (with_reducible refine Below.drew ?_) | (with_reducible refine below_then ?_ (by with_reducible assumption)) | (with_reducible refine Below.setCell ?_ (by go_size) _)))) hbb; (have d0 := ((BD.out.below HBb)).cell 0 _ rfl; have d1 := ((BD.out.below HBb)).cell 1 _ rfl; have d2 := ((BD.out.below HBb)).cell 2 _ rfl))
          | ((with_reducible refine (HC.out xa xb ca' cb' _ (la'.keep (by (repeat (first | (with_reducible exact Below.refl _ _) | (with_reducible assumption) | (with_reducible refine below_alloc ?_ _) | (with_reducible refine below_drewN ?_ _) | (with_reducible refine Below.drew ?_) | (with_reducible refine below_then ?_ (by with_reducible assumption)) | (with_reducible refine Below.setCell ?_ (by go_size) _))))) (lb'.keep (by (repeat (first | (with_reducible exact Below.refl _ _) | (with_reducible assumption) | (with_reducible refine below_alloc ?_ _) | (with_reducible refine below_drewN ?_ _) | (with_reducible refine Below.drew ?_) | (with_reducible refine below_then ?_ (by with_reducible assumption)) | (with_reducible refine Below.setCell ?_ (by go_size) _)))))).mono ?_); rintro e wc ⟨rfl, hbc⟩; have hzc := hbc.size; (try simp at hzc); have HBc := below_then (show Below w2.heap.size w2 _ by (repeat (first | (with_reducible exact Below.refl _ _) | (with_reducible assumption) | (with_reducible refine below_alloc ?_ _) | (with_reducible refine below_drewN ?_ _) | (with_reducible refine Below.drew ?_) | (with_reducible refine below_then ?_ (by with_reducible assumption)) | (with_reducible refine Below.setCell ?_ (by go_size) _)))) hbc; (have d0 := ((BD.out.below HBc)).cell 0 _ rfl; have d1 := ((BD.out.below HBc)).cell 1 _ rfl; have d2 := ((BD.out.below HBc)).cell 2 _ rfl)))
      all_goals go_wp2_with fail
      all_goals go_returns
      all_goals exact ⟨rfl, below_then HB.out HBc⟩
    · rw [decide_eq_false h2] at M2
      have hE : openE d a b = 8 := by
        unfold openE
        rcases oneE_0 h1 with ⟨hd, hc⟩
        rw [if_pos hd, if_pos hc, if_neg (fun h => h2 (by unfold oneE; rw [if_pos hd, if_pos h]))]
      have hV : openV d a b = 0 := if_neg (by rw [hE]; decide)
      rw [hE, hV]
      clear h1 h2 hE hV ha hb
      go_enter Tryd.func34, Tryd.ntmps34
      go_wp2_with fail
      refine (M1.out _ (by (repeat (first | (with_reducible exact Below.refl _ _) | (with_reducible assumption) | (with_reducible refine below_alloc ?_ _) | (with_reducible refine below_drewN ?_ _) | (with_reducible refine Below.drew ?_) | (with_reducible refine below_then ?_ (by with_reducible assumption)) | (with_reducible refine Below.setCell ?_ (by go_size) _))))).mono ?_
      rintro e w1 ⟨rfl, hb1⟩
      (have BD := Lib.hid ((Blk.new w 23 #[.int .i64 d.x, .int .i64 d.y, .int .i64 d.z]).below hb1); have HB := Lib.hid (below_then (show Below w.heap.size w (w.alloc (.cells #[.int .i64 d.x, .int .i64 d.y, .int .i64 d.z] 23)) by (repeat (first | (with_reducible exact Below.refl _ _) | (with_reducible assumption) | (with_reducible refine below_alloc ?_ _) | (with_reducible refine below_drewN ?_ _) | (with_reducible refine Below.drew ?_) | (with_reducible refine below_then ?_ (by with_reducible assumption)) | (with_reducible refine Below.setCell ?_ (by go_size) _)))) hb1); clear hb1)
      (have d0 := (BD.out).cell 0 _ rfl; have d1 := (BD.out).cell 1 _ rfl; have d2 := (BD.out).cell 2 _ rfl)
      go_wp2_with fail
      refine (M2.out _ HB.out).mono ?_
      rintro e w2 ⟨rfl, hb⟩
      have HB := Lib.hid (below_then HB.out hb)
      clear hb
      go_wp2_with fail
      go_returns
      exact ⟨rfl, HB.out⟩
  · rw [decide_eq_false h1] at M1
    have hE : openE d a b = 8 := by
      unfold openE
      by_cases hd : d.may
      · rw [if_pos hd, if_neg (fun h => h1 (by unfold oneE; rw [if_pos hd, if_pos h]))]
      · rw [if_neg hd]
    have hV : openV d a b = 0 := if_neg (by rw [hE]; decide)
    rw [hE, hV]
    clear h1 hE hV ha hb
    go_enter Tryd.func34, Tryd.ntmps34
    go_wp2_with fail
    refine (M1.out _ (by (repeat (first | (with_reducible exact Below.refl _ _) | (with_reducible assumption) | (with_reducible refine below_alloc ?_ _) | (with_reducible refine below_drewN ?_ _) | (with_reducible refine Below.drew ?_) | (with_reducible refine below_then ?_ (by with_reducible assumption)) | (with_reducible refine Below.setCell ?_ (by go_size) _))))).mono ?_
    rintro e w1 ⟨rfl, hb1⟩
    (have BD := Lib.hid ((Blk.new w 23 #[.int .i64 d.x, .int .i64 d.y, .int .i64 d.z]).below hb1); have HB := Lib.hid (below_then (show Below w.heap.size w (w.alloc (.cells #[.int .i64 d.x, .int .i64 d.y, .int .i64 d.z] 23)) by (repeat (first | (with_reducible exact Below.refl _ _) | (with_reducible assumption) | (with_reducible refine below_alloc ?_ _) | (with_reducible refine below_drewN ?_ _) | (with_reducible refine Below.drew ?_) | (with_reducible refine below_then ?_ (by with_reducible assumption)) | (with_reducible refine Below.setCell ?_ (by go_size) _)))) hb1); clear hb1)
    go_wp2_with fail
    go_returns
    exact ⟨rfl, HB.out⟩
set_option maxRecDepth 100000 in set_option maxHeartbeats 4000000 in
theorem ref14_Spread (d : V3) (bs : Option Addr) (cs : Nat) (s : List Nat) (w : World) (hs : SetIn w bs s) :
    Calls Tryd.prog 36 #[.agg #[.int .i64 d.x, .int .i64 d.y, .int .i64 d.z], .slice bs s.length cs] w (RB w (.tuple #[.int .i64 (spreadV d s), .int .i64 (oneE d s)])) := by
  have M1 := Lib.hid (fun W (h : Below w.heap.size w W) => ref14_may d bs cs s W (hs.keep h))
  by_cases h1 : oneE d s = 0
  · rw [decide_eq_true h1] at M1
    have hd := (oneE_0 h1).1
    have hV := spread_cnt h1 hs.fit
    have T1 := Lib.hid (fun W (h : Below w.heap.size w W) => ref14_truths d bs cs s W hd (hs.keep h))
    have la := trL_len s d.n.toNat
    have lb := notL_len (trL s d.n.toNat) (trL s d.n.toNat) d.n.toNat
    have hnn := V3.n_le hd
    have HN := Lib.hid (fun x cx W (hx : BIn W x (trL s d.n.toNat)) => show Calls Tryd.prog 71 #[.slice x (trL s d.n.toNat).length cx, .slice x (trL s d.n.toNat).length cx] W (RBL W (notL (trL s d.n.toNat) (trL s d.n.toNat) d.n.toNat)) from by have hh := ref14_not x x cx cx _ _ W hx hx rfl; rw [la] at hh ⊢; exact hh)
    have HC := Lib.hid (fun x y cx cy W (hx : BIn W x (notL (trL s d.n.toNat) (trL s d.n.toNat) d.n.toNat)) (hy : BIn W y (trL s d.n.toNat)) => ref14_counted d x y cx cy _ _ W hd hx hy lb la)
    rw [h1, hV]
    generalize cntV d (notL (trL s d.n.toNat) (trL s d.n.toNat) d.n.toNat) (trL s d.n.toNat) = C at *
    generalize notL (trL s d.n.toNat) (trL s d.n.toNat) d.n.toNat = Y at *
    generalize trL s d.n.toNat = X at *
    clear h1 hV hs hd
    have xl : X.length ≤ 100000 := by omega
    have yl : Y.length ≤ 100000 := by omega
    clear la lb
    go_enter Tryd.func36, Tryd.ntmps36
    go_wp2_with fail
    refine (M1.out _ (by (repeat (first | (with_reducible exact Below.refl _ _) | (with_reducible assumption) | (with_reducible refine below_alloc ?_ _) | (with_reducible refine below_drewN ?_ _) | (with_reducible refine Below.drew ?_) | (with_reducible refine below_then ?_ (by with_reducible assumption)) | (with_reducible refine Below.setCell ?_ (by go_size) _))))).mono ?_
    rintro e w1 ⟨rfl, hb1⟩
    (have BD := Lib.hid ((Blk.new w 23 #[.int .i64 d.x, .int .i64 d.y, .int .i64 d.z]).below hb1); have HB := Lib.hid (below_then (show Below w.heap.size w (w.alloc (.cells #[.int .i64 d.x, .int .i64 d.y, .int .i64 d.z] 23)) by (repeat (first | (with_reducible exact Below.refl _ _) | (with_reducible assumption) | (with_reducible refine below_alloc ?_ _) | (with_reducible refine below_drewN ?_ _) | (with_reducible refine Below.drew ?_) | (with_reducible refine below_then ?_ (by with_reducible assumption)) | (with_reducible refine Below.setCell ?_ (by go_size) _)))) hb1); clear hb1)
    (have d0 := (BD.out).cell 0 _ rfl; have d1 := (BD.out).cell 1 _ rfl; have d2 := (BD.out).cell 2 _ rfl)
    go_wp2_with fail
    refine (T1.out _ HB.out).mono ?_
    rintro e w2 ⟨v, rfl, ov, hb⟩
    have HB := Lib.hid (below_then HB.out hb)
    have BD := Lib.hid (BD.out.below hb)
    obtain ⟨xa, xc, rfl, lx⟩ := bools_of_own ov xl
    have LX := Lib.hid lx
    clear hb ov lx
    (clear d0 d1 d2)
    have zs := HB.out.size
    have hld := BD.out.lt
    have U1 := Lib.hid (fun W (h : Below w2.heap.size w2 W) => HN.out xa xc W (LX.out.keep h))
    have U2 := Lib.hid (fun y cy W (h : Below w2.heap.size w2 W) (hy : BIn W y Y) => HC.out y xa cy xc W hy (LX.out.keep h))
    go_wp2_with fail
    (have d0 := (BD.out).cell 0 _ rfl; have d1 := (BD.out).cell 1 _ rfl; have d2 := (BD.out).cell 2 _ rfl)
    have mixed : Tryd.prog.follows .mixedOrders = true := by kernel_rfl
    go_region_held3 (fun W => W.cell? ⟨w.heap.size, 0, none⟩ = some (.int .i64 d.x) ∧ W.cell? ⟨w.heap.size, 1, none⟩ = some (.int .i64 d.y) ∧ W.cell? ⟨w.heap.size, 2, none⟩ = some (.int .i64 d.z)) (go_keep)
      (first
        | ((with_reducible refine (U1.out _ (by (repeat (first | (with_reducible exact Below.refl _ _) | (with_reducible assumption) | (with_reducible refine below_alloc ?_ _) | (with_reducible refine below_drewN ?_ _) | (with_reducible refine Below.drew ?_) | (with_reducible refine below_then ?_ (by with_reducible assumption)) | (with_reducible refine Below.setCell ?_ (by go_size) _))))).mono ?_); rintro e wa ⟨va, rfl, hoa, hba⟩; obtain ⟨ya, yc, rfl, ly⟩ := bools_of_own hoa yl; have hza := hba.size; (try simp at hza); have HBa := below_then (show Below w2.heap.size w2 _ by (repeat (first | (with_reducible exact Below.refl _ _) | (with_reducible assumption) | (with_reducible refine below_alloc ?_ _) | (with_reducible refine below_drewN ?_ _) | (with_reducible refine Below.drew ?_) | (with_reducible refine below_then ?_ (by with_reducible assumption)) | (with_reducible refine Below.setCell ?_ (by go_size) _)))) hba; (have d0 := ((BD.out.below HBa)).cell 0 _ rfl; have d1 := ((BD.out.below HBa)).cell 1 _ rfl; have d2 := ((BD.out.below HBa)).cell 2 _ rfl))
        | ((with_reducible refine (U2.out ya yc _ (by (repeat (first | (with_reducible exact Below.refl _ _) | (with_reducible assumption) | (with_reducible refine below_alloc ?_ _) | (with_reducible refine below_drewN ?_ _) | (with_reducible refine Below.drew ?_) | (with_reducible refine below_then ?_ (by with_reducible assumption)) | (with_reducible refine Below.setCell ?_ (by go_size) _)))) (ly.keep (by (repeat (first | (with_reducible exact Below.refl _ _) | (with_reducible assumption) | (with_reducible refine below_alloc ?_ _) | (with_reducible refine below_drewN ?_ _) | (with_reducible refine Below.drew ?_) | (with_reducible refine below_then ?_ (by with_reducible assumption)) | (with_reducible refine Below.setCell ?_ (by go_size) _)))))).mono ?_); rintro e wc ⟨rfl, hbc⟩; have hzc := hbc.size; (try simp at hzc); have HBc := below_then (show Below w2.heap.size w2 _ by (repeat (first | (with_reducible exact Below.refl _ _) | (with_reducible assumption) | (with_reducible refine below_alloc ?_ _) | (with_reducible refine below_drewN ?_ _) | (with_reducible refine Below.drew ?_) | (with_reducible refine below_then ?_ (by with_reducible assumption)) | (with_reducible refine Below.setCell ?_ (by go_size) _)))) hbc; (have d0 := ((BD.out.below HBc)).cell 0 _ rfl; have d1 := ((BD.out.below HBc)).cell 1 _ rfl; have d2 := ((BD.out.below HBc)).cell 2 _ rfl)))
    all_goals go_wp2_with fail
    all_goals go_returns
    all_goals exact ⟨rfl, below_then HB.out HBc⟩
  · rw [decide_eq_false h1] at M1
    have hE : oneE d s = 8 := (oneE_08 d s).resolve_left h1
    have hV : spreadV d s = 0 := if_neg h1
    rw [hE, hV]
    clear h1 hE hV hs
    go_enter Tryd.func36, Tryd.ntmps36
    go_wp2_with fail
    refine (M1.out _ (by (repeat (first | (with_reducible exact Below.refl _ _) | (with_reducible assumption) | (with_reducible refine below_alloc ?_ _) | (with_reducible refine below_drewN ?_ _) | (with_reducible refine Below.drew ?_) | (with_reducible refine below_then ?_ (by with_reducible assumption)) | (with_reducible refine Below.setCell ?_ (by go_size) _))))).mono ?_
    rintro e w1 ⟨rfl, hb1⟩
    (have BD := Lib.hid ((Blk.new w 23 #[.int .i64 d.x, .int .i64 d.y, .int .i64 d.z]).below hb1); have HB := Lib.hid (below_then (show Below w.heap.size w (w.alloc (.cells #[.int .i64 d.x, .int .i64 d.y, .int .i64 d.z] 23)) by (repeat (first | (with_reducible exact Below.refl _ _) | (with_reducible assumption) | (with_reducible refine below_alloc ?_ _) | (with_reducible refine below_drewN ?_ _) | (with_reducible refine Below.drew ?_) | (with_reducible refine below_then ?_ (by with_reducible assumption)) | (with_reducible refine Below.setCell ?_ (by go_size) _)))) hb1); clear hb1)
    go_wp2_with fail
    go_returns
    exact ⟨rfl, HB.out⟩
set_option maxRecDepth 100000 in set_option maxHeartbeats 4000000 in
theorem ref14_Score (d : V3) (p : Pl) (bs : Option Addr) (cs : Nat) (s : List Nat) (w : World) (hz : plChk d p = 0) (h1 : oneE d s = 0) (hs : SetIn w bs s) :
    Calls Tryd.prog 70 #[.agg #[.int .i64 d.x, .int .i64 d.y, .int .i64 d.z], .agg #[.int .i64 p.b.b.x, .int .i64 p.b.b.y, .int .i64 p.b.b.z, .int .i64 p.b.s.x, .int .i64 p.b.s.y, .int .i64 p.b.s.z, .bool p.t0, .bool p.t1, .bool p.t2], .slice bs s.length cs] w (RB w (.int .i64 (scoreV d p s))) := by
  have hd := (oneE_0 h1).1
  have hV := score_cnt hz h1 hs.fit
  have HT := Lib.hid (fun W => ref06_Taken d p W hz)
  have T1 := Lib.hid (fun ba ca W (h : SetIn W ba (midsV d p)) => ref14_truths d ba ca _ W hd h)
  have T2 := Lib.hid (fun W (h : Below w.heap.size w W) => ref14_truths d bs cs s W hd (hs.keep h))
  have la := trL_len s d.n.toNat
  have lb := trL_len (midsV d p) d.n.toNat
  have lc := notL_len (trL s d.n.toNat) (trL (midsV d p) d.n.toNat) d.n.toNat
  have hnn := V3.n_le hd
  have F1 := Lib.hid (And.intro (midsV_fit d p) (linksV_fit d p))
  have l1 := midsV_len d p
  have l2 := linksV_len d p
  have l3 := numsTo_len (linksV d p) (64 * (linksV d p).length)
  change (nums (linksV d p)).length ≤ _ at l3
  have HN := Lib.hid (fun x y cx cy W (hx : BIn W x (trL s d.n.toNat)) (hy : BIn W y (trL (midsV d p) d.n.toNat)) => show Calls Tryd.prog 71 #[.slice x (trL s d.n.toNat).length cx, .slice y (trL (midsV d p) d.n.toNat).length cy] W (RBL W (notL (trL s d.n.toNat) (trL (midsV d p) d.n.toNat) d.n.toNat)) from by have hh := ref14_not x y cx cy _ _ W hx hy (by rw [la, lb]); rw [la] at hh ⊢; exact hh)
  have HC := Lib.hid (fun x y cx cy W (hx : BIn W x (trL (midsV d p) d.n.toNat)) (hy : BIn W y (notL (trL s d.n.toNat) (trL (midsV d p) d.n.toNat) d.n.toNat)) => ref14_counted d x y cx cy _ _ W hd hx hy lb lc)
  have HAL := Lib.hid (fun ba ca W (h : SetIn W ba (linksV d p)) => ref03_All ba ca (linksV d p) W h (by omega))
  have hcl := cntV_le d (trL (midsV d p) d.n.toNat) (notL (trL s d.n.toNat) (trL (midsV d p) d.n.toNat) d.n.toNat) hd
  rw [hV]
  generalize cntV d (trL (midsV d p) d.n.toNat) (notL (trL s d.n.toNat) (trL (midsV d p) d.n.toNat) d.n.toNat) = C at *
  generalize notL (trL s d.n.toNat) (trL (midsV d p) d.n.toNat) d.n.toNat = Y at *
  generalize trL s d.n.toNat = X at *
  generalize trL (midsV d p) d.n.toNat = Z at *
  generalize midsV d p = M at *
  generalize nums (linksV d p) = NL at *
  generalize linksV d p = L at *
  have hb1 : X.length ≤ 4096 := by omega
  have hb2 : Z.length ≤ 4096 := by omega
  have hb3 : Y.length ≤ 4096 := by omega
  have hb4 : NL.length ≤ 12288 := by omega
  clear h1 hV hs hz hd la lb lc l3
  go_enter Tryd.func70, Tryd.ntmps70
  go_wp2_with fail
  refine (HT.out _).mono ?_
  rintro e w1 ⟨v, u, rfl, ov, ou, hb1⟩
  obtain ⟨xm, cm, rfl, sm, _⟩ := set_of_own ov (by omega) F1.out.1
  obtain ⟨xl, cl, rfl, sl, _⟩ := set_of_own ou (by omega) F1.out.2
  have SM := Lib.hid sm
  have SL := Lib.hid sl
  clear ov ou sm sl
  (have BD := Lib.hid (((Blk.new w 23 #[.int .i64 d.x, .int .i64 d.y, .int .i64 d.z]).alloc (.cells #[.int .i64 p.b.b.x, .int .i64 p.b.b.y, .int .i64 p.b.b.z, .int .i64 p.b.s.x, .int .i64 p.b.s.y, .int .i64 p.b.s.z, .bool p.t0, .bool p.t1, .bool p.t2] 28)).below hb1); have BP := Lib.hid ((by have := (Blk.new (w.alloc (.cells #[.int .i64 d.x, .int .i64 d.y, .int .i64 d.z] 23)) 28 #[.int .i64 p.b.b.x, .int .i64 p.b.b.y, .int .i64 p.b.b.z, .int .i64 p.b.s.x, .int .i64 p.b.s.y, .int .i64 p.b.s.z, .bool p.t0, .bool p.t1, .bool p.t2]).below hb1; rwa [World.size_alloc] at this : Blk w1 (w.heap.size + 1) 28 #[.int .i64 p.b.b.x, .int .i64 p.b.b.y, .int .i64 p.b.b.z, .int .i64 p.b.s.x, .int .i64 p.b.s.y, .int .i64 p.b.s.z, .bool p.t0, .bool p.t1, .bool p.t2])); have HB := Lib.hid (below_then (show Below w.heap.size w ((w.alloc (.cells #[.int .i64 d.x, .int .i64 d.y, .int .i64 d.z] 23)).alloc (.cells #[.int .i64 p.b.b.x, .int .i64 p.b.b.y, .int .i64 p.b.b.z, .int .i64 p.b.s.x, .int .i64 p.b.s.y, .int .i64 p.b.s.z, .bool p.t0, .bool p.t1, .bool p.t2] 28)) by (repeat (first | (with_reducible exact Below.refl _ _) | (with_reducible assumption) | (with_reducible refine below_alloc ?_ _) | (with_reducible refine below_drewN ?_ _) | (with_reducible refine Below.drew ?_) | (with_reducible refine below_then ?_ (by with_reducible assumption)) | (with_reducible refine Below.setCell ?_ (by go_size) _)))) hb1); clear hb1)
  (have d0 := (BD.out).cell 0 _ rfl; have d1 := (BD.out).cell 1 _ rfl; have d2 := (BD.out).cell 2 _ rfl)
  go_wp2_with fail
  refine (T1.out _ _ _ SM.out).mono ?_
  rintro e w2 ⟨v, rfl, ov, hb⟩
  have HB := Lib.hid (below_then HB.out hb)
  have BD := Lib.hid (BD.out.below hb)
  have SL := Lib.hid (SL.out.keep hb)
  obtain ⟨xz, cz, rfl, lz⟩ := bools_of_own ov (by omega)
  have LZ := Lib.hid lz
  clear hb ov lz
  (clear d0 d1 d2)
  have zs := HB.out.size
  have hld := BD.out.lt
  have U1 := Lib.hid (fun W (h : Below w2.heap.size w2 W) => T2.out W (below_then HB.out h))
  have U2 := Lib.hid (fun x cx W (h : Below w2.heap.size w2 W) (hx : BIn W x X) => HN.out x xz cx cz W hx (LZ.out.keep h))
  have U3 := Lib.hid (fun y cy W (h : Below w2.heap.size w2 W) (hy : BIn W y Y) => HC.out xz y cz cy W (LZ.out.keep h) hy)
  have U4 := Lib.hid (fun W (h : Below w2.heap.size w2 W) => HAL.out xl cl W (SL.out.keep h))
  go_wp2_with fail
  (have d0 := (BD.out).cell 0 _ rfl; have d1 := (BD.out).cell 1 _ rfl; have d2 := (BD.out).cell 2 _ rfl)
  have mixed : Tryd.prog.follows .mixedOrders = true := by kernel_rfl
  go_region_held3 (fun W => W.cell? ⟨w.heap.size, 0, none⟩ = some (.int .i64 d.x) ∧ W.cell? ⟨w.heap.size, 1, none⟩ = some (.int .i64 d.y) ∧ W.cell? ⟨w.heap.size, 2, none⟩ = some (.int .i64 d.z)) (go_keep)
    (first
      | ((with_reducible refine (U1.out _ (by (repeat (first | (with_reducible exact Below.refl _ _) | (with_reducible assumption) | (with_reducible refine below_alloc ?_ _) | (with_reducible refine below_drewN ?_ _) | (with_reducible refine Below.drew ?_) | (with_reducible refine below_then ?_ (by with_reducible assumption)) | (with_reducible refine Below.setCell ?_ (by go_size) _))))).mono ?_); rintro e wa ⟨va, rfl, hoa, hba⟩; obtain ⟨xa, ca, rfl, lx⟩ := bools_of_own hoa (by omega); have hza := hba.size; (try simp at hza); have HBa := below_then (show Below w2.heap.size w2 _ by (repeat (first | (with_reducible exact Below.refl _ _) | (with_reducible assumption) | (with_reducible refine below_alloc ?_ _) | (with_reducible refine below_drewN ?_ _) | (with_reducible refine Below.drew ?_) | (with_reducible refine below_then ?_ (by with_reducible assumption)) | (with_reducible refine Below.setCell ?_ (by go_size) _)))) hba; (have d0 := ((BD.out.below HBa)).cell 0 _ rfl; have d1 := ((BD.out.below HBa)).cell 1 _ rfl; have d2 := ((BD.out.below HBa)).cell 2 _ rfl))
      | ((with_reducible refine (U2.out xa ca _ (by (repeat (first | (with_reducible exact Below.refl _ _) | (with_reducible assumption) | (with_reducible refine below_alloc ?_ _) | (with_reducible refine below_drewN ?_ _) | (with_reducible refine Below.drew ?_) | (with_reducible refine below_then ?_ (by with_reducible assumption)) | (with_reducible refine Below.setCell ?_ (by go_size) _)))) (lx.keep (by (repeat (first | (with_reducible exact Below.refl _ _) | (with_reducible assumption) | (with_reducible refine below_alloc ?_ _) | (with_reducible refine below_drewN ?_ _) | (with_reducible refine Below.drew ?_) | (with_reducible refine below_then ?_ (by with_reducible assumption)) | (with_reducible refine Below.setCell ?_ (by go_size) _)))))).mono ?_); rintro e wb ⟨vb, rfl, hob, hbb⟩; obtain ⟨xb, cb, rfl, ly⟩ := bools_of_own hob (by omega); have hzb := hbb.size; (try simp at hzb); have HBb := below_then (show Below w2.heap.size w2 _ by (repeat (first | (with_reducible exact Below.refl _ _) | (with_reducible assumption) | (with_reducible refine below_alloc ?_ _) | (with_reducible refine below_drewN ?_ _) | (with_reducible refine Below.drew ?_) | (with_reducible refine below_then ?_ (by with_reducible assumption)) | (with_reducible refine Below.setCell ?_ (by go_size) _)))) hbb; (have d0 := ((BD.out.below HBb)).cell 0 _ rfl; have d1 := ((BD.out.below HBb)).cell 1 _ rfl; have d2 := ((BD.out.below HBb)).cell 2 _ rfl))
      | ((with_reducible refine (U3.out xb cb _ (by (repeat (first | (with_reducible exact Below.refl _ _) | (with_reducible assumption) | (with_reducible refine below_alloc ?_ _) | (with_reducible refine below_drewN ?_ _) | (with_reducible refine Below.drew ?_) | (with_reducible refine below_then ?_ (by with_reducible assumption)) | (with_reducible refine Below.setCell ?_ (by go_size) _)))) (ly.keep (by (repeat (first | (with_reducible exact Below.refl _ _) | (with_reducible assumption) | (with_reducible refine below_alloc ?_ _) | (with_reducible refine below_drewN ?_ _) | (with_reducible refine Below.drew ?_) | (with_reducible refine below_then ?_ (by with_reducible assumption)) | (with_reducible refine Below.setCell ?_ (by go_size) _)))))).mono ?_); rintro e wc ⟨rfl, hbc⟩; have hzc := hbc.size; (try simp at hzc); have HBc := below_then (show Below w2.heap.size w2 _ by (repeat (first | (with_reducible exact Below.refl _ _) | (with_reducible assumption) | (with_reducible refine below_alloc ?_ _) | (with_reducible refine below_drewN ?_ _) | (with_reducible refine Below.drew ?_) | (with_reducible refine below_then ?_ (by with_reducible assumption)) | (with_reducible refine Below.setCell ?_ (by go_size) _)))) hbc; (have d0 := ((BD.out.below HBc)).cell 0 _ rfl; have d1 := ((BD.out.below HBc)).cell 1 _ rfl; have d2 := ((BD.out.below HBc)).cell 2 _ rfl))
      | ((with_reducible refine (U4.out _ (by (repeat (first | (with_reducible exact Below.refl _ _) | (with_reducible assumption) | (with_reducible refine below_alloc ?_ _) | (with_reducible refine below_drewN ?_ _) | (with_reducible refine Below.drew ?_) | (with_reducible refine below_then ?_ (by with_reducible assumption)) | (with_reducible refine Below.setCell ?_ (by go_size) _))))).mono ?_); rintro e wd ⟨vd, rfl, hod, hbd⟩; obtain ⟨xd, cd, rfl, ld, _⟩ := list_of_own hod (by omega); have hzd := hbd.size; (try simp at hzd); have HBd := below_then (show Below w2.heap.size w2 _ by (repeat (first | (with_reducible exact Below.refl _ _) | (with_reducible assumption) | (with_reducible refine below_alloc ?_ _) | (with_reducible refine below_drewN ?_ _) | (with_reducible refine Below.drew ?_) | (with_reducible refine below_then ?_ (by with_reducible assumption)) | (with_reducible refine Below.setCell ?_ (by go_size) _)))) hbd; (have d0 := ((BD.out.below HBd)).cell 0 _ rfl; have d1 := ((BD.out.below HBd)).cell 1 _ rfl; have d2 := ((BD.out.below HBd)).cell 2 _ rfl)))
  all_goals go_wp2_with fail
  all_goals go_returns
  all_goals exact ⟨by rw [IntWalk.i64_in (2 * (C : Int)) (by omega), IntWalk.i64_in (2 * (C : Int) + (NL.length : Int)) (by omega)]; rfl, below_then HB.out HBd⟩
set_option maxRecDepth 100000 in set_option maxHeartbeats 4000000 in
theorem ref14_Of (d : V3) (p : Pl) (bs : Option Addr) (cs : Nat) (s : List Nat) (w : World) (hs : SetIn w bs s) :
    Calls Tryd.prog 35 #[.agg #[.int .i64 d.x, .int .i64 d.y, .int .i64 d.z], .agg #[.int .i64 p.b.b.x, .int .i64 p.b.b.y, .int .i64 p.b.b.z, .int .i64 p.b.s.x, .int .i64 p.b.s.y, .int .i64 p.b.s.z, .bool p.t0, .bool p.t1, .bool p.t2], .slice bs s.length cs] w (RB w (.tuple #[.int .i64 (scoreV d p s), .int .i64 (scoreE d p s)])) := by
  have M1 := Lib.hid (fun W (h : Below w.heap.size w W) => ref14_may d bs cs s W (hs.keep h))
  have HC := Lib.hid (fun W => ref06_Check d p W)
  by_cases h1 : oneE d s = 0
  · rw [decide_eq_true h1] at M1
    have hE : scoreE d p s = plChk d p := if_pos h1
    by_cases hz : plChk d p = 0
    · have HS := Lib.hid (fun W (h : Below w.heap.size w W) => ref14_Score d p bs cs s W hz h1 (hs.keep h))
      rw [hE, hz]
      rw [hz] at HC
      generalize scoreV d p s = V at *
      clear hs h1 hE hz
      go_enter Tryd.func35, Tryd.ntmps35
      go_wp2_with fail
      refine (M1.out _ (by (repeat (first | (with_reducible exact Below.refl _ _) | (with_reducible assumption) | (with_reducible refine below_alloc ?_ _) | (with_reducible refine below_drewN ?_ _) | (with_reducible refine Below.drew ?_) | (with_reducible refine below_then ?_ (by with_reducible assumption)) | (with_reducible refine Below.setCell ?_ (by go_size) _))))).mono ?_
      rintro e w1 ⟨rfl, hb1⟩
      (have BD := Lib.hid (((Blk.new w 23 #[.int .i64 d.x, .int .i64 d.y, .int .i64 d.z]).alloc (.cells #[.int .i64 p.b.b.x, .int .i64 p.b.b.y, .int .i64 p.b.b.z, .int .i64 p.b.s.x, .int .i64 p.b.s.y, .int .i64 p.b.s.z, .bool p.t0, .bool p.t1, .bool p.t2] 28)).below hb1); have BP := Lib.hid ((by have := (Blk.new (w.alloc (.cells #[.int .i64 d.x, .int .i64 d.y, .int .i64 d.z] 23)) 28 #[.int .i64 p.b.b.x, .int .i64 p.b.b.y, .int .i64 p.b.b.z, .int .i64 p.b.s.x, .int .i64 p.b.s.y, .int .i64 p.b.s.z, .bool p.t0, .bool p.t1, .bool p.t2]).below hb1; rwa [World.size_alloc] at this : Blk w1 (w.heap.size + 1) 28 #[.int .i64 p.b.b.x, .int .i64 p.b.b.y, .int .i64 p.b.b.z, .int .i64 p.b.s.x, .int .i64 p.b.s.y, .int .i64 p.b.s.z, .bool p.t0, .bool p.t1, .bool p.t2])); have HB := Lib.hid (below_then (show Below w.heap.size w ((w.alloc (.cells #[.int .i64 d.x, .int .i64 d.y, .int .i64 d.z] 23)).alloc (.cells #[.int .i64 p.b.b.x, .int .i64 p.b.b.y, .int .i64 p.b.b.z, .int .i64 p.b.s.x, .int .i64 p.b.s.y, .int .i64 p.b.s.z, .bool p.t0, .bool p.t1, .bool p.t2] 28)) by (repeat (first | (with_reducible exact Below.refl _ _) | (with_reducible assumption) | (with_reducible refine below_alloc ?_ _) | (with_reducible refine below_drewN ?_ _) | (with_reducible refine Below.drew ?_) | (with_reducible refine below_then ?_ (by with_reducible assumption)) | (with_reducible refine Below.setCell ?_ (by go_size) _)))) hb1); clear hb1)
      (have d0 := (BD.out).cell 0 _ rfl; have d1 := (BD.out).cell 1 _ rfl; have d2 := (BD.out).cell 2 _ rfl)
      (have p0 := (BP.out).cell 0 _ rfl; have p1 := (BP.out).cell 1 _ rfl; have p2 := (BP.out).cell 2 _ rfl; have p3 := (BP.out).cell 3 _ rfl; have p4 := (BP.out).cell 4 _ rfl; have p5 := (BP.out).cell 5 _ rfl; have p6 := (BP.out).cell 6 _ rfl; have p7 := (BP.out).cell 7 _ rfl; have p8 := (BP.out).cell 8 _ rfl)
      go_wp2_with fail
      refine (HC.out _).mono ?_
      rintro e w2 ⟨rfl, hb⟩
      have HB := Lib.hid (below_then HB.out hb)
      have BD := Lib.hid (BD.out.below hb)
      have BP := Lib.hid (BP.out.below hb)
      clear hb
      (clear d0 d1 d2 p0 p1 p2 p3 p4 p5 p6 p7 p8)
      (have d0 := (BD.out).cell 0 _ rfl; have d1 := (BD.out).cell 1 _ rfl; have d2 := (BD.out).cell 2 _ rfl)
      (have p0 := (BP.out).cell 0 _ rfl; have p1 := (BP.out).cell 1 _ rfl; have p2 := (BP.out).cell 2 _ rfl; have p3 := (BP.out).cell 3 _ rfl; have p4 := (BP.out).cell 4 _ rfl; have p5 := (BP.out).cell 5 _ rfl; have p6 := (BP.out).cell 6 _ rfl; have p7 := (BP.out).cell 7 _ rfl; have p8 := (BP.out).cell 8 _ rfl)
      go_wp2_with fail
      refine (HS.out _ HB.out).mono ?_
      rintro e w3 ⟨rfl, hb⟩
      have HB := Lib.hid (below_then HB.out hb)
      clear hb
      (clear d0 d1 d2 p0 p1 p2 p3 p4 p5 p6 p7 p8)
      go_wp2_with fail
      go_returns
      exact ⟨rfl, HB.out⟩
    · have hV : scoreV d p s = 0 := if_neg (by rw [hE]; exact hz)
      have hy : (plChk d p != 0) = true := by simpa using hz
      rw [hV, hE]
      generalize plChk d p = x at *
      clear hs h1 hE hz hV
      go_enter Tryd.func35, Tryd.ntmps35
      go_wp2_with fail
      refine (M1.out _ (by (repeat (first | (with_reducible exact Below.refl _ _) | (with_reducible assumption) | (with_reducible refine below_alloc ?_ _) | (with_reducible refine below_drewN ?_ _) | (with_reducible refine Below.drew ?_) | (with_reducible refine below_then ?_ (by with_reducible assumption)) | (with_reducible refine Below.setCell ?_ (by go_size) _))))).mono ?_
      rintro e w1 ⟨rfl, hb1⟩
      (have BD := Lib.hid (((Blk.new w 23 #[.int .i64 d.x, .int .i64 d.y, .int .i64 d.z]).alloc (.cells #[.int .i64 p.b.b.x, .int .i64 p.b.b.y, .int .i64 p.b.b.z, .int .i64 p.b.s.x, .int .i64 p.b.s.y, .int .i64 p.b.s.z, .bool p.t0, .bool p.t1, .bool p.t2] 28)).below hb1); have BP := Lib.hid ((by have := (Blk.new (w.alloc (.cells #[.int .i64 d.x, .int .i64 d.y, .int .i64 d.z] 23)) 28 #[.int .i64 p.b.b.x, .int .i64 p.b.b.y, .int .i64 p.b.b.z, .int .i64 p.b.s.x, .int .i64 p.b.s.y, .int .i64 p.b.s.z, .bool p.t0, .bool p.t1, .bool p.t2]).below hb1; rwa [World.size_alloc] at this : Blk w1 (w.heap.size + 1) 28 #[.int .i64 p.b.b.x, .int .i64 p.b.b.y, .int .i64 p.b.b.z, .int .i64 p.b.s.x, .int .i64 p.b.s.y, .int .i64 p.b.s.z, .bool p.t0, .bool p.t1, .bool p.t2])); have HB := Lib.hid (below_then (show Below w.heap.size w ((w.alloc (.cells #[.int .i64 d.x, .int .i64 d.y, .int .i64 d.z] 23)).alloc (.cells #[.int .i64 p.b.b.x, .int .i64 p.b.b.y, .int .i64 p.b.b.z, .int .i64 p.b.s.x, .int .i64 p.b.s.y, .int .i64 p.b.s.z, .bool p.t0, .bool p.t1, .bool p.t2] 28)) by (repeat (first | (with_reducible exact Below.refl _ _) | (with_reducible assumption) | (with_reducible refine below_alloc ?_ _) | (with_reducible refine below_drewN ?_ _) | (with_reducible refine Below.drew ?_) | (with_reducible refine below_then ?_ (by with_reducible assumption)) | (with_reducible refine Below.setCell ?_ (by go_size) _)))) hb1); clear hb1)
      (have d0 := (BD.out).cell 0 _ rfl; have d1 := (BD.out).cell 1 _ rfl; have d2 := (BD.out).cell 2 _ rfl)
      (have p0 := (BP.out).cell 0 _ rfl; have p1 := (BP.out).cell 1 _ rfl; have p2 := (BP.out).cell 2 _ rfl; have p3 := (BP.out).cell 3 _ rfl; have p4 := (BP.out).cell 4 _ rfl; have p5 := (BP.out).cell 5 _ rfl; have p6 := (BP.out).cell 6 _ rfl; have p7 := (BP.out).cell 7 _ rfl; have p8 := (BP.out).cell 8 _ rfl)
      go_wp2_with fail
      refine (HC.out _).mono ?_
      rintro e w2 ⟨rfl, hb⟩
      have HB := Lib.hid (below_then HB.out hb)
      clear hb
      (clear d0 d1 d2 p0 p1 p2 p3 p4 p5 p6 p7 p8)
      go_wp2_with fail
      go_returns
      exact ⟨rfl, HB.out⟩
  · rw [decide_eq_false h1] at M1
    have hE8 : oneE d s = 8 := (oneE_08 d s).resolve_left h1
    have hE : scoreE d p s = 8 := by unfold scoreE; rw [if_neg h1, hE8]
    have hV : scoreV d p s = 0 := if_neg (by rw [hE]; decide)
    rw [hV, hE]
    clear hs h1 hE hV hE8
    go_enter Tryd.func35, Tryd.ntmps35
    go_wp2_with fail
    refine (M1.out _ (by (repeat (first | (with_reducible exact Below.refl _ _) | (with_reducible assumption) | (with_reducible refine below_alloc ?_ _) | (with_reducible refine below_drewN ?_ _) | (with_reducible refine Below.drew ?_) | (with_reducible refine below_then ?_ (by with_reducible assumption)) | (with_reducible refine Below.setCell ?_ (by go_size) _))))).mono ?_
    rintro e w1 ⟨rfl, hb1⟩
    (have BD := Lib.hid (((Blk.new w 23 #[.int .i64 d.x, .int .i64 d.y, .int .i64 d.z]).alloc (.cells #[.int .i64 p.b.b.x, .int .i64 p.b.b.y, .int .i64 p.b.b.z, .int .i64 p.b.s.x, .int .i64 p.b.s.y, .int .i64 p.b.s.z, .bool p.t0, .bool p.t1, .bool p.t2] 28)).below hb1); have BP := Lib.hid ((by have := (Blk.new (w.alloc (.cells #[.int .i64 d.x, .int .i64 d.y, .int .i64 d.z] 23)) 28 #[.int .i64 p.b.b.x, .int .i64 p.b.b.y, .int .i64 p.b.b.z, .int .i64 p.b.s.x, .int .i64 p.b.s.y, .int .i64 p.b.s.z, .bool p.t0, .bool p.t1, .bool p.t2]).below hb1; rwa [World.size_alloc] at this : Blk w1 (w.heap.size + 1) 28 #[.int .i64 p.b.b.x, .int .i64 p.b.b.y, .int .i64 p.b.b.z, .int .i64 p.b.s.x, .int .i64 p.b.s.y, .int .i64 p.b.s.z, .bool p.t0, .bool p.t1, .bool p.t2])); have HB := Lib.hid (below_then (show Below w.heap.size w ((w.alloc (.cells #[.int .i64 d.x, .int .i64 d.y, .int .i64 d.z] 23)).alloc (.cells #[.int .i64 p.b.b.x, .int .i64 p.b.b.y, .int .i64 p.b.b.z, .int .i64 p.b.s.x, .int .i64 p.b.s.y, .int .i64 p.b.s.z, .bool p.t0, .bool p.t1, .bool p.t2] 28)) by (repeat (first | (with_reducible exact Below.refl _ _) | (with_reducible assumption) | (with_reducible refine below_alloc ?_ _) | (with_reducible refine below_drewN ?_ _) | (with_reducible refine Below.drew ?_) | (with_reducible refine below_then ?_ (by with_reducible assumption)) | (with_reducible refine Below.setCell ?_ (by go_size) _)))) hb1); clear hb1)
    go_wp2_with fail
    go_returns
    exact ⟨rfl, HB.out⟩
end
end Go.Proofs.YthabpiphfaedaaaDoor
