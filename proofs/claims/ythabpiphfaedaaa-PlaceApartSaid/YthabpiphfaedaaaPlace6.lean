/- PLACE: whether two have nothing in common; the sets of a place that is written out. -/
import Derived.Test.YthabpiphfaedaaaPlLaw
namespace Go.Proofs.Ythabpiphfaedaaa
open Go.RowKit Go.Shelf

/-- The cables, a line's unsorted: for values. -/
def cabsU (d : V3) (p : Pl) (k : Nat) : List Int := if 1 < p.b.s.at k then ((p.b.thin k).all d).flatMap (fun m => d.links k m (p.per d k)) else []
def linksU (d : V3) (p : Pl) : List Int := cabsU d p 0 ++ cabsU d p 1 ++ cabsU d p 2
theorem mem_cabsU {d : V3} {p : Pl} {k : Nat} (hd : d.may) (hb : p.b.may d) (hk : k < 3) (x : Int) : x ∈ cabsU d p k ↔ x ∈ cabs d p k := by
  unfold cabsU cabs cabsOf
  by_cases h : 1 < p.b.s.at k
  · rw [if_pos h, List.mem_flatMap, List.mem_flatMap]
    constructor
    · rintro ⟨m, hm, hx⟩
      obtain ⟨m0, m1⟩ := Bx.mem_all' hm
      exact ⟨m, hm, by rw [run_eq hd hb hk m0 m1, if_pos h, mem_sorted]; exact hx⟩
    · rintro ⟨m, hm, hx⟩
      obtain ⟨m0, m1⟩ := Bx.mem_all' hm
      rw [run_eq hd hb hk m0 m1, if_pos h, mem_sorted] at hx
      exact ⟨m, hm, hx⟩
  · rw [if_neg h, List.mem_flatMap]
    constructor
    · intro hx; cases hx
    · rintro ⟨m, hm, hx⟩
      obtain ⟨m0, m1⟩ := Bx.mem_all' hm
      rw [run_eq hd hb hk m0 m1, if_neg h] at hx
      cases hx
theorem links_lit {d : V3} {p : Pl} {ws : List Nat} (h : plChk d p = 0) (hl : ws.length = nWords (3 * d.n)) (hw : W64 ws) (he : ∀ i, i < 64 * ws.length → there ws i = decide ((i : Int) ∈ linksU d p)) : linksV d p = ws := by
  have hf := pl_facts h
  have e : linksV d p = ofSet (3 * d.n) (cabsV d p) := if_pos h
  refine (sets_ext ?_ hw (linksV_fit d p) (fun i hi => ?_)).symm
  · rw [e, ofSet, if_pos hf.lErr, bitsOf_len, hl]
  · rw [he i hi, hf.lAt i]
    congr 1
    unfold linksU cabsV
    simp only [List.mem_append, mem_cabsU hf.may hf.box (show 0 < 3 by omega), mem_cabsU hf.may hf.box (show 1 < 3 by omega), mem_cabsU hf.may hf.box (show 2 < 3 by omega)]
def dLine : V3 := ⟨4, 1, 1⟩
def plOf (b s : Int) (t : Bool) : Pl := ⟨⟨⟨b, 0, 0⟩, ⟨s, 1, 1⟩⟩, t, false, false⟩
theorem w64_1 (x : Nat) (h : x < 100) : W64 [x] := by intro y hy; simp at hy; omega
theorem exS1 : plChk dLine (plOf 3 2 false) = 0 ∧ midsV dLine (plOf 3 2 false) = [9] := by decide +kernel
theorem exS2 : plChk dLine (plOf 3 2 true) = 0 ∧ midsV dLine (plOf 3 2 true) = [9] := by decide +kernel
theorem exL1 : linksV dLine (plOf 3 2 false) = [8] := links_lit exS1.1 (by decide +kernel) (w64_1 8 (by decide)) (by decide +kernel)
theorem exL2 : linksV dLine (plOf 3 2 true) = [15] := links_lit exS2.1 (by decide +kernel) (w64_1 15 (by decide)) (by decide +kernel)
set_option maxRecDepth 100000 in set_option maxHeartbeats 4000000 in
theorem place_Apart (d : V3) (p q : Pl) (w : World) : Calls Try.prog 11 #[.agg #[.int .i64 d.x, .int .i64 d.y, .int .i64 d.z], .agg #[.int .i64 p.b.b.x, .int .i64 p.b.b.y, .int .i64 p.b.b.z, .int .i64 p.b.s.x, .int .i64 p.b.s.y, .int .i64 p.b.s.z, .bool p.t0, .bool p.t1, .bool p.t2], .agg #[.int .i64 q.b.b.x, .int .i64 q.b.b.y, .int .i64 q.b.b.z, .int .i64 q.b.s.x, .int .i64 q.b.s.y, .int .i64 q.b.s.z, .bool q.t0, .bool q.t1, .bool q.t2]] w (RB w (.tuple #[.bool (apV d p q), .int .i64 (apE d p q)])) := by
  have HP := Lib.hid (fun W => place_Sets d p W)
  have HQ := Lib.hid (fun W => place_Sets d q W)
  have FP := Lib.hid (And.intro (midsV_fit d p) (linksV_fit d p))
  have FQ := Lib.hid (And.intro (midsV_fit d q) (linksV_fit d q))
  have l1 := midsV_len d p
  have l2 := linksV_len d p
  have l3 := midsV_len d q
  have l4 := linksV_len d q
  by_cases hp : plChk d p = 0
  · by_cases hq : plChk d q = 0
    · have hE : apE d p q = 0 := apE_of hp hq
      have hV : apV d p q = apartB d p q := if_pos hE
      have f1 := pl_facts hp
      have f2 := pl_facts hq
      have hd := f1.may
      have c1 : sChk2 d.n (midsV d p) (midsV d q) = 0 := sChk2_of f1.mChk f2.mChk
      have c2 : sChk2 (3 * d.n) (linksV d p) (linksV d q) = 0 := sChk2_of f1.lChk f2.lChk
      have HN := Lib.hid (fun W => by have := pos_Many d W; rw [V3.many_ok hd, V3.err_ok hd] at this; exact this)
      have hnn := V3.n_le hd
      have HM := Lib.hid (fun W ba bb ca cb ha hb => by have := set_Meet d.n ba bb ca cb (midsV d p) (midsV d q) W ha hb; rw [c1] at this; exact this)
      have HL := Lib.hid (fun W ba bb ca cb ha hb => by have := set_Meet (3 * d.n) ba bb ca cb (linksV d p) (linksV d q) W ha hb; rw [c2] at this; exact this)
      have hA := Lib.hid (show apartB d p q = (!anyNZ (joinIf andW d.n (midsV d p) (midsV d q)) && !anyNZ (joinIf andW (3 * d.n) (linksV d p) (linksV d q))) from rfl)
      rw [hE, hV]
      rw [hp] at HP
      rw [hq] at HQ
      clear hp hq hE hV f1 f2 hd c1 c2
      generalize d.n = n at *
      generalize anyNZ (joinIf andW n (midsV d p) (midsV d q)) = x1 at *
      generalize anyNZ (joinIf andW (3 * n) (linksV d p) (linksV d q)) = x2 at *
      generalize midsV d p = A at *
      generalize linksV d p = B at *
      generalize midsV d q = C at *
      generalize linksV d q = E at *
      go_enter Try.func11, Try.ntmps11
      go_wp2_with fail
      refine (HP.out _).mono ?_
      rintro e w1 ⟨v1, u1, rfl, o1, r1, hb⟩
      obtain ⟨ba, ca, rfl, sa, _⟩ := set_of_own o1 (by omega) FP.out.1
      obtain ⟨bb, cb, rfl, sb, _⟩ := set_of_own r1 (by omega) FP.out.2
      have BD := Lib.hid ((((Blk.new w 23 #[.int .i64 d.x, .int .i64 d.y, .int .i64 d.z]).alloc (.cells #[.int .i64 p.b.b.x, .int .i64 p.b.b.y, .int .i64 p.b.b.z, .int .i64 p.b.s.x, .int .i64 p.b.s.y, .int .i64 p.b.s.z, .bool p.t0, .bool p.t1, .bool p.t2] 28)).alloc (.cells #[.int .i64 q.b.b.x, .int .i64 q.b.b.y, .int .i64 q.b.b.z, .int .i64 q.b.s.x, .int .i64 q.b.s.y, .int .i64 q.b.s.z, .bool q.t0, .bool q.t1, .bool q.t2] 28)).below hb)
      have BQ := Lib.hid ((Blk.new ((w.alloc (.cells #[.int .i64 d.x, .int .i64 d.y, .int .i64 d.z] 23)).alloc (.cells #[.int .i64 p.b.b.x, .int .i64 p.b.b.y, .int .i64 p.b.b.z, .int .i64 p.b.s.x, .int .i64 p.b.s.y, .int .i64 p.b.s.z, .bool p.t0, .bool p.t1, .bool p.t2] 28)) 28 #[.int .i64 q.b.b.x, .int .i64 q.b.b.y, .int .i64 q.b.b.z, .int .i64 q.b.s.x, .int .i64 q.b.s.y, .int .i64 q.b.s.z, .bool q.t0, .bool q.t1, .bool q.t2]).below hb)
      simp only [World.size_alloc] at BQ
      have HB1 := Lib.hid (below_then (show Below w.heap.size w (((w.alloc (.cells #[.int .i64 d.x, .int .i64 d.y, .int .i64 d.z] 23)).alloc (.cells #[.int .i64 p.b.b.x, .int .i64 p.b.b.y, .int .i64 p.b.b.z, .int .i64 p.b.s.x, .int .i64 p.b.s.y, .int .i64 p.b.s.z, .bool p.t0, .bool p.t1, .bool p.t2] 28)).alloc (.cells #[.int .i64 q.b.b.x, .int .i64 q.b.b.y, .int .i64 q.b.b.z, .int .i64 q.b.s.x, .int .i64 q.b.s.y, .int .i64 q.b.s.z, .bool q.t0, .bool q.t1, .bool q.t2] 28)) by (repeat (first | (with_reducible exact Below.refl _ _) | (with_reducible assumption) | (with_reducible refine below_alloc ?_ _) | (with_reducible refine below_drewN ?_ _) | (with_reducible refine Below.drew ?_) | (with_reducible refine below_then ?_ (by with_reducible assumption)) | (with_reducible refine Below.setCell ?_ (by go_size) _)))) hb)
      have SA := Lib.hid sa
      have SB := Lib.hid sb
      clear hb o1 r1 sa sb
      (have d0 := (BD.out).cell 0 _ rfl; have d1 := (BD.out).cell 1 _ rfl; have d2 := (BD.out).cell 2 _ rfl)
      (have p0 := (BQ.out).cell 0 _ rfl; have p1 := (BQ.out).cell 1 _ rfl; have p2 := (BQ.out).cell 2 _ rfl; have p3 := (BQ.out).cell 3 _ rfl; have p4 := (BQ.out).cell 4 _ rfl; have p5 := (BQ.out).cell 5 _ rfl; have p6 := (BQ.out).cell 6 _ rfl; have p7 := (BQ.out).cell 7 _ rfl; have p8 := (BQ.out).cell 8 _ rfl)
      go_wp2_with fail
      refine (HQ.out _).mono ?_
      rintro e w2 ⟨v2, u2, rfl, o2, r2, hb⟩
      obtain ⟨bc, cc, rfl, sc, _⟩ := set_of_own o2 (by omega) FQ.out.1
      obtain ⟨be, ce, rfl, se, _⟩ := set_of_own r2 (by omega) FQ.out.2
      have BD2 := Lib.hid (BD.out.below hb)
      have HB2 := Lib.hid (below_then HB1.out hb)
      have SA2 := Lib.hid (SA.out.keep hb)
      have SB2 := Lib.hid (SB.out.keep hb)
      have SC := Lib.hid sc
      have SE := Lib.hid se
      clear hb o2 r2 sc se d0 d1 d2 p0 p1 p2 p3 p4 p5 p6 p7 p8 SA SB BD BQ HB1
      (have d0 := (BD2.out).cell 0 _ rfl; have d1 := (BD2.out).cell 1 _ rfl; have d2 := (BD2.out).cell 2 _ rfl)
      go_wp2_with fail
      refine (HN.out _).mono ?_
      rintro e w3 ⟨rfl, hb⟩
      have HB3 := Lib.hid (below_then HB2.out hb)
      have SA3 := Lib.hid (SA2.out.keep hb)
      have SB3 := Lib.hid (SB2.out.keep hb)
      have SC3 := Lib.hid (SC.out.keep hb)
      have SE3 := Lib.hid (SE.out.keep hb)
      clear hb d0 d1 d2 SA2 SB2 SC SE BD2 HB2
      go_wp2_with fail
      refine (HM.out _ ba bc ca cc SA3.out SC3.out).mono ?_
      rintro e w4 ⟨rfl, hb⟩
      have HB4 := Lib.hid (below_then HB3.out hb)
      have SB4 := Lib.hid (SB3.out.keep hb)
      have SE4 := Lib.hid (SE3.out.keep hb)
      clear hb SA3 SB3 SC3 SE3 HB3
      go_wp2_with fail
      refine (HL.out _ bb be cb ce SB4.out SE4.out).mono ?_
      rintro e w5 ⟨rfl, hb⟩
      have HB5 := Lib.hid (below_then HB4.out hb)
      clear hb SB4 SE4 HB4
      cases x1 <;> cases x2
      all_goals
        go_wp2_with fail
        go_returns
        exact ⟨by rw [hA.out]; rfl, HB5.out⟩
    · have hE : apE d p q = plChk d q := if_pos hp
      have hV : apV d p q = false := if_neg (by rw [hE]; exact hq)
      have hy : (plChk d q != 0) = true := by simpa using hq
      rw [hE, hV]
      rw [hp] at HP
      clear hp hq hE hV
      go_enter Try.func11, Try.ntmps11
      go_wp2_with fail
      refine (HP.out _).mono ?_
      rintro e w1 ⟨v1, u1, rfl, o1, r1, hb⟩
      have BD := Lib.hid ((((Blk.new w 23 #[.int .i64 d.x, .int .i64 d.y, .int .i64 d.z]).alloc (.cells #[.int .i64 p.b.b.x, .int .i64 p.b.b.y, .int .i64 p.b.b.z, .int .i64 p.b.s.x, .int .i64 p.b.s.y, .int .i64 p.b.s.z, .bool p.t0, .bool p.t1, .bool p.t2] 28)).alloc (.cells #[.int .i64 q.b.b.x, .int .i64 q.b.b.y, .int .i64 q.b.b.z, .int .i64 q.b.s.x, .int .i64 q.b.s.y, .int .i64 q.b.s.z, .bool q.t0, .bool q.t1, .bool q.t2] 28)).below hb)
      have BQ := Lib.hid ((Blk.new ((w.alloc (.cells #[.int .i64 d.x, .int .i64 d.y, .int .i64 d.z] 23)).alloc (.cells #[.int .i64 p.b.b.x, .int .i64 p.b.b.y, .int .i64 p.b.b.z, .int .i64 p.b.s.x, .int .i64 p.b.s.y, .int .i64 p.b.s.z, .bool p.t0, .bool p.t1, .bool p.t2] 28)) 28 #[.int .i64 q.b.b.x, .int .i64 q.b.b.y, .int .i64 q.b.b.z, .int .i64 q.b.s.x, .int .i64 q.b.s.y, .int .i64 q.b.s.z, .bool q.t0, .bool q.t1, .bool q.t2]).below hb)
      simp only [World.size_alloc] at BQ
      have HB1 := Lib.hid (below_then (show Below w.heap.size w (((w.alloc (.cells #[.int .i64 d.x, .int .i64 d.y, .int .i64 d.z] 23)).alloc (.cells #[.int .i64 p.b.b.x, .int .i64 p.b.b.y, .int .i64 p.b.b.z, .int .i64 p.b.s.x, .int .i64 p.b.s.y, .int .i64 p.b.s.z, .bool p.t0, .bool p.t1, .bool p.t2] 28)).alloc (.cells #[.int .i64 q.b.b.x, .int .i64 q.b.b.y, .int .i64 q.b.b.z, .int .i64 q.b.s.x, .int .i64 q.b.s.y, .int .i64 q.b.s.z, .bool q.t0, .bool q.t1, .bool q.t2] 28)) by (repeat (first | (with_reducible exact Below.refl _ _) | (with_reducible assumption) | (with_reducible refine below_alloc ?_ _) | (with_reducible refine below_drewN ?_ _) | (with_reducible refine Below.drew ?_) | (with_reducible refine below_then ?_ (by with_reducible assumption)) | (with_reducible refine Below.setCell ?_ (by go_size) _)))) hb)
      clear hb o1 r1
      (have d0 := (BD.out).cell 0 _ rfl; have d1 := (BD.out).cell 1 _ rfl; have d2 := (BD.out).cell 2 _ rfl)
      (have p0 := (BQ.out).cell 0 _ rfl; have p1 := (BQ.out).cell 1 _ rfl; have p2 := (BQ.out).cell 2 _ rfl; have p3 := (BQ.out).cell 3 _ rfl; have p4 := (BQ.out).cell 4 _ rfl; have p5 := (BQ.out).cell 5 _ rfl; have p6 := (BQ.out).cell 6 _ rfl; have p7 := (BQ.out).cell 7 _ rfl; have p8 := (BQ.out).cell 8 _ rfl)
      go_wp2_with fail
      refine (HQ.out _).mono ?_
      rintro e w2 ⟨v2, u2, rfl, o2, r2, hb⟩
      have HB2 := Lib.hid (below_then HB1.out hb)
      clear hb o2 r2 d0 d1 d2 p0 p1 p2 p3 p4 p5 p6 p7 p8
      go_wp2_with fail
      go_returns
      exact ⟨rfl, HB2.out⟩
  · have hE : apE d p q = plChk d p := if_neg hp
    have hV : apV d p q = false := if_neg (by rw [hE]; exact hp)
    have hy : (plChk d p != 0) = true := by simpa using hp
    rw [hE, hV]
    clear hp hE hV
    go_enter Try.func11, Try.ntmps11
    go_wp2_with fail
    refine (HP.out _).mono ?_
    rintro e w1 ⟨v1, u1, rfl, o1, r1, hb⟩
    have HB1 := Lib.hid (below_then (show Below w.heap.size w (((w.alloc (.cells #[.int .i64 d.x, .int .i64 d.y, .int .i64 d.z] 23)).alloc (.cells #[.int .i64 p.b.b.x, .int .i64 p.b.b.y, .int .i64 p.b.b.z, .int .i64 p.b.s.x, .int .i64 p.b.s.y, .int .i64 p.b.s.z, .bool p.t0, .bool p.t1, .bool p.t2] 28)).alloc (.cells #[.int .i64 q.b.b.x, .int .i64 q.b.b.y, .int .i64 q.b.b.z, .int .i64 q.b.s.x, .int .i64 q.b.s.y, .int .i64 q.b.s.z, .bool q.t0, .bool q.t1, .bool q.t2] 28)) by (repeat (first | (with_reducible exact Below.refl _ _) | (with_reducible assumption) | (with_reducible refine below_alloc ?_ _) | (with_reducible refine below_drewN ?_ _) | (with_reducible refine Below.drew ?_) | (with_reducible refine below_then ?_ (by with_reducible assumption)) | (with_reducible refine Below.setCell ?_ (by go_size) _)))) hb)
    clear hb o1 r1
    go_wp2_with fail
    go_returns
    exact ⟨rfl, HB1.out⟩
end Go.Proofs.Ythabpiphfaedaaa
