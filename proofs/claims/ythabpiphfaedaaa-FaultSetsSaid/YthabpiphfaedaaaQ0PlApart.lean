/- PLACE: whether two have nothing in common; the chapter examples. -/
import Derived.Test.YthabpiphfaedaaaQ0SetMeet
import Derived.Test.YthabpiphfaedaaaQ0PlLaw
namespace Go.Proofs.Ythabpiphfaedaaa

section
section
open Go.RowKit Go.Shelf

/-- The cables, a line's unsorted: for values. -/
def cabsU (d : V3) (p : Pl) (k : Nat) : List Int := if 1 < p.b.s.at k then ((p.b.thin k).all d).flatMap (fun m => d.links k m (p.per d k)) else []
def linksU (d : V3) (p : Pl) : List Int := cabsU d p 0 ++ cabsU d p 1 ++ cabsU d p 2
theorem mem_cabsU {d : V3} {p : Pl} {k : Nat} (hd : d.may) (hb : p.b.may d) (hk : k < 3) (x : Int) : x ∈ cabsU d p k ↔ x ∈ cabs d p k := by
  unfold cabsU cabs cabsOf
  by_cases h : 1 < p.b.s.at k
  · rw [if_pos h, List.mem_flatMap, List.mem_flatMap]
    constructor
    · rintro ⟨m, hm, hx⟩
      obtain ⟨m0, m1⟩ := Bx.mem_all' hm
      exact ⟨m, hm, by rw [run_eq hd hb hk m0 m1, if_pos h, mem_sorted]; exact hx⟩
    · rintro ⟨m, hm, hx⟩
      obtain ⟨m0, m1⟩ := Bx.mem_all' hm
      rw [run_eq hd hb hk m0 m1, if_pos h, mem_sorted] at hx
      exact ⟨m, hm, hx⟩
  · rw [if_neg h, List.mem_flatMap]
    constructor
    · intro hx; cases hx
    · rintro ⟨m, hm, hx⟩
      obtain ⟨m0, m1⟩ := Bx.mem_all' hm
      rw [run_eq hd hb hk m0 m1, if_neg h] at hx
      cases hx
theorem links_lit {d : V3} {p : Pl} {ws : List Nat} (h : plChk d p = 0) (hl : ws.length = nWords (3 * d.n)) (hw : W64 ws) (he : ∀ i, i < 64 * ws.length → there ws i = decide ((i : Int) ∈ linksU d p)) : linksV d p = ws := by
  have hf := pl_facts h
  have e : linksV d p = ofSet (3 * d.n) (cabsV d p) := if_pos h
  refine (sets_ext ?_ hw (linksV_fit d p) (fun i hi => ?_)).symm
  · rw [e, ofSet, if_pos hf.lErr, bitsOf_len, hl]
  · rw [he i hi, hf.lAt i]
    congr 1
    unfold linksU cabsV
    simp only [List.mem_append, mem_cabsU hf.may hf.box (show 0 < 3 by omega), mem_cabsU hf.may hf.box (show 1 < 3 by omega), mem_cabsU hf.may hf.box (show 2 < 3 by omega)]
def dLine : V3 := ⟨4, 1, 1⟩
def plOf (b s : Int) (t : Bool) : Pl := ⟨⟨⟨b, 0, 0⟩, ⟨s, 1, 1⟩⟩, t, false, false⟩
theorem w64_1 (x : Nat) (h : x < 100) : W64 [x] := by intro y hy; simp at hy; omega
theorem exS1 : plChk dLine (plOf 3 2 false) = 0 ∧ midsV dLine (plOf 3 2 false) = [9] := by decide +kernel
theorem exS2 : plChk dLine (plOf 3 2 true) = 0 ∧ midsV dLine (plOf 3 2 true) = [9] := by decide +kernel
theorem exL1 : linksV dLine (plOf 3 2 false) = [8] := links_lit exS1.1 (by decide +kernel) (w64_1 8 (by decide)) (by decide +kernel)
theorem exL2 : linksV dLine (plOf 3 2 true) = [15] := links_lit exS2.1 (by decide +kernel) (w64_1 15 (by decide)) (by decide +kernel)
set_option maxRecDepth 100000 in set_option maxHeartbeats 4000000 in
theorem place_Apart (d : V3) (p q : Pl) (w : World) : Calls Try.prog 11 #[.agg #[.int .i64 d.x, .int .i64 d.y, .int .i64 d.z], .agg #[.int .i64 p.b.b.x, .int .i64 p.b.b.y, .int .i64 p.b.b.z, .int .i64 p.b.s.x, .int .i64 p.b.s.y, .int .i64 p.b.s.z, .bool p.t0, .bool p.t1, .bool p.t2], .agg #[.int .i64 q.b.b.x, .int .i64 q.b.b.y, .int .i64 q.b.b.z, .int .i64 q.b.s.x, .int .i64 q.b.s.y, .int .i64 q.b.s.z, .bool q.t0, .bool q.t1, .bool q.t2]] w (RB w (.tuple #[.bool (apV d p q), .int .i64 (apE d p q)])) := by
  have HP := Lib.hid (fun W => place_Sets d p W)
  have HQ := Lib.hid (fun W => place_Sets d q W)
  have FP := Lib.hid (And.intro (midsV_fit d p) (linksV_fit d p))
  have FQ := Lib.hid (And.intro (midsV_fit d q) (linksV_fit d q))
  have l1 := midsV_len d p
  have l2 := linksV_len d p
  have l3 := midsV_len d q
  have l4 := linksV_len d q
  by_cases hp : plChk d p = 0
  · by_cases hq : plChk d q = 0
    · have hE : apE d p q = 0 := apE_of hp hq
      have hV : apV d p q = apartB d p q := if_pos hE
      have f1 := pl_facts hp
      have f2 := pl_facts hq
      have hd := f1.may
      have c1 : sChk2 d.n (midsV d p) (midsV d q) = 0 := sChk2_of f1.mChk f2.mChk
      have c2 : sChk2 (3 * d.n) (linksV d p) (linksV d q) = 0 := sChk2_of f1.lChk f2.lChk
      have HN := Lib.hid (fun W => by have := pos_Many d W; rw [V3.many_ok hd, V3.err_ok hd] at this; exact this)
      have hnn := V3.n_le hd
      have HM := Lib.hid (fun W ba bb ca cb ha hb => by have := set_Meet d.n ba bb ca cb (midsV d p) (midsV d q) W ha hb; rw [c1] at this; exact this)
      have HL := Lib.hid (fun W ba bb ca cb ha hb => by have := set_Meet (3 * d.n) ba bb ca cb (linksV d p) (linksV d q) W ha hb; rw [c2] at this; exact this)
      have hA := Lib.hid (show apartB d p q = (!anyNZ (joinIf andW d.n (midsV d p) (midsV d q)) && !anyNZ (joinIf andW (3 * d.n) (linksV d p) (linksV d q))) from rfl)
      rw [hE, hV]
      rw [hp] at HP
      rw [hq] at HQ
      clear hp hq hE hV f1 f2 hd c1 c2
      generalize d.n = n at *
      generalize anyNZ (joinIf andW n (midsV d p) (midsV d q)) = x1 at *
      generalize anyNZ (joinIf andW (3 * n) (linksV d p) (linksV d q)) = x2 at *
      generalize midsV d p = A at *
      generalize linksV d p = B at *
      generalize midsV d q = C at *
      generalize linksV d q = E at *
      go_enter Try.func11, Try.ntmps11
      go_wp2_with fail
      refine (HP.out _).mono ?_
      rintro e w1 ⟨v1, u1, rfl, o1, r1, hb⟩
      obtain ⟨ba, ca, rfl, sa, _⟩ := set_of_own o1 (by omega) FP.out.1
      obtain ⟨bb, cb, rfl, sb, _⟩ := set_of_own r1 (by omega) FP.out.2
      have BD := Lib.hid ((((Blk.new w 23 #[.int .i64 d.x, .int .i64 d.y, .int .i64 d.z]).alloc (.cells #[.int .i64 p.b.b.x, .int .i64 p.b.b.y, .int .i64 p.b.b.z, .int .i64 p.b.s.x, .int .i64 p.b.s.y, .int .i64 p.b.s.z, .bool p.t0, .bool p.t1, .bool p.t2] 28)).alloc (.cells #[.int .i64 q.b.b.x, .int .i64 q.b.b.y, .int .i64 q.b.b.z, .int .i64 q.b.s.x, .int .i64 q.b.s.y, .int .i64 q.b.s.z, .bool q.t0, .bool q.t1, .bool q.t2] 28)).below hb)
      have BQ := Lib.hid ((Blk.new ((w.alloc (.cells #[.int .i64 d.x, .int .i64 d.y, .int .i64 d.z] 23)).alloc (.cells #[.int .i64 p.b.b.x, .int .i64 p.b.b.y, .int .i64 p.b.b.z, .int .i64 p.b.s.x, .int .i64 p.b.s.y, .int .i64 p.b.s.z, .bool p.t0, .bool p.t1, .bool p.t2] 28)) 28 #[.int .i64 q.b.b.x, .int .i64 q.b.b.y, .int .i64 q.b.b.z, .int .i64 q.b.s.x, .int .i64 q.b.s.y, .int .i64 q.b.s.z, .bool q.t0, .bool q.t1, .bool q.t2]).below hb)
      simp only [World.size_alloc] at BQ
      have HB1 := Lib.hid (below_then (show Below w.heap.size w (((w.alloc (.cells #[.int .i64 d.x, .int .i64 d.y, .int .i64 d.z] 23)).alloc (.cells #[.int .i64 p.b.b.x, .int .i64 p.b.b.y, .int .i64 p.b.b.z, .int .i64 p.b.s.x, .int .i64 p.b.s.y, .int .i64 p.b.s.z, .bool p.t0, .bool p.t1, .bool p.t2] 28)).alloc (.cells #[.int .i64 q.b.b.x, .int .i64 q.b.b.y, .int .i64 q.b.b.z, .int .i64 q.b.s.x, .int .i64 q.b.s.y, .int .i64 q.b.s.z, .bool q.t0, .bool q.t1, .bool q.t2] 28)) by (repeat (first | (with_reducible exact Below.refl _ _) | (with_reducible assumption) | (with_reducible refine below_alloc ?_ _) | (with_reducible refine below_drewN ?_ _) | (with_reducible refine Below.drew ?_) | (with_reducible refine below_then ?_ (by with_reducible assumption)) | (with_reducible refine Below.setCell ?_ (by go_size) _)))) hb)
      have SA := Lib.hid sa
      have SB := Lib.hid sb
      clear hb o1 r1 sa sb
      (have d0 := (BD.out).cell 0 _ rfl; have d1 := (BD.out).cell 1 _ rfl; have d2 := (BD.out).cell 2 _ rfl)
      (have p0 := (BQ.out).cell 0 _ rfl; have p1 := (BQ.out).cell 1 _ rfl; have p2 := (BQ.out).cell 2 _ rfl; have p3 := (BQ.out).cell 3 _ rfl; have p4 := (BQ.out).cell 4 _ rfl; have p5 := (BQ.out).cell 5 _ rfl; have p6 := (BQ.out).cell 6 _ rfl; have p7 := (BQ.out).cell 7 _ rfl; have p8 := (BQ.out).cell 8 _ rfl)
      go_wp2_with fail
      refine (HQ.out _).mono ?_
      rintro e w2 ⟨v2, u2, rfl, o2, r2, hb⟩
      obtain ⟨bc, cc, rfl, sc, _⟩ := set_of_own o2 (by omega) FQ.out.1
      obtain ⟨be, ce, rfl, se, _⟩ := set_of_own r2 (by omega) FQ.out.2
      have BD2 := Lib.hid (BD.out.below hb)
      have HB2 := Lib.hid (below_then HB1.out hb)
      have SA2 := Lib.hid (SA.out.keep hb)
      have SB2 := Lib.hid (SB.out.keep hb)
      have SC := Lib.hid sc
      have SE := Lib.hid se
      clear hb o2 r2 sc se d0 d1 d2 p0 p1 p2 p3 p4 p5 p6 p7 p8 SA SB BD BQ HB1
      (have d0 := (BD2.out).cell 0 _ rfl; have d1 := (BD2.out).cell 1 _ rfl; have d2 := (BD2.out).cell 2 _ rfl)
      go_wp2_with fail
      refine (HN.out _).mono ?_
      rintro e w3 ⟨rfl, hb⟩
      have HB3 := Lib.hid (below_then HB2.out hb)
      have SA3 := Lib.hid (SA2.out.keep hb)
      have SB3 := Lib.hid (SB2.out.keep hb)
      have SC3 := Lib.hid (SC.out.keep hb)
      have SE3 := Lib.hid (SE.out.keep hb)
      clear hb d0 d1 d2 SA2 SB2 SC SE BD2 HB2
      go_wp2_with fail
      refine (HM.out _ ba bc ca cc SA3.out SC3.out).mono ?_
      rintro e w4 ⟨rfl, hb⟩
      have HB4 := Lib.hid (below_then HB3.out hb)
      have SB4 := Lib.hid (SB3.out.keep hb)
      have SE4 := Lib.hid (SE3.out.keep hb)
      clear hb SA3 SB3 SC3 SE3 HB3
      go_wp2_with fail
      refine (HL.out _ bb be cb ce SB4.out SE4.out).mono ?_
      rintro e w5 ⟨rfl, hb⟩
      have HB5 := Lib.hid (below_then HB4.out hb)
      clear hb SB4 SE4 HB4
      cases x1 <;> cases x2
      all_goals
        go_wp2_with fail
        go_returns
        exact ⟨by rw [hA.out]; rfl, HB5.out⟩
    · have hE : apE d p q = plChk d q := if_pos hp
      have hV : apV d p q = false := if_neg (by rw [hE]; exact hq)
      have hy : (plChk d q != 0) = true := by simpa using hq
      rw [hE, hV]
      rw [hp] at HP
      clear hp hq hE hV
      go_enter Try.func11, Try.ntmps11
      go_wp2_with fail
      refine (HP.out _).mono ?_
      rintro e w1 ⟨v1, u1, rfl, o1, r1, hb⟩
      have BD := Lib.hid ((((Blk.new w 23 #[.int .i64 d.x, .int .i64 d.y, .int .i64 d.z]).alloc (.cells #[.int .i64 p.b.b.x, .int .i64 p.b.b.y, .int .i64 p.b.b.z, .int .i64 p.b.s.x, .int .i64 p.b.s.y, .int .i64 p.b.s.z, .bool p.t0, .bool p.t1, .bool p.t2] 28)).alloc (.cells #[.int .i64 q.b.b.x, .int .i64 q.b.b.y, .int .i64 q.b.b.z, .int .i64 q.b.s.x, .int .i64 q.b.s.y, .int .i64 q.b.s.z, .bool q.t0, .bool q.t1, .bool q.t2] 28)).below hb)
      have BQ := Lib.hid ((Blk.new ((w.alloc (.cells #[.int .i64 d.x, .int .i64 d.y, .int .i64 d.z] 23)).alloc (.cells #[.int .i64 p.b.b.x, .int .i64 p.b.b.y, .int .i64 p.b.b.z, .int .i64 p.b.s.x, .int .i64 p.b.s.y, .int .i64 p.b.s.z, .bool p.t0, .bool p.t1, .bool p.t2] 28)) 28 #[.int .i64 q.b.b.x, .int .i64 q.b.b.y, .int .i64 q.b.b.z, .int .i64 q.b.s.x, .int .i64 q.b.s.y, .int .i64 q.b.s.z, .bool q.t0, .bool q.t1, .bool q.t2]).below hb)
      simp only [World.size_alloc] at BQ
      have HB1 := Lib.hid (below_then (show Below w.heap.size w (((w.alloc (.cells #[.int .i64 d.x, .int .i64 d.y, .int .i64 d.z] 23)).alloc (.cells #[.int .i64 p.b.b.x, .int .i64 p.b.b.y, .int .i64 p.b.b.z, .int .i64 p.b.s.x, .int .i64 p.b.s.y, .int .i64 p.b.s.z, .bool p.t0, .bool p.t1, .bool p.t2] 28)).alloc (.cells #[.int .i64 q.b.b.x, .int .i64 q.b.b.y, .int .i64 q.b.b.z, .int .i64 q.b.s.x, .int .i64 q.b.s.y, .int .i64 q.b.s.z, .bool q.t0, .bool q.t1, .bool q.t2] 28)) by (repeat (first | (with_reducible exact Below.refl _ _) | (with_reducible assumption) | (with_reducible refine below_alloc ?_ _) | (with_reducible refine below_drewN ?_ _) | (with_reducible refine Below.drew ?_) | (with_reducible refine below_then ?_ (by with_reducible assumption)) | (with_reducible refine Below.setCell ?_ (by go_size) _)))) hb)
      clear hb o1 r1
      (have d0 := (BD.out).cell 0 _ rfl; have d1 := (BD.out).cell 1 _ rfl; have d2 := (BD.out).cell 2 _ rfl)
      (have p0 := (BQ.out).cell 0 _ rfl; have p1 := (BQ.out).cell 1 _ rfl; have p2 := (BQ.out).cell 2 _ rfl; have p3 := (BQ.out).cell 3 _ rfl; have p4 := (BQ.out).cell 4 _ rfl; have p5 := (BQ.out).cell 5 _ rfl; have p6 := (BQ.out).cell 6 _ rfl; have p7 := (BQ.out).cell 7 _ rfl; have p8 := (BQ.out).cell 8 _ rfl)
      go_wp2_with fail
      refine (HQ.out _).mono ?_
      rintro e w2 ⟨v2, u2, rfl, o2, r2, hb⟩
      have HB2 := Lib.hid (below_then HB1.out hb)
      clear hb o2 r2 d0 d1 d2 p0 p1 p2 p3 p4 p5 p6 p7 p8
      go_wp2_with fail
      go_returns
      exact ⟨rfl, HB2.out⟩
  · have hE : apE d p q = plChk d p := if_neg hp
    have hV : apV d p q = false := if_neg (by rw [hE]; exact hp)
    have hy : (plChk d p != 0) = true := by simpa using hp
    rw [hE, hV]
    clear hp hE hV
    go_enter Try.func11, Try.ntmps11
    go_wp2_with fail
    refine (HP.out _).mono ?_
    rintro e w1 ⟨v1, u1, rfl, o1, r1, hb⟩
    have HB1 := Lib.hid (below_then (show Below w.heap.size w (((w.alloc (.cells #[.int .i64 d.x, .int .i64 d.y, .int .i64 d.z] 23)).alloc (.cells #[.int .i64 p.b.b.x, .int .i64 p.b.b.y, .int .i64 p.b.b.z, .int .i64 p.b.s.x, .int .i64 p.b.s.y, .int .i64 p.b.s.z, .bool p.t0, .bool p.t1, .bool p.t2] 28)).alloc (.cells #[.int .i64 q.b.b.x, .int .i64 q.b.b.y, .int .i64 q.b.b.z, .int .i64 q.b.s.x, .int .i64 q.b.s.y, .int .i64 q.b.s.z, .bool q.t0, .bool q.t1, .bool q.t2] 28)) by (repeat (first | (with_reducible exact Below.refl _ _) | (with_reducible assumption) | (with_reducible refine below_alloc ?_ _) | (with_reducible refine below_drewN ?_ _) | (with_reducible refine Below.drew ?_) | (with_reducible refine below_then ?_ (by with_reducible assumption)) | (with_reducible refine Below.setCell ?_ (by go_size) _)))) hb)
    clear hb o1 r1
    go_wp2_with fail
    go_returns
    exact ⟨rfl, HB1.out⟩
end

section
open Go.RowKit Go.Shelf

theorem rd_new' (w : World) (cs : Array Value) (t : TypeId) : Rd (w.alloc (.cells cs t)) (some ⟨w.heap.size, 0, none⟩) cs.toList := by
  intro i v hv
  refine ⟨w.heap.size, 0, rfl, ?_⟩
  rw [World.cell?_alloc_new, Nat.zero_add]
  simpa using hv
theorem sin_new' (w : World) (l : List Nat) (t : TypeId) (hl : l.length ≤ 1000) (hf : W64 l) : SetIn (w.alloc (.cells (wcells l).toArray t)) (some ⟨w.heap.size, 0, none⟩) l :=
  ⟨by have := rd_new' w (wcells l).toArray t; simpa using this, by omega, hf⟩
set_option maxRecDepth 100000 in set_option maxHeartbeats 4000000 in
theorem law06_line (w : World) : Calls Try.prog 13 #[] w (RB w (.agg #[.int .i64 4, .int .i64 1, .int .i64 1])) := by
  go_enter Try.func13, Try.ntmps13
  go_wp2_with fail
  go_returns
  exact ⟨rfl, by (repeat (first | (with_reducible exact Below.refl _ _) | (with_reducible assumption) | (with_reducible refine below_alloc ?_ _) | (with_reducible refine below_drewN ?_ _) | (with_reducible refine Below.drew ?_) | (with_reducible refine below_then ?_ (by with_reducible assumption)) | (with_reducible refine Below.setCell ?_ (by go_size) _)))⟩
set_option maxRecDepth 100000 in set_option maxHeartbeats 4000000 in
theorem law06_of (b s : Int) (t : Bool) (w : World) : Calls Try.prog 14 #[.int .i64 b, .int .i64 s, .bool t] w (RB w (.agg #[.int .i64 b, .int .i64 0, .int .i64 0, .int .i64 s, .int .i64 1, .int .i64 1, .bool t, .bool false, .bool false])) := by
  go_enter Try.func14, Try.ntmps14
  go_wp2_with fail
  go_returns
  exact ⟨rfl, by (repeat (first | (with_reducible exact Below.refl _ _) | (with_reducible assumption) | (with_reducible refine below_alloc ?_ _) | (with_reducible refine below_drewN ?_ _) | (with_reducible refine Below.drew ?_) | (with_reducible refine below_then ?_ (by with_reducible assumption)) | (with_reducible refine Below.setCell ?_ (by go_size) _)))⟩
theorem same_lit (ba : Option Addr) (ca : Nat) (x : Nat) (W : World) (h : SetIn W ba [x]) (hx : x < 100) :
    Calls Try.prog 22 #[.slice ba 1 ca, .slice (some ⟨W.heap.size, 0, none⟩) 1 1] (W.alloc (.cells #[.int .u64 x] 61)) (RB (W.alloc (.cells #[.int .u64 x] 61)) (.bool true)) := by
  have hb := below_alloc (Below.refl W.heap.size W) (.cells (wcells [x]).toArray 61)
  have := ref03_Same ba _ ca 1 [x] [x] _ (h.keep hb) (sin_new' W [x] 61 (by simp) (w64_1 x hx))
  rw [decide_eq_true rfl] at this
  exact this
set_option maxRecDepth 100000 in set_option maxHeartbeats 4000000 in
theorem law06_alive (w : World) : Calls Try.prog 8 #[] w (RB w (.bool true)) := by
  have H1 := Lib.hid (fun W => show Calls Try.prog 17 #[.agg #[.int .i64 4, .int .i64 1, .int .i64 1], .agg #[.int .i64 3, .int .i64 0, .int .i64 0, .int .i64 2, .int .i64 1, .int .i64 1, .bool false, .bool false, .bool false]] W (RPS W [9] [8] 0) from by have := place_Sets dLine (plOf 3 2 false) W; rw [exS1.1, exS1.2, exL1] at this; exact this)
  have H2 := Lib.hid (fun W => show Calls Try.prog 17 #[.agg #[.int .i64 4, .int .i64 1, .int .i64 1], .agg #[.int .i64 3, .int .i64 0, .int .i64 0, .int .i64 2, .int .i64 1, .int .i64 1, .bool true, .bool false, .bool false]] W (RPS W [9] [15] 0) from by have := place_Sets dLine (plOf 3 2 true) W; rw [exS2.1, exS2.2, exL2] at this; exact this)
  go_enter Try.func8, Try.ntmps8
  go_wp2_with (first | ((with_reducible refine (law06_line _).mono ?_); rintro e w1 ⟨rfl, hb⟩; have HB1 := Lib.hid hb; clear hb) | ((with_reducible refine (law06_of _ _ _ _).mono ?_); rintro e w2 ⟨rfl, hb⟩; have HB2 := Lib.hid (below_then HB1.out hb); clear hb))
  refine (H1.out _).mono ?_
  rintro e w3 ⟨v3, u3, rfl, o3, r3, hb⟩
  obtain ⟨ba, ca, rfl, sa, _⟩ := set_of_own o3 (by decide) (w64_1 9 (by decide))
  obtain ⟨bb, cb, rfl, sb, _⟩ := set_of_own r3 (by decide) (w64_1 8 (by decide))
  have HB3 := Lib.hid (below_then HB2.out hb)
  have SA := Lib.hid sa
  have SB := Lib.hid sb
  clear hb o3 r3 sa sb HB1 HB2
  go_wp2_with (first | ((with_reducible refine (law06_line _).mono ?_); rintro e w4 ⟨rfl, hb⟩; have HB4 := Lib.hid (below_then HB3.out hb); have SA := Lib.hid (SA.out.keep hb); have SB := Lib.hid (SB.out.keep hb); clear hb) | ((with_reducible refine (law06_of _ _ _ _).mono ?_); rintro e w5 ⟨rfl, hb⟩; have HB5 := Lib.hid (below_then HB4.out hb); have SA := Lib.hid (SA.out.keep hb); have SB := Lib.hid (SB.out.keep hb); clear hb))
  refine (H2.out _).mono ?_
  rintro e w6 ⟨v6, u6, rfl, o6, r6, hb⟩
  obtain ⟨bc, cc, rfl, sc, _⟩ := set_of_own o6 (by decide) (w64_1 9 (by decide))
  obtain ⟨bd, cd, rfl, sd, _⟩ := set_of_own r6 (by decide) (w64_1 15 (by decide))
  have HB6 := Lib.hid (below_then HB5.out hb)
  have SA := Lib.hid (SA.out.keep hb)
  have SB := Lib.hid (SB.out.keep hb)
  have SC := Lib.hid sc
  have SD := Lib.hid sd
  clear hb o6 r6 sc sd HB3 HB4 HB5
  go_wp2_with fail
  have hb0 := below_alloc (Below.refl w6.heap.size w6) (.cells #[.int .u64 9] 61)
  refine (same_lit ba ca 9 w6 SA.out (by decide)).mono ?_
  rintro e w7 ⟨rfl, hb⟩
  have h7 := below_then hb0 hb
  have HB7 := Lib.hid (below_then HB6.out h7)
  have SB := Lib.hid (SB.out.keep h7)
  have SC := Lib.hid (SC.out.keep h7)
  have SD := Lib.hid (SD.out.keep h7)
  clear hb hb0 h7 HB6 SA
  go_wp2_with fail
  have hb0 := below_alloc (Below.refl w7.heap.size w7) (.cells #[.int .u64 8] 61)
  refine (same_lit bb cb 8 w7 SB.out (by decide)).mono ?_
  rintro e w8 ⟨rfl, hb⟩
  have h8 := below_then hb0 hb
  have HB8 := Lib.hid (below_then HB7.out h8)
  have SC := Lib.hid (SC.out.keep h8)
  have SD := Lib.hid (SD.out.keep h8)
  clear hb hb0 h8 HB7 SB
  go_wp2_with fail
  have hb0 := below_alloc (Below.refl w8.heap.size w8) (.cells #[.int .u64 9] 61)
  refine (same_lit bc cc 9 w8 SC.out (by decide)).mono ?_
  rintro e w9 ⟨rfl, hb⟩
  have h9 := below_then hb0 hb
  have HB9 := Lib.hid (below_then HB8.out h9)
  have SD := Lib.hid (SD.out.keep h9)
  clear hb hb0 h9 HB8 SC
  go_wp2_with fail
  have hb0 := below_alloc (Below.refl w9.heap.size w9) (.cells #[.int .u64 15] 61)
  refine (same_lit bd cd 15 w9 SD.out (by decide)).mono ?_
  rintro e w10 ⟨rfl, hb⟩
  have HB10 := Lib.hid (below_then HB9.out (below_then hb0 hb))
  clear hb hb0 HB9 SD
  go_wp2_with fail
  go_returns
  exact ⟨rfl, HB10.out⟩
end
end
end Go.Proofs.Ythabpiphfaedaaa
