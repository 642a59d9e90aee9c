/- PLACE: whether two have nothing in common; the chapter examples. -/
import Derived.Test.YthabpiphfaedaaaDoorPlLaw
import Derived.Test.YthabpiphfaedaaaDoorSetMeet
namespace Go.Proofs.YthabpiphfaedaaaDoor

section
open Go.RowKit Go.Shelf

/-- The cables, a line's unsorted: for values. -/
def cabsU (d : V3) (p : Pl) (k : Nat) : List Int := if 1 < p.b.s.at k then ((p.b.thin k).all d).flatMap (fun m => d.links k m (p.per d k)) else []
def linksU (d : V3) (p : Pl) : List Int := cabsU d p 0 ++ cabsU d p 1 ++ cabsU d p 2
theorem mem_cabsU {d : V3} {p : Pl} {k : Nat} (hd : d.may) (hb : p.b.may d) (hk : k < 3) (x : Int) : x ∈ cabsU d p k ↔ x ∈ cabs d p k := by
  unfold cabsU cabs cabsOf
  by_cases h : 1 < p.b.s.at k
  · rw [if_pos h, List.mem_flatMap, List.mem_flatMap]
    constructor
    · rintro ⟨m, hm, hx⟩
      obtain ⟨m0, m1⟩ := Bx.mem_all' hm
      exact ⟨m, hm, by rw [run_eq hd hb hk m0 m1, if_pos h, mem_sorted]; exact hx⟩
    · rintro ⟨m, hm, hx⟩
      obtain ⟨m0, m1⟩ := Bx.mem_all' hm
      rw [run_eq hd hb hk m0 m1, if_pos h, mem_sorted] at hx
      exact ⟨m, hm, hx⟩
  · rw [if_neg h, List.mem_flatMap]
    constructor
    · intro hx; cases hx
    · rintro ⟨m, hm, hx⟩
      obtain ⟨m0, m1⟩ := Bx.mem_all' hm
      rw [run_eq hd hb hk m0 m1, if_neg h] at hx
      cases hx
theorem links_lit {d : V3} {p : Pl} {ws : List Nat} (h : plChk d p = 0) (hl : ws.length = nWords (3 * d.n)) (hw : W64 ws) (he : ∀ i, i < 64 * ws.length → there ws i = decide ((i : Int) ∈ linksU d p)) : linksV d p = ws := by
  have hf := pl_facts h
  have e : linksV d p = ofSet (3 * d.n) (cabsV d p) := if_pos h
  refine (sets_ext ?_ hw (linksV_fit d p) (fun i hi => ?_)).symm
  · rw [e, ofSet, if_pos hf.lErr, bitsOf_len, hl]
  · rw [he i hi, hf.lAt i]
    congr 1
    unfold linksU cabsV
    simp only [List.mem_append, mem_cabsU hf.may hf.box (show 0 < 3 by omega), mem_cabsU hf.may hf.box (show 1 < 3 by omega), mem_cabsU hf.may hf.box (show 2 < 3 by omega)]
def dLine : V3 := ⟨4, 1, 1⟩
def plOf (b s : Int) (t : Bool) : Pl := ⟨⟨⟨b, 0, 0⟩, ⟨s, 1, 1⟩⟩, t, false, false⟩
theorem w64_1 (x : Nat) (h : x < 100) : W64 [x] := by intro y hy; simp at hy; omega
theorem exS1 : plChk dLine (plOf 3 2 false) = 0 ∧ midsV dLine (plOf 3 2 false) = [9] := by decide +kernel
theorem exS2 : plChk dLine (plOf 3 2 true) = 0 ∧ midsV dLine (plOf 3 2 true) = [9] := by decide +kernel
theorem exL1 : linksV dLine (plOf 3 2 false) = [8] := links_lit exS1.1 (by decide +kernel) (w64_1 8 (by decide)) (by decide +kernel)
theorem exL2 : linksV dLine (plOf 3 2 true) = [15] := links_lit exS2.1 (by decide +kernel) (w64_1 15 (by decide)) (by decide +kernel)
end

section
open Go.RowKit Go.Shelf

theorem rd_new' (w : World) (cs : Array Value) (t : TypeId) : Rd (w.alloc (.cells cs t)) (some ⟨w.heap.size, 0, none⟩) cs.toList := by
  intro i v hv
  refine ⟨w.heap.size, 0, rfl, ?_⟩
  rw [World.cell?_alloc_new, Nat.zero_add]
  simpa using hv
theorem sin_new' (w : World) (l : List Nat) (t : TypeId) (hl : l.length ≤ 1000) (hf : W64 l) : SetIn (w.alloc (.cells (wcells l).toArray t)) (some ⟨w.heap.size, 0, none⟩) l :=
  ⟨by have := rd_new' w (wcells l).toArray t; simpa using this, by omega, hf⟩
set_option maxRecDepth 100000 in set_option maxHeartbeats 4000000 in
theorem law06_line (w : World) : Calls Tryd.prog 41 #[] w (RB w (.agg #[.int .i64 4, .int .i64 1, .int .i64 1])) := by
  go_enter Tryd.func41, Tryd.ntmps41
  go_wp2_with fail
  go_returns
  exact ⟨rfl, by (repeat (first | (with_reducible exact Below.refl _ _) | (with_reducible assumption) | (with_reducible refine below_alloc ?_ _) | (with_reducible refine below_drewN ?_ _) | (with_reducible refine Below.drew ?_) | (with_reducible refine below_then ?_ (by with_reducible assumption)) | (with_reducible refine Below.setCell ?_ (by go_size) _)))⟩
set_option maxRecDepth 100000 in set_option maxHeartbeats 4000000 in
theorem law06_of (b s : Int) (t : Bool) (w : World) : Calls Tryd.prog 42 #[.int .i64 b, .int .i64 s, .bool t] w (RB w (.agg #[.int .i64 b, .int .i64 0, .int .i64 0, .int .i64 s, .int .i64 1, .int .i64 1, .bool t, .bool false, .bool false])) := by
  go_enter Tryd.func42, Tryd.ntmps42
  go_wp2_with fail
  go_returns
  exact ⟨rfl, by (repeat (first | (with_reducible exact Below.refl _ _) | (with_reducible assumption) | (with_reducible refine below_alloc ?_ _) | (with_reducible refine below_drewN ?_ _) | (with_reducible refine Below.drew ?_) | (with_reducible refine below_then ?_ (by with_reducible assumption)) | (with_reducible refine Below.setCell ?_ (by go_size) _)))⟩
theorem same_lit (ba : Option Addr) (ca : Nat) (x : Nat) (W : World) (h : SetIn W ba [x]) (hx : x < 100) :
    Calls Tryd.prog 20 #[.slice ba 1 ca, .slice (some ⟨W.heap.size, 0, none⟩) 1 1] (W.alloc (.cells #[.int .u64 x] 63)) (RB (W.alloc (.cells #[.int .u64 x] 63)) (.bool true)) := by
  have hb := below_alloc (Below.refl W.heap.size W) (.cells (wcells [x]).toArray 63)
  have := ref03_Same ba _ ca 1 [x] [x] _ (h.keep hb) (sin_new' W [x] 63 (by simp) (w64_1 x hx))
  rw [decide_eq_true rfl] at this
  exact this
set_option maxRecDepth 100000 in set_option maxHeartbeats 4000000 in
theorem law06_alive (w : World) : Calls Tryd.prog 11 #[] w (RB w (.bool true)) := by
  have H1 := Lib.hid (fun W => show Calls Tryd.prog 12 #[.agg #[.int .i64 4, .int .i64 1, .int .i64 1], .agg #[.int .i64 3, .int .i64 0, .int .i64 0, .int .i64 2, .int .i64 1, .int .i64 1, .bool false, .bool false, .bool false]] W (RSS W [9] [8] 0) from by have := place_Sets dLine (plOf 3 2 false) W; rw [exS1.1, exS1.2, exL1] at this; exact this)
  have H2 := Lib.hid (fun W => show Calls Tryd.prog 12 #[.agg #[.int .i64 4, .int .i64 1, .int .i64 1], .agg #[.int .i64 3, .int .i64 0, .int .i64 0, .int .i64 2, .int .i64 1, .int .i64 1, .bool true, .bool false, .bool false]] W (RSS W [9] [15] 0) from by have := place_Sets dLine (plOf 3 2 true) W; rw [exS2.1, exS2.2, exL2] at this; exact this)
  go_enter Tryd.func11, Tryd.ntmps11
  go_wp2_with (first | ((with_reducible refine (law06_line _).mono ?_); rintro e w1 ⟨rfl, hb⟩; have HB1 := Lib.hid hb; clear hb) | ((with_reducible refine (law06_of _ _ _ _).mono ?_); rintro e w2 ⟨rfl, hb⟩; have HB2 := Lib.hid (below_then HB1.out hb); clear hb))
  refine (H1.out _).mono ?_
  rintro e w3 ⟨v3, u3, rfl, o3, r3, hb⟩
  obtain ⟨ba, ca, rfl, sa, _⟩ := set_of_own o3 (by decide) (w64_1 9 (by decide))
  obtain ⟨bb, cb, rfl, sb, _⟩ := set_of_own r3 (by decide) (w64_1 8 (by decide))
  have HB3 := Lib.hid (below_then HB2.out hb)
  have SA := Lib.hid sa
  have SB := Lib.hid sb
  clear hb o3 r3 sa sb HB1 HB2
  go_wp2_with (first | ((with_reducible refine (law06_line _).mono ?_); rintro e w4 ⟨rfl, hb⟩; have HB4 := Lib.hid (below_then HB3.out hb); have SA := Lib.hid (SA.out.keep hb); have SB := Lib.hid (SB.out.keep hb); clear hb) | ((with_reducible refine (law06_of _ _ _ _).mono ?_); rintro e w5 ⟨rfl, hb⟩; have HB5 := Lib.hid (below_then HB4.out hb); have SA := Lib.hid (SA.out.keep hb); have SB := Lib.hid (SB.out.keep hb); clear hb))
  refine (H2.out _).mono ?_
  rintro e w6 ⟨v6, u6, rfl, o6, r6, hb⟩
  obtain ⟨bc, cc, rfl, sc, _⟩ := set_of_own o6 (by decide) (w64_1 9 (by decide))
  obtain ⟨bd, cd, rfl, sd, _⟩ := set_of_own r6 (by decide) (w64_1 15 (by decide))
  have HB6 := Lib.hid (below_then HB5.out hb)
  have SA := Lib.hid (SA.out.keep hb)
  have SB := Lib.hid (SB.out.keep hb)
  have SC := Lib.hid sc
  have SD := Lib.hid sd
  clear hb o6 r6 sc sd HB3 HB4 HB5
  go_wp2_with fail
  have hb0 := below_alloc (Below.refl w6.heap.size w6) (.cells #[.int .u64 9] 63)
  refine (same_lit ba ca 9 w6 SA.out (by decide)).mono ?_
  rintro e w7 ⟨rfl, hb⟩
  have h7 := below_then hb0 hb
  have HB7 := Lib.hid (below_then HB6.out h7)
  have SB := Lib.hid (SB.out.keep h7)
  have SC := Lib.hid (SC.out.keep h7)
  have SD := Lib.hid (SD.out.keep h7)
  clear hb hb0 h7 HB6 SA
  go_wp2_with fail
  have hb0 := below_alloc (Below.refl w7.heap.size w7) (.cells #[.int .u64 8] 63)
  refine (same_lit bb cb 8 w7 SB.out (by decide)).mono ?_
  rintro e w8 ⟨rfl, hb⟩
  have h8 := below_then hb0 hb
  have HB8 := Lib.hid (below_then HB7.out h8)
  have SC := Lib.hid (SC.out.keep h8)
  have SD := Lib.hid (SD.out.keep h8)
  clear hb hb0 h8 HB7 SB
  go_wp2_with fail
  have hb0 := below_alloc (Below.refl w8.heap.size w8) (.cells #[.int .u64 9] 63)
  refine (same_lit bc cc 9 w8 SC.out (by decide)).mono ?_
  rintro e w9 ⟨rfl, hb⟩
  have h9 := below_then hb0 hb
  have HB9 := Lib.hid (below_then HB8.out h9)
  have SD := Lib.hid (SD.out.keep h9)
  clear hb hb0 h9 HB8 SC
  go_wp2_with fail
  have hb0 := below_alloc (Below.refl w9.heap.size w9) (.cells #[.int .u64 15] 63)
  refine (same_lit bd cd 15 w9 SD.out (by decide)).mono ?_
  rintro e w10 ⟨rfl, hb⟩
  have HB10 := Lib.hid (below_then HB9.out (below_then hb0 hb))
  clear hb hb0 HB9 SD
  go_wp2_with fail
  go_returns
  exact ⟨rfl, HB10.out⟩
end
end Go.Proofs.YthabpiphfaedaaaDoor
