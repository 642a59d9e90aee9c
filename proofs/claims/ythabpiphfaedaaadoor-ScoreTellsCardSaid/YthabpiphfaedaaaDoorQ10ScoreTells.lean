/- REF 06, THE PLAIN LAW: the midplanes that are passed, found number by number; places apart, by the numbers of their sets. -/
import Derived.Test.YthabpiphfaedaaaDoorQ0SetMeet
import Derived.Test.YthabpiphfaedaaaDoorQ0PlLaw
import Derived.Test.YthabpiphfaedaaaDoorQ0ScoreA
import Derived.Test.YthabpiphfaedaaaDoorQ0PlPass
import Derived.Test.YthabpiphfaedaaaDoorQ0SetRef
namespace Go.Proofs.YthabpiphfaedaaaDoor

section
section
open Go.RowKit Go.Shelf

/-- The cables, a line's unsorted: for values. -/
def cabsU (d : V3) (p : Pl) (k : Nat) : List Int := if 1 < p.b.s.at k then ((p.b.thin k).all d).flatMap (fun m => d.links k m (p.per d k)) else []
def linksU (d : V3) (p : Pl) : List Int := cabsU d p 0 ++ cabsU d p 1 ++ cabsU d p 2
theorem mem_cabsU {d : V3} {p : Pl} {k : Nat} (hd : d.may) (hb : p.b.may d) (hk : k < 3) (x : Int) : x ∈ cabsU d p k ↔ x ∈ cabs d p k := by
  unfold cabsU cabs cabsOf
  by_cases h : 1 < p.b.s.at k
  · rw [if_pos h, List.mem_flatMap, List.mem_flatMap]
    constructor
    · rintro ⟨m, hm, hx⟩
      obtain ⟨m0, m1⟩ := Bx.mem_all' hm
      exact ⟨m, hm, by rw [run_eq hd hb hk m0 m1, if_pos h, mem_sorted]; exact hx⟩
    · rintro ⟨m, hm, hx⟩
      obtain ⟨m0, m1⟩ := Bx.mem_all' hm
      rw [run_eq hd hb hk m0 m1, if_pos h, mem_sorted] at hx
      exact ⟨m, hm, hx⟩
  · rw [if_neg h, List.mem_flatMap]
    constructor
    · intro hx; cases hx
    · rintro ⟨m, hm, hx⟩
      obtain ⟨m0, m1⟩ := Bx.mem_all' hm
      rw [run_eq hd hb hk m0 m1, if_neg h] at hx
      cases hx
theorem links_lit {d : V3} {p : Pl} {ws : List Nat} (h : plChk d p = 0) (hl : ws.length = nWords (3 * d.n)) (hw : W64 ws) (he : ∀ i, i < 64 * ws.length → there ws i = decide ((i : Int) ∈ linksU d p)) : linksV d p = ws := by
  have hf := pl_facts h
  have e : linksV d p = ofSet (3 * d.n) (cabsV d p) := if_pos h
  refine (sets_ext ?_ hw (linksV_fit d p) (fun i hi => ?_)).symm
  · rw [e, ofSet, if_pos hf.lErr, bitsOf_len, hl]
  · rw [he i hi, hf.lAt i]
    congr 1
    unfold linksU cabsV
    simp only [List.mem_append, mem_cabsU hf.may hf.box (show 0 < 3 by omega), mem_cabsU hf.may hf.box (show 1 < 3 by omega), mem_cabsU hf.may hf.box (show 2 < 3 by omega)]
def dLine : V3 := ⟨4, 1, 1⟩
def plOf (b s : Int) (t : Bool) : Pl := ⟨⟨⟨b, 0, 0⟩, ⟨s, 1, 1⟩⟩, t, false, false⟩
theorem w64_1 (x : Nat) (h : x < 100) : W64 [x] := by intro y hy; simp at hy; omega
theorem exS1 : plChk dLine (plOf 3 2 false) = 0 ∧ midsV dLine (plOf 3 2 false) = [9] := by decide +kernel
theorem exS2 : plChk dLine (plOf 3 2 true) = 0 ∧ midsV dLine (plOf 3 2 true) = [9] := by decide +kernel
theorem exL1 : linksV dLine (plOf 3 2 false) = [8] := links_lit exS1.1 (by decide +kernel) (w64_1 8 (by decide)) (by decide +kernel)
theorem exL2 : linksV dLine (plOf 3 2 true) = [15] := links_lit exS2.1 (by decide +kernel) (w64_1 15 (by decide)) (by decide +kernel)
end

section
open Go.RowKit Go.Shelf

theorem rd_new' (w : World) (cs : Array Value) (t : TypeId) : Rd (w.alloc (.cells cs t)) (some ⟨w.heap.size, 0, none⟩) cs.toList := by
  intro i v hv
  refine ⟨w.heap.size, 0, rfl, ?_⟩
  rw [World.cell?_alloc_new, Nat.zero_add]
  simpa using hv
theorem sin_new' (w : World) (l : List Nat) (t : TypeId) (hl : l.length ≤ 1000) (hf : W64 l) : SetIn (w.alloc (.cells (wcells l).toArray t)) (some ⟨w.heap.size, 0, none⟩) l :=
  ⟨by have := rd_new' w (wcells l).toArray t; simpa using this, by omega, hf⟩
set_option maxRecDepth 100000 in set_option maxHeartbeats 4000000 in
theorem law06_line (w : World) : Calls Tryd.prog 41 #[] w (RB w (.agg #[.int .i64 4, .int .i64 1, .int .i64 1])) := by
  go_enter Tryd.func41, Tryd.ntmps41
  go_wp2_with fail
  go_returns
  exact ⟨rfl, by (repeat (first | (with_reducible exact Below.refl _ _) | (with_reducible assumption) | (with_reducible refine below_alloc ?_ _) | (with_reducible refine below_drewN ?_ _) | (with_reducible refine Below.drew ?_) | (with_reducible refine below_then ?_ (by with_reducible assumption)) | (with_reducible refine Below.setCell ?_ (by go_size) _)))⟩
set_option maxRecDepth 100000 in set_option maxHeartbeats 4000000 in
theorem law06_of (b s : Int) (t : Bool) (w : World) : Calls Tryd.prog 42 #[.int .i64 b, .int .i64 s, .bool t] w (RB w (.agg #[.int .i64 b, .int .i64 0, .int .i64 0, .int .i64 s, .int .i64 1, .int .i64 1, .bool t, .bool false, .bool false])) := by
  go_enter Tryd.func42, Tryd.ntmps42
  go_wp2_with fail
  go_returns
  exact ⟨rfl, by (repeat (first | (with_reducible exact Below.refl _ _) | (with_reducible assumption) | (with_reducible refine below_alloc ?_ _) | (with_reducible refine below_drewN ?_ _) | (with_reducible refine Below.drew ?_) | (with_reducible refine below_then ?_ (by with_reducible assumption)) | (with_reducible refine Below.setCell ?_ (by go_size) _)))⟩
theorem same_lit (ba : Option Addr) (ca : Nat) (x : Nat) (W : World) (h : SetIn W ba [x]) (hx : x < 100) :
    Calls Tryd.prog 20 #[.slice ba 1 ca, .slice (some ⟨W.heap.size, 0, none⟩) 1 1] (W.alloc (.cells #[.int .u64 x] 63)) (RB (W.alloc (.cells #[.int .u64 x] 63)) (.bool true)) := by
  have hb := below_alloc (Below.refl W.heap.size W) (.cells (wcells [x]).toArray 63)
  have := ref03_Same ba _ ca 1 [x] [x] _ (h.keep hb) (sin_new' W [x] 63 (by simp) (w64_1 x hx))
  rw [decide_eq_true rfl] at this
  exact this
set_option maxRecDepth 100000 in set_option maxHeartbeats 4000000 in
theorem law06_alive (w : World) : Calls Tryd.prog 11 #[] w (RB w (.bool true)) := by
  have H1 := Lib.hid (fun W => show Calls Tryd.prog 12 #[.agg #[.int .i64 4, .int .i64 1, .int .i64 1], .agg #[.int .i64 3, .int .i64 0, .int .i64 0, .int .i64 2, .int .i64 1, .int .i64 1, .bool false, .bool false, .bool false]] W (RPS W [9] [8] 0) from by have := place_Sets dLine (plOf 3 2 false) W; rw [exS1.1, exS1.2, exL1] at this; exact this)
  have H2 := Lib.hid (fun W => show Calls Tryd.prog 12 #[.agg #[.int .i64 4, .int .i64 1, .int .i64 1], .agg #[.int .i64 3, .int .i64 0, .int .i64 0, .int .i64 2, .int .i64 1, .int .i64 1, .bool true, .bool false, .bool false]] W (RPS W [9] [15] 0) from by have := place_Sets dLine (plOf 3 2 true) W; rw [exS2.1, exS2.2, exL2] at this; exact this)
  go_enter Tryd.func11, Tryd.ntmps11
  go_wp2_with (first | ((with_reducible refine (law06_line _).mono ?_); rintro e w1 ⟨rfl, hb⟩; have HB1 := Lib.hid hb; clear hb) | ((with_reducible refine (law06_of _ _ _ _).mono ?_); rintro e w2 ⟨rfl, hb⟩; have HB2 := Lib.hid (below_then HB1.out hb); clear hb))
  refine (H1.out _).mono ?_
  rintro e w3 ⟨v3, u3, rfl, o3, r3, hb⟩
  obtain ⟨ba, ca, rfl, sa, _⟩ := set_of_own o3 (by decide) (w64_1 9 (by decide))
  obtain ⟨bb, cb, rfl, sb, _⟩ := set_of_own r3 (by decide) (w64_1 8 (by decide))
  have HB3 := Lib.hid (below_then HB2.out hb)
  have SA := Lib.hid sa
  have SB := Lib.hid sb
  clear hb o3 r3 sa sb HB1 HB2
  go_wp2_with (first | ((with_reducible refine (law06_line _).mono ?_); rintro e w4 ⟨rfl, hb⟩; have HB4 := Lib.hid (below_then HB3.out hb); have SA := Lib.hid (SA.out.keep hb); have SB := Lib.hid (SB.out.keep hb); clear hb) | ((with_reducible refine (law06_of _ _ _ _).mono ?_); rintro e w5 ⟨rfl, hb⟩; have HB5 := Lib.hid (below_then HB4.out hb); have SA := Lib.hid (SA.out.keep hb); have SB := Lib.hid (SB.out.keep hb); clear hb))
  refine (H2.out _).mono ?_
  rintro e w6 ⟨v6, u6, rfl, o6, r6, hb⟩
  obtain ⟨bc, cc, rfl, sc, _⟩ := set_of_own o6 (by decide) (w64_1 9 (by decide))
  obtain ⟨bd, cd, rfl, sd, _⟩ := set_of_own r6 (by decide) (w64_1 15 (by decide))
  have HB6 := Lib.hid (below_then HB5.out hb)
  have SA := Lib.hid (SA.out.keep hb)
  have SB := Lib.hid (SB.out.keep hb)
  have SC := Lib.hid sc
  have SD := Lib.hid sd
  clear hb o6 r6 sc sd HB3 HB4 HB5
  go_wp2_with fail
  have hb0 := below_alloc (Below.refl w6.heap.size w6) (.cells #[.int .u64 9] 63)
  refine (same_lit ba ca 9 w6 SA.out (by decide)).mono ?_
  rintro e w7 ⟨rfl, hb⟩
  have h7 := below_then hb0 hb
  have HB7 := Lib.hid (below_then HB6.out h7)
  have SB := Lib.hid (SB.out.keep h7)
  have SC := Lib.hid (SC.out.keep h7)
  have SD := Lib.hid (SD.out.keep h7)
  clear hb hb0 h7 HB6 SA
  go_wp2_with fail
  have hb0 := below_alloc (Below.refl w7.heap.size w7) (.cells #[.int .u64 8] 63)
  refine (same_lit bb cb 8 w7 SB.out (by decide)).mono ?_
  rintro e w8 ⟨rfl, hb⟩
  have h8 := below_then hb0 hb
  have HB8 := Lib.hid (below_then HB7.out h8)
  have SC := Lib.hid (SC.out.keep h8)
  have SD := Lib.hid (SD.out.keep h8)
  clear hb hb0 h8 HB7 SB
  go_wp2_with fail
  have hb0 := below_alloc (Below.refl w8.heap.size w8) (.cells #[.int .u64 9] 63)
  refine (same_lit bc cc 9 w8 SC.out (by decide)).mono ?_
  rintro e w9 ⟨rfl, hb⟩
  have h9 := below_then hb0 hb
  have HB9 := Lib.hid (below_then HB8.out h9)
  have SD := Lib.hid (SD.out.keep h9)
  clear hb hb0 h9 HB8 SC
  go_wp2_with fail
  have hb0 := below_alloc (Below.refl w9.heap.size w9) (.cells #[.int .u64 15] 63)
  refine (same_lit bd cd 15 w9 SD.out (by decide)).mono ?_
  rintro e w10 ⟨rfl, hb⟩
  have HB10 := Lib.hid (below_then HB9.out (below_then hb0 hb))
  clear hb hb0 HB9 SD
  go_wp2_with fail
  go_returns
  exact ⟨rfl, HB10.out⟩
end
end

section
open Go.RowKit Go.Shelf

def sideIn (d : V3) (p : Pl) (m : Int) (k : Nat) : Bool := decide (1 < d.at k) && (hasI (linksV d p) (k * d.n + m) || hasI (linksV d p) (k * d.n + d.step m k (-1)))
def endR (d : V3) (p : Pl) (m : Int) (k : Nat) : Bool := (List.range k).any (sideIn d p m)
def refP (d : V3) (p : Pl) (m : Int) : Bool := endR d p m 3 && !hasI (midsV d p) m
def passR (d : V3) (p : Pl) (j : Nat) : List Int := ((List.range j).filter (fun i => refP d p ((i : Nat) : Int))).map (fun i => ((i : Nat) : Int))
theorem endR_succ (d : V3) (p : Pl) (m : Int) (k : Nat) : endR d p m (k + 1) = (endR d p m k || sideIn d p m k) := by unfold endR; rw [List.range_succ, List.any_append]; simp
theorem passR_succ (d : V3) (p : Pl) (j : Nat) : passR d p (j + 1) = passR d p j ++ (if refP d p (j : Int) then [(j : Int)] else []) := by
  unfold passR
  rw [List.range_succ, List.filter_append, List.map_append]
  congr 1
  cases h : refP d p (j : Int) <;> simp [h]
theorem passR_len (d : V3) (p : Pl) (j : Nat) : (passR d p j).length ≤ j := by
  unfold passR
  rw [List.length_map]
  exact Nat.le_trans (List.length_filter_le _ _) (by simp)
theorem passR_rise (d : V3) (p : Pl) (j : Nat) : (passR d p j).Pairwise (· < ·) := by
  unfold passR
  rw [List.pairwise_map]
  exact ((List.pairwise_lt_range (n := j)).filter _).imp (fun h => by omega)
theorem mem_passR {d : V3} {p : Pl} {j : Nat} {x : Int} : x ∈ passR d p j ↔ (0 ≤ x ∧ x < j) ∧ refP d p x = true := by
  unfold passR
  simp only [List.mem_map, List.mem_filter, List.mem_range]
  constructor
  · rintro ⟨i, ⟨h1, h2⟩, rfl⟩; exact ⟨⟨by omega, by omega⟩, h2⟩
  · rintro ⟨h1, h2⟩; exact ⟨x.toNat, ⟨by omega, by rw [Int.toNat_of_nonneg h1.1]; exact h2⟩, Int.toNat_of_nonneg h1.1⟩
theorem hasI_links {d : V3} {p : Pl} (h : PlFacts d p) {x : Int} (h0 : 0 ≤ x) : hasI (linksV d p) x = decide (x ∈ cabsV d p) := by
  obtain ⟨i, rfl⟩ : ∃ i : Nat, x = (i : Int) := ⟨x.toNat, by omega⟩
  rw [hasI_nat, h.lAt]
theorem hasI_mids {d : V3} {p : Pl} (h : PlFacts d p) {x : Int} (h0 : 0 ≤ x) : hasI (midsV d p) x = decide (x ∈ p.b.all d) := by
  obtain ⟨i, rfl⟩ : ∃ i : Nat, x = (i : Int) := ⟨x.toNat, by omega⟩
  rw [hasI_nat, h.mAt]
theorem endR_iff {d : V3} {p : Pl} (h : PlFacts d p) {m : Int} (hm : 0 ≤ m ∧ m < d.n) : endR d p m 3 = true ↔ ∃ c, c ∈ cabsV d p ∧ (m = d.endM c ∨ m = d.endT c) := by
  have hd := h.may
  have hb := h.box
  have hn := V3.n_pos hd
  unfold endR
  rw [List.any_eq_true]
  constructor
  · rintro ⟨k, hk, hs⟩
    have hk3 := List.mem_range.1 hk
    unfold sideIn at hs
    rw [Bool.and_eq_true, decide_eq_true_iff, Bool.or_eq_true] at hs
    obtain ⟨h1, hs⟩ := hs
    have hkn : (0 : Int) ≤ (k : Int) * d.n := Int.mul_nonneg (by omega) (by omega)
    rcases hs with hs | hs
    · rw [hasI_links h (by omega), decide_eq_true_iff] at hs
      exact ⟨_, hs, .inl (ends_of hd hk3 hm (by omega)).2.1.symm⟩
    · have hq := V3.st_in hd hm.1 hm.2 hk3 (-1)
      rw [hasI_links h (by omega), decide_eq_true_iff] at hs
      refine ⟨_, hs, .inr ?_⟩
      rw [(ends_of hd hk3 hq (by omega)).2.2]
      have := V3.st_back hd hm.1 hm.2 hk3 (-1)
      rw [show (-(-1) : Int) = 1 by rfl] at this
      exact this.symm
  · rintro ⟨c, hc, he⟩
    obtain ⟨k, q, hk, hq, rfl, hl⟩ := (mem_cabsV hd hb c).1 hc
    obtain ⟨_, e2, e3⟩ := ends_of hd hk hq (lk_at hb hk hl)
    have hkn : (0 : Int) ≤ (k : Int) * d.n := Int.mul_nonneg (by omega) (by omega)
    have h1 := lk_at hb hk hl
    have h2 : 1 ≤ d.at k := by have := (Bx.may_at.1 hb k hk).1; omega
    refine ⟨k, List.mem_range.2 hk, ?_⟩
    unfold sideIn
    rw [Bool.and_eq_true, decide_eq_true_iff, Bool.or_eq_true]
    refine ⟨by omega, ?_⟩
    rcases he with rfl | rfl
    · rw [e2]
      left
      rw [hasI_links h (by omega), decide_eq_true_iff]
      exact hc
    · rw [e3]
      right
      have hb2 := V3.st_back hd hq.1 hq.2 hk 1
      rw [hb2, hasI_links h (by omega), decide_eq_true_iff]
      exact hc
theorem passR_all {d : V3} {p : Pl} (hz : plChk d p = 0) : passR d p d.n.toNat = passV d p := by
  have h := pl_facts hz
  have hd := h.may
  have hb := h.box
  have hn := V3.n_pos hd
  obtain ⟨f1, f2, _⟩ := pass_facts hz
  have hv : passV d p = Lib.compact (sorted (outsOf d p (cabsV d p))) := if_pos hz
  have r2 := (compact_rise (show (sorted (outsOf d p (cabsV d p))).Pairwise (· ≤ ·) from sorted_le _)).2
  have hmem : ∀ x, x ∈ passV d p ↔ x ∉ p.b.all d ∧ ∃ c, c ∈ cabsV d p ∧ (x = d.endM c ∨ x = d.endT c) := fun x => by rw [hv, r2, mem_sorted, mem_outs]
  refine rise_ext (passR_rise _ _ _) f1 (fun x => ?_)
  rw [mem_passR]
  constructor
  · rintro ⟨hx, hr⟩
    have hx' : 0 ≤ x ∧ x < d.n := by omega
    unfold refP at hr
    rw [Bool.and_eq_true, hasI_mids h hx'.1, endR_iff h hx'] at hr
    refine (hmem x).2 ⟨?_, hr.1⟩
    intro hin
    have := hr.2
    rw [decide_eq_true hin] at this
    cases this
  · intro hx
    have hx' := (f2 x hx).1
    obtain ⟨h1, h2⟩ := (hmem x).1 hx
    refine ⟨by omega, ?_⟩
    unfold refP
    rw [Bool.and_eq_true, hasI_mids h hx'.1, endR_iff h hx', decide_eq_false h1]
    exact ⟨h2, rfl⟩
theorem apart_hit {d : V3} {p q : Pl} (hp : plChk d p = 0) (hq : plChk d q = 0) :
    apartB d p q = (!hit true (nums (midsV d p)) (midsV d q) && !hit true (nums (linksV d p)) (linksV d q)) := by
  have h1 := pl_facts hp
  have h2 := pl_facts hq
  unfold apartB
  rw [meet_eq _ (midsV_fit d p) (midsV_fit d q), meet_eq _ (linksV_fit d p) (linksV_fit d q)]
  unfold refHit
  rw [if_pos (sChk2_of h1.mChk h2.mChk), if_pos (sChk2_of h1.lChk h2.lChk)]
end
end Go.Proofs.YthabpiphfaedaaaDoor
