/- SCORE: all but a set; the score of a place; how scattered what is free is. -/
import Derived.Test.YthabpiphfaedaaaDoorQ0PlLaw
import Derived.Test.YthabpiphfaedaaaDoorQ0SetNums
import Derived.Test.YthabpiphfaedaaaDoorQ0ScoreC
namespace Go.Proofs.YthabpiphfaedaaaDoor

section
section
open Go.RowKit Go.Shelf

def rangeL (k : Nat) : List Int := (List.range k).map (fun (j : Nat) => (j : Int))
theorem rangeL_succ (k : Nat) : rangeL (k + 1) = rangeL k ++ [(k : Int)] := by simp [rangeL, List.range_succ]
theorem rangeL_len (k : Nat) : (rangeL k).length = k := by simp [rangeL]
theorem mem_rangeL {k : Nat} {x : Int} : x ∈ rangeL k ↔ 0 ≤ x ∧ x < k := by
  unfold rangeL
  rw [List.mem_map]
  constructor
  · rintro ⟨j, hj, rfl⟩; have := List.mem_range.1 hj; omega
  · rintro ⟨h0, h1⟩; exact ⟨x.toNat, List.mem_range.2 (by omega), by omega⟩
/-- All but those of a set. -/
def othersV (n : Int) (s : List Nat) : List Nat := joinIf lessW n (ofSet n (rangeL n.toNat)) s
structure OtFacts (n : Int) (s : List Nat) : Prop where
  e : ofErr n (rangeL n.toNat) = 0
  w : sChk n (ofSet n (rangeL n.toNat)) = 0
  c2 : sChk2 n (ofSet n (rangeL n.toNat)) s = 0
  c : sChk n (othersV n s) = 0
  fit : W64 (othersV n s)
  len : (othersV n s).length ≤ 192
  at' : ∀ i, there (othersV n s) i = (decide ((i : Int) < n) && !there s i)
theorem ot_facts {n : Int} {s : List Nat} (hn : 1 ≤ n ∧ n ≤ 4096) (hs : sChk n s = 0) (fs : W64 s) : OtFacts n s := by
  obtain ⟨a1, a2, a3⟩ := setOf_facts (n := n) (l := rangeL n.toNat) (by unfold nMay; omega) (by rw [rangeL_len]; omega) (fun x hx => by have := mem_rangeL.1 hx; omega)
  have fw := ofSet_fit' n (rangeL n.toNat)
  have c2 := sChk2_of a2 hs
  obtain ⟨b1, b2, b3⟩ := less_may c2 fw fs
  refine ⟨a1, a2, c2, b1, joinIf_fit lessW_fit fw fs, ?_, fun i => ?_⟩
  · show (joinIf lessW n (ofSet n (rangeL n.toNat)) s).length ≤ 192
    rw [b2]; exact ofSet_len' _ _
  · show there (joinIf lessW n (ofSet n (rangeL n.toNat)) s) i = _
    rw [b3, a3]
    congr 1
    rw [decide_eq_decide, mem_rangeL]
    omega
set_option maxRecDepth 100000 in set_option maxHeartbeats 4000000 in
theorem score_others (n : Int) (bs : Option Addr) (cs : Nat) (s : List Nat) (w : World) (hn : 1 ≤ n ∧ n ≤ 4096) (hs : SetIn w bs s) (hc : sChk n s = 0) :
    Calls Tryd.prog 63 #[.int .i64 n, .slice bs s.length cs] w (RU w (othersV n s)) := by
  obtain ⟨i0, hi, iz0, iz1, iz2⟩ := info_parts infoInt
  obtain ⟨m, rfl⟩ : ∃ m : Nat, n = (m : Int) := ⟨n.toNat, by omega⟩
  have hf := ot_facts hn hc hs.fit
  have HO := Lib.hid (fun ba ca W (h : LIn W ba (rangeL m)) => by have := set_Of (m : Int) ba ca (rangeL m) W h; rw [show ofErr (m : Int) (rangeL m) = 0 by have := hf.e; rwa [Int.toNat_natCast] at this] at this; exact this)
  have HL := Lib.hid (fun ba ca W (hw : Below w.heap.size w W) (h : SetIn W ba (ofSet (m : Int) (rangeL m))) => by have := (show Calls Tryd.prog 29 #[.int .i64 m, .slice ba (ofSet (m : Int) (rangeL m)).length ca, .slice bs s.length cs] W (RUE W (joinIf lessW (m : Int) (ofSet (m : Int) (rangeL m)) s) (sChk2 (m : Int) (ofSet (m : Int) (rangeL m)) s)) from set_Less (m : Int) ba bs ca cs (ofSet (m : Int) (rangeL m)) s W h (hs.keep hw)); rw [show sChk2 (m : Int) (ofSet (m : Int) (rangeL m)) s = 0 by have := hf.c2; rwa [Int.toNat_natCast] at this] at this; exact this)
  have HV := Lib.hid (show othersV (m : Int) s = joinIf lessW (m : Int) (ofSet (m : Int) (rangeL m)) s by unfold othersV; rw [Int.toNat_natCast])
  have FO := Lib.hid (And.intro (ofSet_fit' (m : Int) (rangeL m)) (ofSet_len' (m : Int) (rangeL m)))
  generalize joinIf lessW (m : Int) (ofSet (m : Int) (rangeL m)) s = J at *
  generalize ofSet (m : Int) (rangeL m) = O at *
  clear hf hs hc
  go_enter Tryd.func63, Tryd.ntmps63
  go_wp2_with fail
  go_loopw [5, 12] (fun v x wr => ∃ k : Nat, k ≤ m ∧ x = .int .i64 k ∧ wr.ownsRow w.heap.size 3 1 v k (ic (rangeL k)) ∧ Below w.heap.size w wr) (fun _ x _ => m - (intOf x).toNat)
  case atStart => exact ⟨0, Nat.zero_le _, rfl, World.ownsRow_nil _ _ _ _, Below.refl _ _⟩
  case round =>
    obtain ⟨k, hk, rfl, ho, hbe⟩ := hrel
    have HOW := Lib.hid ho
    have HBE := Lib.hid hbe
    have hz := hbe.size
    by_cases hlt : k < m
    · clear ho hbe
      go_wp2_with (at_builtin; refine wpList_append_own _ rfl _ _ 38 rfl (w.heap.size) 3 i0 (.int .i64 0) 1 8 Tryd.underlying38 hi iz0 iz1 iz2 rfl (by decide) _ _ _ rfl ((HOW.out).alloc _) ⟨_, 0, none⟩ 1 1 [.int .i64 ((k : Int))] rfl rfl (cell_new1 _ _ _) (by simp [Value.oneCell']) ?_ ?_ ?_ ?_)
      case _ => unfold maxLen; omega
      case _ => omega
      case _ => simp; omega
      intro v' w3 o3 hg3 _
      have n3 := own_below (HOW.out.alloc (.cells #[.int .i64 (k : Int)] 3)) hg3 (by simp; omega)
      have HB3 := Lib.hid ((HBE.out.alloc hz (.cells #[.int .i64 (k : Int)] 3)).trans n3)
      have HO3 := Lib.hid (show w3.ownsRow w.heap.size 3 1 v' (k + 1) (ic (rangeL (k + 1))) by rw [rangeL_succ, ic_app]; exact o3)
      clear n3 o3 hg3
      go_wp2_with fail
      go_roundw
      case rel => exact ⟨k + 1, by omega, by go_num, HO3.out, HB3.out⟩
      case measure => (simp [intOf] <;> omega)
    · obtain rfl : k = m := by omega
      have ho' : wr.ownsRow w.heap.size 3 1 u5 (rangeL k).length ((rangeL k).map (Value.int .i64)) := by rw [rangeL_len]; exact ho
      obtain ⟨ba, ca, e, la, _⟩ := list_of_own ho' (by rw [rangeL_len]; omega)
      rw [rangeL_len] at e
      subst e
      have HLA := Lib.hid la
      have HO2 := Lib.hid (show Calls Tryd.prog 27 #[.int .i64 k, .slice ba k ca] wr (RUE wr O 0) from by have := HO.out ba ca wr la; rw [rangeL_len] at this; exact this)
      clear ho ho' hbe la
      go_wp2_with fail
      refine HO2.out.mono ?_
      rintro e w4 ⟨v4, rfl, o4, hb4⟩
      obtain ⟨bo, co, rfl, so, _⟩ := set_of_own o4 (by have := FO.out.2; omega) FO.out.1
      have HB4 := Lib.hid (HBE.out.trans (hb4.mono hz))
      have SO := Lib.hid so
      clear hb4 o4 so
      go_wp2_with fail
      refine (HL.out bo co _ HB4.out SO.out).mono ?_
      rintro e w5 ⟨v5, rfl, o5, hb5⟩
      have HB5 := Lib.hid (HB4.out.trans (hb5.mono HB4.out.size))
      have HO5 := Lib.hid (row_mono o5 HB4.out.size)
      clear hb5 o5
      go_wp2_with fail
      go_returns
      exact ⟨_, rfl, by rw [HV.out]; exact HO5.out, HB5.out⟩
/-- The error of one set. -/
def oneE (d : V3) (a : List Nat) : Int := if d.may then (if sChk d.n a = 0 then 0 else 8) else 8
theorem oneE_0 {d : V3} {a : List Nat} (h : oneE d a = 0) : d.may ∧ sChk d.n a = 0 := by
  unfold oneE at h
  split at h
  · next h1 =>
    split at h
    · next h2 => exact ⟨h1, h2⟩
    · omega
  · omega
set_option maxRecDepth 100000 in set_option maxHeartbeats 4000000 in
theorem score_checked1 (d : V3) (ba : Option Addr) (ca : Nat) (a : List Nat) (w : World) (B : Nat) (ha : SetIn w ba a) (h0 : w.cell? ⟨B, 0, none⟩ = some (.slice ba a.length ca)) :
    Calls Tryd.prog 56 #[.agg #[.int .i64 d.x, .int .i64 d.y, .int .i64 d.z], .slice (some ⟨B, 0, none⟩) 1 1] w (RB w (.tuple #[.int .i64 d.many, .int .i64 (oneE d a)])) := by
  have HA := Lib.hid (fun W (hw : Below w.heap.size w W) => set_Check d.n ba ca a W (ha.keep hw).rd ha.len ha.fit)
  have HM := Lib.hid (fun W => pos_Many d W)
  have HE := Lib.hid (show oneE d a = if d.may then (if sChk d.n a = 0 then 0 else 8) else 8 from rfl)
  have H0 := Lib.hid (fun W (hw : Below w.heap.size w W) => (hw.cell (p := ⟨B, 0, none⟩) (World.block_lt_of_cell? w ⟨B, 0, none⟩ h0)).trans h0)
  clear ha h0
  by_cases hd : d.may
  · have hm : d.many = d.n := V3.many_ok hd
    rw [hm, V3.err_ok hd] at HM
    rw [if_pos hd] at HE
    rw [hm]
    clear hm hd
    by_cases hz : sChk d.n a = 0
    · rw [if_pos hz] at HE
      rw [hz] at HA
      clear hz
      go_enter Tryd.func56, Tryd.ntmps56
      go_wp2_with ((with_reducible refine (HM.out _).mono ?_); rintro e w1 ⟨rfl, hb1⟩; (obtain ⟨hc1, hf1⟩ := bcell hb1; have hz1 := hb1.size; (try simp at hz1); have hB : Below w.heap.size w w1 := (by (repeat (first | (with_reducible exact Below.refl _ _) | (with_reducible assumption) | (with_reducible refine below_alloc ?_ _) | (with_reducible refine below_drewN ?_ _) | (with_reducible refine Below.drew ?_) | (with_reducible refine below_then ?_ (by with_reducible assumption)) | (with_reducible refine Below.setCell ?_ (by go_size) _)))); obtain ⟨hcB, hfB⟩ := bcell hB; (try have z0 : w.heap.size < w1.heap.size := by omega); (try have z1 : w.heap.size + 1 < w1.heap.size := by omega); (try have z2 : w.heap.size + 2 < w1.heap.size := by omega); (try have z3 : w.heap.size + 3 < w1.heap.size := by omega)))
      have c0 := H0.out w1 hB
      refine wp_loop_rounds 2 ?_
      rw [rounds_succ]
      go_wp2_with ((with_reducible refine (HA.out _ (by (repeat (first | (with_reducible exact Below.refl _ _) | (with_reducible assumption) | (with_reducible refine below_alloc ?_ _) | (with_reducible refine below_drewN ?_ _) | (with_reducible refine Below.drew ?_) | (with_reducible refine below_then ?_ (by with_reducible assumption)) | (with_reducible refine Below.setCell ?_ (by go_size) _))))).mono ?_); rintro e w3 ⟨rfl, hw3⟩; have hw3 := hw3.symm; subst hw3)
      rw [rounds_succ]
      go_wp2_with fail
      go_returns
      exact ⟨by rw [HE.out]; rfl, hB⟩
    · rw [if_neg hz] at HE
      have hy1 : (sChk d.n a == 0) = false := by simpa using hz
      have hy2 : (sChk d.n a != 0) = true := by simpa using hz
      clear hz
      go_enter Tryd.func56, Tryd.ntmps56
      go_wp2_with ((with_reducible refine (HM.out _).mono ?_); rintro e w1 ⟨rfl, hb1⟩; (obtain ⟨hc1, hf1⟩ := bcell hb1; have hz1 := hb1.size; (try simp at hz1); have hB : Below w.heap.size w w1 := (by (repeat (first | (with_reducible exact Below.refl _ _) | (with_reducible assumption) | (with_reducible refine below_alloc ?_ _) | (with_reducible refine below_drewN ?_ _) | (with_reducible refine Below.drew ?_) | (with_reducible refine below_then ?_ (by with_reducible assumption)) | (with_reducible refine Below.setCell ?_ (by go_size) _)))); obtain ⟨hcB, hfB⟩ := bcell hB; (try have z0 : w.heap.size < w1.heap.size := by omega); (try have z1 : w.heap.size + 1 < w1.heap.size := by omega); (try have z2 : w.heap.size + 2 < w1.heap.size := by omega); (try have z3 : w.heap.size + 3 < w1.heap.size := by omega)))
      have c0 := H0.out w1 hB
      refine wp_loop_rounds 2 ?_
      rw [rounds_succ]
      go_wp2_with ((with_reducible refine (HA.out _ (by (repeat (first | (with_reducible exact Below.refl _ _) | (with_reducible assumption) | (with_reducible refine below_alloc ?_ _) | (with_reducible refine below_drewN ?_ _) | (with_reducible refine Below.drew ?_) | (with_reducible refine below_then ?_ (by with_reducible assumption)) | (with_reducible refine Below.setCell ?_ (by go_size) _))))).mono ?_); rintro e w3 ⟨rfl, hw3⟩; have hw3 := hw3.symm; subst hw3)
      rw [rounds_succ]
      go_wp2_with fail
      go_returns
      exact ⟨by rw [HE.out]; rfl, hB⟩
  · rw [V3.err_no hd] at HM
    rw [if_neg hd] at HE
    clear hd
    go_enter Tryd.func56, Tryd.ntmps56
    go_wp2_with ((with_reducible refine (HM.out _).mono ?_); rintro e w1 ⟨rfl, hb1⟩; (obtain ⟨hc1, hf1⟩ := bcell hb1; have hz1 := hb1.size; (try simp at hz1); have hB : Below w.heap.size w w1 := (by (repeat (first | (with_reducible exact Below.refl _ _) | (with_reducible assumption) | (with_reducible refine below_alloc ?_ _) | (with_reducible refine below_drewN ?_ _) | (with_reducible refine Below.drew ?_) | (with_reducible refine below_then ?_ (by with_reducible assumption)) | (with_reducible refine Below.setCell ?_ (by go_size) _)))); obtain ⟨hcB, hfB⟩ := bcell hB; (try have z0 : w.heap.size < w1.heap.size := by omega); (try have z1 : w.heap.size + 1 < w1.heap.size := by omega); (try have z2 : w.heap.size + 2 < w1.heap.size := by omega); (try have z3 : w.heap.size + 3 < w1.heap.size := by omega)))
    have c0 := H0.out w1 hB
    refine wp_loop_rounds 2 ?_
    rw [rounds_succ]
    go_wp2_with fail
    rw [rounds_succ]
    go_wp2_with fail
    go_returns
    exact ⟨by rw [HE.out]; rfl, hB⟩
end

section
open Go.RowKit Go.Shelf

def freeV (d : V3) (p : Pl) (s : List Nat) : List Nat := joinIf lessW d.n (othersV d.n s) (midsV d p)
def scoreE (d : V3) (p : Pl) (s : List Nat) : Int := if oneE d s = 0 then plChk d p else oneE d s
def scoreV (d : V3) (p : Pl) (s : List Nat) : Int := if scoreE d p s = 0 then 2 * (openTo d (freeV d p s) (nums (midsV d p)) : Nat) + manyV (3 * d.n) (linksV d p) else 0
def spreadV (d : V3) (s : List Nat) : Int := if oneE d s = 0 then (openTo d s (nums (othersV d.n s)) : Nat) else 0
theorem scoreE_0 {d : V3} {p : Pl} {s : List Nat} (h : scoreE d p s = 0) : oneE d s = 0 ∧ plChk d p = 0 := by
  unfold scoreE at h
  split at h
  · next h1 => exact ⟨h1, h⟩
  · next h1 => exact absurd h h1
set_option maxRecDepth 100000 in set_option maxHeartbeats 4000000 in
theorem score_Spread (d : V3) (bs : Option Addr) (cs : Nat) (s : List Nat) (w : World) (hs : SetIn w bs s) (hT : TabAt 0 Lib.deBruijn64tab w) (hg : 0 < w.heap.size) :
    Calls Tryd.prog 28 #[.agg #[.int .i64 d.x, .int .i64 d.y, .int .i64 d.z], .slice bs s.length cs] w (RB w (.tuple #[.int .i64 (spreadV d s), .int .i64 (oneE d s)])) := by
  have HC := Lib.hid (fun W (hw : Below w.heap.size w W) B (h0 : W.cell? ⟨B, 0, none⟩ = some (.slice bs s.length cs)) => score_checked1 d bs cs s W B (hs.keep hw) h0)
  by_cases h : oneE d s = 0
  · obtain ⟨hd, hc⟩ := oneE_0 h
    have hn := V3.n_pos hd
    have hf := ot_facts hn hc hs.fit
    have HO := Lib.hid (fun W (hw : Below w.heap.size w W) => score_others d.n bs cs s W hn (hs.keep hw) hc)
    have HP := Lib.hid (fun ba ca W (hw : Below w.heap.size w W) (h : SetIn W ba (othersV d.n s)) => score_open d ba bs ca cs (othersV d.n s) s W hd h (hs.keep hw) hf.c hc (tab_keep' hT hg hw).1 (tab_keep' hT hg hw).2)
    have FO := Lib.hid (And.intro hf.fit hf.len)
    have hv : spreadV d s = (openTo d s (nums (othersV d.n s)) : Nat) := if_pos h
    rw [V3.many_ok hd, h] at HC
    rw [hv, h]
    clear hs hT hg hc hd h hf hv
    generalize othersV d.n s = O at *
    go_enter Tryd.func28, Tryd.ntmps28
    go_wp2_with fail
    refine (HC.out _ (by (repeat (first | (with_reducible exact Below.refl _ _) | (with_reducible assumption) | (with_reducible refine below_alloc ?_ _) | (with_reducible refine below_drewN ?_ _) | (with_reducible refine Below.drew ?_) | (with_reducible refine below_then ?_ (by with_reducible assumption)) | (with_reducible refine Below.setCell ?_ (by go_size) _)))) _ (by go_simp)).mono ?_
    rintro e w1 ⟨rfl, hb⟩
    have BD := Lib.hid (((Blk.new w 23 #[.int .i64 d.x, .int .i64 d.y, .int .i64 d.z]).alloc (.cells #[.slice bs s.length cs] 31)).below hb)
    have HB := Lib.hid (below_then (show Below w.heap.size w ((w.alloc (.cells #[.int .i64 d.x, .int .i64 d.y, .int .i64 d.z] 23)).alloc (.cells #[.slice bs s.length cs] 31)) by (repeat (first | (with_reducible exact Below.refl _ _) | (with_reducible assumption) | (with_reducible refine below_alloc ?_ _) | (with_reducible refine below_drewN ?_ _) | (with_reducible refine Below.drew ?_) | (with_reducible refine below_then ?_ (by with_reducible assumption)) | (with_reducible refine Below.setCell ?_ (by go_size) _)))) hb)
    clear hb
    (have d0 := (BD.out).cell 0 _ rfl; have d1 := (BD.out).cell 1 _ rfl; have d2 := (BD.out).cell 2 _ rfl)
    have bdl := BD.out.lt
    have hB1 := HB.out
    have mixed : Tryd.prog.follows .mixedOrders = true := by kernel_rfl
    go_wp2_with fail
    go_region_with (first
      | (go_at_call 63; (with_reducible refine (HO.out _ (by (repeat (first | (with_reducible exact Below.refl _ _) | (with_reducible assumption) | (with_reducible refine below_alloc ?_ _) | (with_reducible refine below_drewN ?_ _) | (with_reducible refine Below.drew ?_) | (with_reducible refine below_then ?_ (by with_reducible assumption)) | (with_reducible refine Below.setCell ?_ (by go_size) _))))).mono ?_); rintro e w3 ⟨v, rfl, o3, hb3⟩; obtain ⟨bo, co, rfl, so, _⟩ := set_of_own o3 (by have := FO.out.2; omega) FO.out.1; have hb3' := below_then (show Below w1.heap.size w1 _ by (repeat (first | (with_reducible exact Below.refl _ _) | (with_reducible assumption) | (with_reducible refine below_alloc ?_ _) | (with_reducible refine below_drewN ?_ _) | (with_reducible refine Below.drew ?_) | (with_reducible refine below_then ?_ (by with_reducible assumption)) | (with_reducible refine Below.setCell ?_ (by go_size) _)))) hb3; have HB3 := Lib.hid (HB.out.trans (hb3'.mono HB.out.size)); have hB3 := HB3.out; have SO := Lib.hid so; have e0 := (BD.out.below hb3').cell 0 _ rfl; have e1 := (BD.out.below hb3').cell 1 _ rfl; have e2 := (BD.out.below hb3').cell 2 _ rfl; have e3 := (BD.out.below hb3').lt; clear hb3 hb3' o3 so)
      | (go_at_call 57; (with_reducible refine (HP.out _ _ _ (by (repeat (first | (with_reducible exact Below.refl _ _) | (with_reducible assumption) | (with_reducible refine below_alloc ?_ _) | (with_reducible refine below_drewN ?_ _) | (with_reducible refine Below.drew ?_) | (with_reducible refine below_then ?_ (by with_reducible assumption)) | (with_reducible refine Below.setCell ?_ (by go_size) _)))) (SO.out.keep (by (repeat (first | (with_reducible exact Below.refl _ _) | (with_reducible assumption) | (with_reducible refine below_alloc ?_ _) | (with_reducible refine below_drewN ?_ _) | (with_reducible refine Below.drew ?_) | (with_reducible refine below_then ?_ (by with_reducible assumption)) | (with_reducible refine Below.setCell ?_ (by go_size) _)))))).mono ?_); rintro e w5 ⟨rfl, hb5⟩; have HB5 := Lib.hid (below_then (show Below w.heap.size w _ by (repeat (first | (with_reducible exact Below.refl _ _) | (with_reducible assumption) | (with_reducible refine below_alloc ?_ _) | (with_reducible refine below_drewN ?_ _) | (with_reducible refine Below.drew ?_) | (with_reducible refine below_then ?_ (by with_reducible assumption)) | (with_reducible refine Below.setCell ?_ (by go_size) _)))) hb5); clear hb5))
    all_goals
      go_wp2_with fail
      go_returns
      exact ⟨rfl, HB5.out⟩
  · have hv : spreadV d s = 0 := if_neg h
    have hy : (oneE d s != 0) = true := by simpa using h
    rw [hv]
    generalize oneE d s = E at *
    clear hs hT hg h hv
    go_enter Tryd.func28, Tryd.ntmps28
    go_wp2_with fail
    refine (HC.out _ (by (repeat (first | (with_reducible exact Below.refl _ _) | (with_reducible assumption) | (with_reducible refine below_alloc ?_ _) | (with_reducible refine below_drewN ?_ _) | (with_reducible refine Below.drew ?_) | (with_reducible refine below_then ?_ (by with_reducible assumption)) | (with_reducible refine Below.setCell ?_ (by go_size) _)))) _ (by go_simp)).mono ?_
    rintro e w1 ⟨rfl, hb⟩
    have HB := Lib.hid (below_then (show Below w.heap.size w ((w.alloc (.cells #[.int .i64 d.x, .int .i64 d.y, .int .i64 d.z] 23)).alloc (.cells #[.slice bs s.length cs] 31)) by (repeat (first | (with_reducible exact Below.refl _ _) | (with_reducible assumption) | (with_reducible refine below_alloc ?_ _) | (with_reducible refine below_drewN ?_ _) | (with_reducible refine Below.drew ?_) | (with_reducible refine below_then ?_ (by with_reducible assumption)) | (with_reducible refine Below.setCell ?_ (by go_size) _)))) hb)
    clear hb
    go_wp2_with fail
    go_returns
    exact ⟨rfl, HB.out⟩
set_option maxRecDepth 100000 in set_option maxHeartbeats 4000000 in
theorem score_Of (d : V3) (p : Pl) (bs : Option Addr) (cs : Nat) (s : List Nat) (w : World) (hs : SetIn w bs s) (hT : TabAt 0 Lib.deBruijn64tab w) (hg : 0 < w.heap.size) :
    Calls Tryd.prog 30 #[.agg #[.int .i64 d.x, .int .i64 d.y, .int .i64 d.z], .agg #[.int .i64 p.b.b.x, .int .i64 p.b.b.y, .int .i64 p.b.b.z, .int .i64 p.b.s.x, .int .i64 p.b.s.y, .int .i64 p.b.s.z, .bool p.t0, .bool p.t1, .bool p.t2], .slice bs s.length cs] w (RB w (.tuple #[.int .i64 (scoreV d p s), .int .i64 (scoreE d p s)])) := by
  have HC := Lib.hid (fun W (hw : Below w.heap.size w W) B (h0 : W.cell? ⟨B, 0, none⟩ = some (.slice bs s.length cs)) => score_checked1 d bs cs s W B (hs.keep hw) h0)
  have HS := Lib.hid (fun W => place_Sets d p W)
  by_cases h : oneE d s = 0
  · obtain ⟨hd, hc⟩ := oneE_0 h
    rw [V3.many_ok hd, h] at HC
    by_cases hp : plChk d p = 0
    · have hE : scoreE d p s = 0 := by unfold scoreE; rw [if_pos h, hp]
      have pf := pl_facts hp
      have hn := V3.n_pos hd
      have hf := ot_facts hn hc hs.fit
      have fm := midsV_fit d p
      have c2 := sChk2_of hf.c pf.mChk
      obtain ⟨g1, g2, _⟩ := less_may c2 hf.fit fm
      have HO := Lib.hid (fun W (hw : Below w.heap.size w W) => score_others d.n bs cs s W hn (hs.keep hw) hc)
      have HL := Lib.hid (fun ba bb ca cb W ha hb => by have := (show Calls Tryd.prog 29 #[.int .i64 d.n, .slice ba (othersV d.n s).length ca, .slice bb (midsV d p).length cb] W (RUE W (freeV d p s) (sChk2 d.n (othersV d.n s) (midsV d p))) from set_Less d.n ba bb ca cb (othersV d.n s) (midsV d p) W ha hb); rw [c2] at this; exact this)
      have HM := Lib.hid (fun ba ca W h => by have := set_Many (3 * d.n) ba ca (linksV d p) W h; rw [pf.lChk] at this; exact this)
      have HP := Lib.hid (fun ba bb ca cb W (hw : Below w.heap.size w W) (h1 : SetIn W ba (midsV d p)) (h2 : SetIn W bb (freeV d p s)) => score_open d ba bb ca cb (midsV d p) (freeV d p s) W hd h1 h2 pf.mChk g1 (tab_keep' hT hg hw).1 (tab_keep' hT hg hw).2)
      have FO := Lib.hid (And.intro hf.fit hf.len)
      have FF := Lib.hid (show W64 (freeV d p s) ∧ (freeV d p s).length ≤ 192 from ⟨joinIf_fit lessW_fit hf.fit fm, by show (joinIf lessW d.n (othersV d.n s) (midsV d p)).length ≤ 192; rw [g2]; exact hf.len⟩)
      have FM := Lib.hid (And.intro fm (midsV_len d p))
      have FL := Lib.hid (And.intro (linksV_fit d p) (linksV_len d p))
      have hv : scoreV d p s = 2 * (openTo d (freeV d p s) (nums (midsV d p)) : Nat) + manyV (3 * d.n) (linksV d p) := if_pos hE
      have o1 : (openTo d (freeV d p s) (nums (midsV d p))) ≤ 6 * 12288 := by
        have h1 := openTo_le d (freeV d p s) (nums (midsV d p))
        have h2 := listV_len d.n (midsV d p)
        rw [show listV d.n (midsV d p) = nums (midsV d p) from if_pos pf.mChk] at h2
        omega
      have o2 : 0 ≤ manyV (3 * d.n) (linksV d p) ∧ manyV (3 * d.n) (linksV d p) ≤ 12288 := by
        have h2 := listV_len (3 * d.n) (linksV d p)
        rw [show listV (3 * d.n) (linksV d p) = nums (linksV d p) from if_pos pf.lChk] at h2
        unfold manyV
        rw [if_pos pf.lChk]
        omega
      obtain ⟨m0, m1⟩ := o2
      rw [hv, hE]
      rw [hp] at HS
      clear hs hT hg hc hd h hf hv hE pf fm c2 g1 g2 hp
      generalize openTo d (freeV d p s) (nums (midsV d p)) = Q at *
      generalize manyV (3 * d.n) (linksV d p) = Y at *
      generalize freeV d p s = F at *
      generalize othersV d.n s = O at *
      generalize midsV d p = A at *
      generalize linksV d p = L at *
      generalize d.n = n at *
      go_enter Tryd.func30, Tryd.ntmps30
      go_wp2_with fail
      refine (HC.out _ (by (repeat (first | (with_reducible exact Below.refl _ _) | (with_reducible assumption) | (with_reducible refine below_alloc ?_ _) | (with_reducible refine below_drewN ?_ _) | (with_reducible refine Below.drew ?_) | (with_reducible refine below_then ?_ (by with_reducible assumption)) | (with_reducible refine Below.setCell ?_ (by go_size) _)))) _ (by go_simp)).mono ?_
      rintro e w1 ⟨rfl, hb⟩
      have BD := Lib.hid ((((Blk.new w 23 #[.int .i64 d.x, .int .i64 d.y, .int .i64 d.z]).alloc (.cells #[.int .i64 p.b.b.x, .int .i64 p.b.b.y, .int .i64 p.b.b.z, .int .i64 p.b.s.x, .int .i64 p.b.s.y, .int .i64 p.b.s.z, .bool p.t0, .bool p.t1, .bool p.t2] 28)).alloc (.cells #[.slice bs s.length cs] 31)).below hb)
      have BP := Lib.hid ((by have := ((Blk.new (w.alloc (.cells #[.int .i64 d.x, .int .i64 d.y, .int .i64 d.z] 23)) 28 #[.int .i64 p.b.b.x, .int .i64 p.b.b.y, .int .i64 p.b.b.z, .int .i64 p.b.s.x, .int .i64 p.b.s.y, .int .i64 p.b.s.z, .bool p.t0, .bool p.t1, .bool p.t2]).alloc (.cells #[.slice bs s.length cs] 31)).below hb; rwa [World.size_alloc] at this : Blk w1 (w.heap.size + 1) 28 #[.int .i64 p.b.b.x, .int .i64 p.b.b.y, .int .i64 p.b.b.z, .int .i64 p.b.s.x, .int .i64 p.b.s.y, .int .i64 p.b.s.z, .bool p.t0, .bool p.t1, .bool p.t2]))
      have HB := Lib.hid (below_then (show Below w.heap.size w (((w.alloc (.cells #[.int .i64 d.x, .int .i64 d.y, .int .i64 d.z] 23)).alloc (.cells #[.int .i64 p.b.b.x, .int .i64 p.b.b.y, .int .i64 p.b.b.z, .int .i64 p.b.s.x, .int .i64 p.b.s.y, .int .i64 p.b.s.z, .bool p.t0, .bool p.t1, .bool p.t2] 28)).alloc (.cells #[.slice bs s.length cs] 31)) by (repeat (first | (with_reducible exact Below.refl _ _) | (with_reducible assumption) | (with_reducible refine below_alloc ?_ _) | (with_reducible refine below_drewN ?_ _) | (with_reducible refine Below.drew ?_) | (with_reducible refine below_then ?_ (by with_reducible assumption)) | (with_reducible refine Below.setCell ?_ (by go_size) _)))) hb)
      clear hb
      (have d0 := (BD.out).cell 0 _ rfl; have d1 := (BD.out).cell 1 _ rfl; have d2 := (BD.out).cell 2 _ rfl)
      (have p0 := (BP.out).cell 0 _ rfl; have p1 := (BP.out).cell 1 _ rfl; have p2 := (BP.out).cell 2 _ rfl; have p3 := (BP.out).cell 3 _ rfl; have p4 := (BP.out).cell 4 _ rfl; have p5 := (BP.out).cell 5 _ rfl; have p6 := (BP.out).cell 6 _ rfl; have p7 := (BP.out).cell 7 _ rfl; have p8 := (BP.out).cell 8 _ rfl)
      go_wp2_with fail
      refine (HS.out _).mono ?_
      rintro e w2 ⟨v1, u1, rfl, q1, r1, hb⟩
      obtain ⟨ba, ca, rfl, sa, _⟩ := set_of_own q1 (by have := FM.out.2; omega) FM.out.1
      obtain ⟨bl, cl, rfl, sl, _⟩ := set_of_own r1 (by have := FL.out.2; omega) FL.out.1
      have SA := Lib.hid sa
      have SL := Lib.hid sl
      have BD := Lib.hid (BD.out.below hb)
      have HB := Lib.hid (below_then HB.out hb)
      clear hb q1 r1 sa sl d0 d1 d2 p0 p1 p2 p3 p4 p5 p6 p7 p8
      go_wp2_with fail
      refine (HO.out _ HB.out).mono ?_
      rintro e w3 ⟨v3, rfl, q3, hb⟩
      obtain ⟨bo, co, rfl, so, _⟩ := set_of_own q3 (by have := FO.out.2; omega) FO.out.1
      have SO := Lib.hid so
      have SA := Lib.hid (SA.out.keep hb)
      have SL := Lib.hid (SL.out.keep hb)
      have BD := Lib.hid (BD.out.below hb)
      have HB := Lib.hid (below_then HB.out hb)
      clear hb q3 so
      go_wp2_with fail
      refine (HL.out bo ba co ca _ SO.out SA.out).mono ?_
      rintro e w4 ⟨v4, rfl, q4, hb⟩
      obtain ⟨bf, cf, rfl, sf, _⟩ := set_of_own q4 (by have := FF.out.2; omega) FF.out.1
      have SF := Lib.hid sf
      have SA := Lib.hid (SA.out.keep hb)
      have SL := Lib.hid (SL.out.keep hb)
      have BD := Lib.hid (BD.out.below hb)
      have HB := Lib.hid (below_then HB.out hb)
      clear hb q4 sf SO
      go_wp2_with fail
      refine (HM.out bl cl _ SL.out).mono ?_
      rintro e w5 ⟨rfl, hb⟩
      have SF := Lib.hid (SF.out.keep hb)
      have SA := Lib.hid (SA.out.keep hb)
      have BD := Lib.hid (BD.out.below hb)
      have HB := Lib.hid (below_then HB.out hb)
      clear hb SL
      (have d0 := (BD.out).cell 0 _ rfl; have d1 := (BD.out).cell 1 _ rfl; have d2 := (BD.out).cell 2 _ rfl)
      go_wp2_with fail
      refine (HP.out ba bf ca cf _ HB.out SA.out SF.out).mono ?_
      rintro e w6 ⟨rfl, hb⟩
      have HB6 := below_then HB.out hb
      clear hb d0 d1 d2
      go_wp2_with fail
      go_returns
      exact ⟨rfl, HB6⟩
    · have hE : scoreE d p s = plChk d p := if_pos h
      have hv : scoreV d p s = 0 := if_neg (by rw [hE]; exact hp)
      have hy : (plChk d p != 0) = true := by simpa using hp
      rw [hv, hE]
      clear hs hT hg h hv hE hp hd hc
      generalize plChk d p = E at *
      go_enter Tryd.func30, Tryd.ntmps30
      go_wp2_with fail
      refine (HC.out _ (by (repeat (first | (with_reducible exact Below.refl _ _) | (with_reducible assumption) | (with_reducible refine below_alloc ?_ _) | (with_reducible refine below_drewN ?_ _) | (with_reducible refine Below.drew ?_) | (with_reducible refine below_then ?_ (by with_reducible assumption)) | (with_reducible refine Below.setCell ?_ (by go_size) _)))) _ (by go_simp)).mono ?_
      rintro e w1 ⟨rfl, hb⟩
      have BD := Lib.hid ((((Blk.new w 23 #[.int .i64 d.x, .int .i64 d.y, .int .i64 d.z]).alloc (.cells #[.int .i64 p.b.b.x, .int .i64 p.b.b.y, .int .i64 p.b.b.z, .int .i64 p.b.s.x, .int .i64 p.b.s.y, .int .i64 p.b.s.z, .bool p.t0, .bool p.t1, .bool p.t2] 28)).alloc (.cells #[.slice bs s.length cs] 31)).below hb)
      have BP := Lib.hid ((by have := ((Blk.new (w.alloc (.cells #[.int .i64 d.x, .int .i64 d.y, .int .i64 d.z] 23)) 28 #[.int .i64 p.b.b.x, .int .i64 p.b.b.y, .int .i64 p.b.b.z, .int .i64 p.b.s.x, .int .i64 p.b.s.y, .int .i64 p.b.s.z, .bool p.t0, .bool p.t1, .bool p.t2]).alloc (.cells #[.slice bs s.length cs] 31)).below hb; rwa [World.size_alloc] at this : Blk w1 (w.heap.size + 1) 28 #[.int .i64 p.b.b.x, .int .i64 p.b.b.y, .int .i64 p.b.b.z, .int .i64 p.b.s.x, .int .i64 p.b.s.y, .int .i64 p.b.s.z, .bool p.t0, .bool p.t1, .bool p.t2]))
      have HB := Lib.hid (below_then (show Below w.heap.size w (((w.alloc (.cells #[.int .i64 d.x, .int .i64 d.y, .int .i64 d.z] 23)).alloc (.cells #[.int .i64 p.b.b.x, .int .i64 p.b.b.y, .int .i64 p.b.b.z, .int .i64 p.b.s.x, .int .i64 p.b.s.y, .int .i64 p.b.s.z, .bool p.t0, .bool p.t1, .bool p.t2] 28)).alloc (.cells #[.slice bs s.length cs] 31)) by (repeat (first | (with_reducible exact Below.refl _ _) | (with_reducible assumption) | (with_reducible refine below_alloc ?_ _) | (with_reducible refine below_drewN ?_ _) | (with_reducible refine Below.drew ?_) | (with_reducible refine below_then ?_ (by with_reducible assumption)) | (with_reducible refine Below.setCell ?_ (by go_size) _)))) hb)
      clear hb
      (have d0 := (BD.out).cell 0 _ rfl; have d1 := (BD.out).cell 1 _ rfl; have d2 := (BD.out).cell 2 _ rfl)
      (have p0 := (BP.out).cell 0 _ rfl; have p1 := (BP.out).cell 1 _ rfl; have p2 := (BP.out).cell 2 _ rfl; have p3 := (BP.out).cell 3 _ rfl; have p4 := (BP.out).cell 4 _ rfl; have p5 := (BP.out).cell 5 _ rfl; have p6 := (BP.out).cell 6 _ rfl; have p7 := (BP.out).cell 7 _ rfl; have p8 := (BP.out).cell 8 _ rfl)
      go_wp2_with fail
      refine (HS.out _).mono ?_
      rintro e w2 ⟨v1, u1, rfl, q1, r1, hb⟩
      have HB2 := below_then HB.out hb
      clear hb q1 r1 d0 d1 d2 p0 p1 p2 p3 p4 p5 p6 p7 p8
      go_wp2_with fail
      go_returns
      exact ⟨rfl, HB2⟩
  · have hE : scoreE d p s = oneE d s := if_neg h
    have hv : scoreV d p s = 0 := if_neg (by rw [hE]; exact h)
    have hy : (oneE d s != 0) = true := by simpa using h
    rw [hv, hE]
    generalize oneE d s = E at *
    clear hs hT hg h hv hE
    go_enter Tryd.func30, Tryd.ntmps30
    go_wp2_with fail
    refine (HC.out _ (by (repeat (first | (with_reducible exact Below.refl _ _) | (with_reducible assumption) | (with_reducible refine below_alloc ?_ _) | (with_reducible refine below_drewN ?_ _) | (with_reducible refine Below.drew ?_) | (with_reducible refine below_then ?_ (by with_reducible assumption)) | (with_reducible refine Below.setCell ?_ (by go_size) _)))) _ (by go_simp)).mono ?_
    rintro e w1 ⟨rfl, hb⟩
    have HB := Lib.hid (below_then (show Below w.heap.size w (((w.alloc (.cells #[.int .i64 d.x, .int .i64 d.y, .int .i64 d.z] 23)).alloc (.cells #[.int .i64 p.b.b.x, .int .i64 p.b.b.y, .int .i64 p.b.b.z, .int .i64 p.b.s.x, .int .i64 p.b.s.y, .int .i64 p.b.s.z, .bool p.t0, .bool p.t1, .bool p.t2] 28)).alloc (.cells #[.slice bs s.length cs] 31)) by (repeat (first | (with_reducible exact Below.refl _ _) | (with_reducible assumption) | (with_reducible refine below_alloc ?_ _) | (with_reducible refine below_drewN ?_ _) | (with_reducible refine Below.drew ?_) | (with_reducible refine below_then ?_ (by with_reducible assumption)) | (with_reducible refine Below.setCell ?_ (by go_size) _)))) hb)
    clear hb
    go_wp2_with fail
    go_returns
    exact ⟨rfl, HB.out⟩
end
end
end Go.Proofs.YthabpiphfaedaaaDoor
