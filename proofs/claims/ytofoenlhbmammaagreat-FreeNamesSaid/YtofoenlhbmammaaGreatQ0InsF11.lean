/- INSERT, CLONE of slots: Go's own text walked. -/
import Derived.Test.YtofoenlhbmammaaGreatQ5F11
import Derived.Test.YtofoenlhbmammaaGreatQ0CopyKF11
set_option linter.unusedVariables false
set_option linter.unusedSimpArgs false
namespace Go.Proofs.YtofoenlhbmammaaGreat

section
section
open Go.RowKit Go.Shelf

theorem slc_one (c : List Sl) : ∀ u ∈ slc c, u.oneCell' = true := by
  intro u hu
  unfold slc at hu
  obtain ⟨s, _, h⟩ := List.mem_flatMap.1 hu
  simp [Sl.cells] at h
  rcases h with rfl | rfl | rfl <;> rfl

set_option maxRecDepth 100000 in set_option maxHeartbeats 4000000 in
theorem slices_Clone (ba : Option Addr) (ca : Nat) (c : List Sl) (w : World) (hr : Rd w ba (slc c)) (hna : ba = none → c.length = 0) (hl : c.length ≤ 1000000) :
    Calls Tryz.prog 106 #[.slice ba c.length ca] w (RS w c) := by
  obtain ⟨i0, hi, iz0, iz1, iz2⟩ := info_parts infoSlot
  have q22 : ∀ (w : World) (a : Option Addr) (n c n' c' : Nat), (binOp .eql 65 (.slice a n c) (.slice none n' c')).run Tryz.prog w = .ok (.bool a.isNone) w := fun w a n c n' c' => Lib.run_eql_slice_nil w _ _ a n c n' c' Tryz.underlying65
  cases ba with
  | none =>
    obtain rfl : c = [] := List.eq_nil_of_length_eq_zero (hna rfl)
    clear hna hr hl
    go_enter Tryz.func106, Tryz.ntmps106
    go_wp2_with fail
    go_returns
    exact ⟨_, rfl, ⟨rfl, .inl ⟨rfl, rfl⟩⟩, by (repeat (first | (with_reducible exact Below.refl _ _) | (with_reducible assumption) | (with_reducible refine below_alloc ?_ _) | (with_reducible refine below_drewN ?_ _) | (with_reducible refine Below.drew ?_) | (with_reducible refine below_then ?_ (by with_reducible assumption)) | (with_reducible refine Below.setCell ?_ (by go_size) _)))⟩
  | some a =>
    have HR := Lib.hid hr
    clear hr hna
    go_enter Tryz.func106, Tryz.ntmps106
    go_wp2_with (at_builtin; refine wpList_append_own _ rfl _ _ 65 rfl w.heap.size 68 i0 (.agg #[.int .i64 0, .int .i64 0, .int .i64 0]) 3 24 Tryz.underlying65 hi iz0 iz1 iz2 rfl (by decide) _ _ _ rfl (World.ownsRow_made w #[] 0 (Nat.le_refl _) (Nat.zero_le _) (by simp)) a c.length ca (slc c) rfl (slc_len c) ?qc2 (slc_one c) ?qc4 ?qc5 ?qc6 ?_)
    case qc2 =>
      intro j u hj
      obtain ⟨b, off, e, h⟩ := HR.out j u hj
      cases e
      rw [Addr.add_lit]
      exact Lib.cell?_alloc_some _ h
    case qc4 => unfold maxLen; omega
    case qc5 => omega
    case qc6 => simp
    intro v' w1 hown hgrow hnil
    go_wp2_with fail
    go_returns
    exact ⟨_, rfl, by simpa using hown, ((Below.refl _ w).alloc (Nat.le_refl _) _).grown hgrow (by simp) (by intro k hk; simp [Value.ownBlock] at hk; omega)⟩
end

section
open Go.RowKit Go.Shelf

/-- A row of the call's own is handed back; below its place nothing has turned. -/
def RN (w : World) (B : Nat) (l : List Sl) : Ending → World → Prop := fun e w' => ∃ v, e = .returned v ∧ w'.ownsRow B 68 3 v l.length (slc l) ∧ Below B w w'
theorem slc1 (s : Sl) : slc [s] = [.int .i64 s.f, .int .i64 s.t, .int .i64 s.o] := rfl
theorem blk_cells {w : World} {vb : Nat} {ty : TypeId} {s : Sl} (h : Blk w vb ty #[.int .i64 s.f, .int .i64 s.t, .int .i64 s.o]) : ∀ j u, (slc [s])[j]? = some u → w.cell? ((⟨vb, 0, none⟩ : Addr).add j) = some u := by
  intro j u hu
  rw [Addr.add_lit, Nat.zero_add]
  exact h.cell j u (by rw [slc1] at hu; simpa using hu)

set_option maxRecDepth 100000 in set_option maxHeartbeats 4000000 in
theorem ins_end (B : Nat) (v : Value) (c : List Sl) (s : Sl) (vb : Nat) (ty : TypeId) (w : World) (hB : B ≤ w.heap.size) (ho : w.ownsRow B 68 3 v c.length (slc c)) (hl : c.length ≤ 5000) (hs : Blk w vb ty #[.int .i64 s.f, .int .i64 s.t, .int .i64 s.o]) :
    Calls Tryz.prog 105 #[v, .int .i64 c.length, .slice (some ⟨vb, 0, none⟩) 1 1] w (RN w B (c ++ [s])) := by
  obtain ⟨i0, hi, iz0, iz1, iz2⟩ := info_parts infoSlot
  have HO := Lib.hid ho
  have HS := Lib.hid (blk_cells hs)
  have HLen := Lib.hid (show (c ++ [s]).length = c.length + 1 by simp)
  have HSl := Lib.hid (slc_app c [s])
  unfold RN
  rw [HLen.out, HSl.out]
  rcases ho.2 with ⟨rfl, hz⟩ | ⟨g, cap, cur, rfl, hBg, hg, hnc, hcm, hcs, htk⟩
  · have hl0 : c = [] := List.eq_nil_of_length_eq_zero hz
    subst hl0
    clear ho hs hz
    go_enter Tryz.func105, Tryz.ntmps105
    go_wp2_with (at_builtin; refine wpList_append_own _ rfl _ _ 65 rfl B 68 i0 (.agg #[.int .i64 0, .int .i64 0, .int .i64 0]) 3 24 Tryz.underlying65 hi iz0 iz1 iz2 rfl (by decide) _ _ _ rfl HO.out ⟨vb, 0, none⟩ 1 1 (slc [s]) rfl rfl HS.out (slc_one [s]) ?q1 ?q2 ?q3 ?_)
    case q1 => unfold maxLen; decide
    case q2 => decide
    case q3 => exact hB
    intro v' w1 hown hgrow _
    have hB1 := own_below HO.out hgrow hB
    have HO1 := Lib.hid hown
    clear hown hgrow
    go_wp2_with fail
    go_returns
    exact ⟨_, rfl, HO1.out, hB1⟩
  · have hn : c.length ≤ cap := hnc
    have hcm2 : cap ≤ 9223372036854775807 := by unfold maxLen at hcm; omega
    clear ho hs hg hcs htk hnc hcm
    generalize hN : c.length = n at *
    go_enter Tryz.func105, Tryz.ntmps105
    go_wp2_with (at_builtin; refine wpList_append_own _ rfl _ _ 65 rfl B 68 i0 (.agg #[.int .i64 0, .int .i64 0, .int .i64 0]) 3 24 Tryz.underlying65 hi iz0 iz1 iz2 rfl (by decide) _ _ _ rfl HO.out ⟨vb, 0, none⟩ 1 1 (slc [s]) rfl rfl HS.out (slc_one [s]) ?q1 ?q2 ?q3 ?_)
    all_goals try (first | omega | (unfold maxLen; omega))
    all_goals
      intro v' w1 hown hgrow _
      have hB1 := own_below HO.out hgrow hB
      have HO1 := Lib.hid hown
      clear hown hgrow
      go_wp2_with fail
      go_returns
      exact ⟨_, rfl, HO1.out, hB1⟩
end

section
open Go.RowKit Go.Shelf

theorem splice_at {α : Type} (A Z cs : List α) : splice (A ++ Z) A.length cs = A ++ (cs ++ Z.drop cs.length) := by
  unfold splice
  rw [List.take_left, List.drop_append, List.drop_eq_nil_of_le (by omega), List.nil_append, Nat.add_sub_cancel_left]
/-- A row made anew: what stood ahead, the new cells, what stood behind. -/
theorem row_grow {α : Type} (A Z X Y : List α) (p q : Nat) (hp : p = A.length) (hq : q = A.length + X.length) (n : Nat) (hn : n = A.length + X.length + Y.length) : (splice (splice (A ++ Z) p X) q Y).take n = A ++ (X ++ Y) := by
  subst hp
  rw [splice_at, ← List.append_assoc A X]
  have e := splice_at (A ++ X) (Z.drop X.length) Y
  rw [List.length_append, ← hq] at e
  rw [e, List.append_assoc, ← List.append_assoc X Y, ← List.append_assoc A, List.take_left' (by simp only [List.length_append]; omega)]
/-- In place: what stood behind goes up, the new cells into the room. -/
theorem row_shift {α : Type} (A Y T X : List α) (p q : Nat) (hp : p = A.length) (hq : q = A.length + X.length) (hx : X.length ≤ T.length) (n : Nat) (hn : n = A.length + X.length + Y.length) : (splice (splice (A ++ (Y ++ T)) q Y) p X).take n = A ++ (X ++ Y) := by
  subst hp
  have e : splice (A ++ (Y ++ T)) q Y = A ++ ((Y ++ T).take X.length ++ (Y ++ (Y ++ T).drop (X.length + Y.length))) := by
    have h := splice_at (A ++ (Y ++ T).take X.length) ((Y ++ T).drop X.length) Y
    rw [List.append_assoc A, List.take_append_drop, List.length_append, List.length_take, Nat.min_eq_left (by simp only [List.length_append]; omega), ← hq, List.drop_drop] at h
    rw [h, List.append_assoc]
  rw [e, splice_at, List.drop_left' (by rw [List.length_take]; simp only [List.length_append]; omega), ← List.append_assoc X Y, ← List.append_assoc A (X ++ Y), List.take_left' (by simp only [List.length_append]; omega)]
theorem cap_slc (c : List Sl) (i : Nat) (h : i ≤ c.length) : (slc (c.take i)).length = i * 3 ∧ (slc (c.drop i)).length = (c.length - i) * 3 ∧ slc c = slc (c.take i) ++ slc (c.drop i) := by
  refine ⟨by rw [slc_len, List.length_take, Nat.min_eq_left h], by rw [slc_len, List.length_drop], ?_⟩
  rw [← slc_app, List.take_append_drop]

theorem toArr {α : Type} (A : List α) (Z : Array α) : A.toArray ++ Z = (A ++ Z.toList).toArray := Array.ext' (by simp)

set_option maxRecDepth 100000 in set_option maxHeartbeats 4000000 in
theorem ins_grow (B g : Nat) (c : List Sl) (i : Nat) (s : Sl) (vb : Nat) (ty : TypeId) (cur : Array Value) (w : World) (hB : B ≤ w.heap.size) (hg : w.heap[g]? = some (.cells cur 68 (0, 0)))
    (hcs : cur.size = c.length * 3) (htk : cur.toList.take (c.length * 3) = slc c) (hi : i < c.length) (hl : c.length ≤ 5000) (hs : Blk w vb ty #[.int .i64 s.f, .int .i64 s.t, .int .i64 s.o]) :
    Calls Tryz.prog 105 #[.slice (some ⟨g, 0, none⟩) c.length c.length, .int .i64 i, .slice (some ⟨vb, 0, none⟩) 1 1] w (RN w B (c.take i ++ s :: c.drop i)) := by
  obtain ⟨i0, hi0, iz0, iz1, iz2⟩ := info_parts infoSlot
  have hsz : (Tryz.prog.info? 68).map (·.size) = some 3 := by rw [hi0]; simp [iz1]
  obtain ⟨hL1, hL2, hL3⟩ := cap_slc c i (by omega)
  have hvl : vb < w.heap.size := hs.lt
  have hgl : g < w.heap.size := (Array.getElem?_eq_some_iff.1 hg).1
  have hold : cur.toList = slc c := by rw [← htk, List.take_of_length_le (by simp [hcs])]
  have hgc : ∀ j u, (slc c)[j]? = some u → w.cell? ⟨g, j, none⟩ = some u := fun j u h => by
    rw [cell_of_row w g j cur _ _ hg, ← Array.getElem?_toList, hold]; exact h
  have hfc : (Builtin.firstCells i0.size i (.slice (some ⟨g, 0, none⟩) i c.length)).run Tryz.prog w.drew = .ok (slc (c.take i)).toArray w.drew := by
    rw [iz1]
    exact run_firstCells_some w.drew 3 i ⟨g, 0, none⟩ i c.length (slc (c.take i)) hL1 (fun j v hj => by
      rw [Addr.add_lit, Nat.zero_add]
      refine hgc j v ?_
      rw [hL3, List.getElem?_append_left (List.getElem?_eq_some_iff.1 hj).1]
      exact hj)
  obtain ⟨G, hG⟩ : ∃ G, G = grownCap w (c.length + 1) c.length 68 := ⟨_, rfl⟩
  obtain ⟨ZS, hZS⟩ : ∃ ZS : List Value, ZS = (Builtin.zeroCells (Value.agg #[.int .i64 0, .int .i64 0, .int .i64 0]).cells (c.length + 1 - i) ++ Builtin.zeroCells (Value.agg #[.int .i64 0, .int .i64 0, .int .i64 0]).cells (G - (c.length + 1))).toList := ⟨_, rfl⟩
  have hGn : c.length + 1 ≤ G := by rw [hG]; exact grownCap_ge w _ _ _
  have hGm : G ≤ maxLen := by rw [hG]; exact grownCap_le_maxLen w (c.length + 1) c.length _ (by unfold maxLen; omega)
  have hZl : ZS.length = (G - i) * 3 := by
    rw [hZS]; simp [size_zeroCells, Value.cells]; omega
  have hrz : ∀ ty, (Builtin.append_ #[65, 3] ty #[.slice (some ⟨g, 0, none⟩) i c.length, .int .i64 ((c.length : Int) + 1 - (i : Int))]).run Tryz.prog w =
      .ok (.slice (some ⟨w.heap.size, 0, none⟩) (c.length + 1) G) (w.drew.alloc (.cells (slc (c.take i) ++ ZS).toArray 68)) := fun ty => by
    have h := Lib.run_append_grow_zeros (P := Tryz.prog) w 65 3 ty 68 i0 _ .i64 .i64 Tryz.underlying65 Tryz.underlying3 hi0 iz0 (some ⟨g, 0, none⟩) i c.length (slc (c.take i)) hfc (c.length + 1 - i) (by omega) (by rw [iz1]; decide) (by omega) (by omega) (by rw [iz2]; omega) (by rw [iz2, show i + (c.length + 1 - i) = c.length + 1 by omega]; exact growslice_fits (by omega) (by omega))
    rw [show i + (c.length + 1 - i) = c.length + 1 by omega, ← hG] at h
    rw [show (c.length : Int) + 1 - (i : Int) = ((c.length + 1 - i : Nat) : Int) by omega, h, hZS, Array.append_assoc, toArr]
  have HRZ := Lib.hid hrz
  have HS := Lib.hid (blk_cells hs)
  have HGC := Lib.hid hgc
  obtain ⟨W1, hW1⟩ : ∃ W1, W1 = w.drew.alloc (.cells (slc (c.take i) ++ ZS).toArray 68) := ⟨_, rfl⟩
  have hB1 : Below w.heap.size w W1 := by rw [hW1]; exact ((Below.refl _ w).drew).alloc (Nat.le_refl _) _
  have HW1 := Lib.hid (show W1.heap[w.heap.size]? = some (.cells (slc (c.take i) ++ ZS).toArray 68 (0, 0)) by rw [hW1]; exact heap_alloc_new w.drew _)
  rw [← hW1] at HRZ
  have HB1 := Lib.hid hB1
  have HLs := Lib.hid (show (c.take i ++ s :: c.drop i).length = c.length + 1 by simp; omega)
  have HSl := Lib.hid (show slc (c.take i ++ s :: c.drop i) = slc (c.take i) ++ (slc [s] ++ slc (c.drop i)) by rw [slc_app, show s :: c.drop i = [s] ++ c.drop i from rfl, slc_app])
  have HGm := Lib.hid hGm
  have hGm2 : G ≤ 9223372036854775807 := by unfold maxLen at hGm; omega
  have h1c := Lib.hid (slc_one (c.drop i))
  have HL3 := Lib.hid hL3
  unfold RN
  rw [HLs.out, HSl.out]
  clear hg hcs htk hold hgc hfc hG hZS hrz hs hW1 hB1 hGm hL3
  generalize slc (c.take i) = A at *
  generalize slc (c.drop i) = Y at *
  generalize slc c = SC at *
  generalize c.length = n at *
  have hx1 : ¬ ((i : Int) = (n : Int)) := by omega
  have hx2 : (n : Int) < (n : Int) + 1 := by omega
  have hin : i ≤ n := by omega
  have hGi : ¬ (G = i) := by omega
  have hGi1 : ¬ (G = i + 1) := by omega
  have hni : ¬ (n = i) := by omega
  have mixed : Tryz.prog.follows .mixedOrders = true := by kernel_rfl
  have hw1 : IntKind.i64.wrap ((i : Int) + 1) = (i : Int) + 1 := by rw [IntKind.wrap_i64]; omega
  have hp1 : (0 : Int) ≤ (i : Int) + 1 := by omega
  have htn : ((i : Int) + 1).toNat = i + 1 := by omega
  have hp3 : (i : Int) ≤ (n : Int) := by omega
  go_enter Tryz.func105, Tryz.ntmps105
  go_wp2_with (first
    | (at_builtin; refine Lib.wpList_append_run _ rfl _ _ _ _ rfl _ _ rfl rfl _ _ (HRZ.out _) ?_)
    | (refine wpList_copyK rfl _ _ 65 65 rfl 68 3 Tryz.underlying65 hsz _ _ _ _ ⟨vb, 0, none⟩ 1 1 rfl rfl _ _ HW1.out (slc [s]) ?c1 ?c2 ?c3 (slc_one [s]) ?_))
  case c1 => rw [slc_len]; simp only [List.length_cons, List.length_nil, Nat.min_def]; split <;> omega
  case c2 =>
    intro j u hu
    rw [HB1.out.cell (p := (⟨vb, 0, none⟩ : Addr).add j) (by rw [Addr.add_lit]; exact hvl)]
    exact HS.out j u hu
  case c3 => rw [slc_len]; simp only [List.length_append, List.length_cons, List.length_nil]; omega
  intro w2 hcp
  have HC2 := Lib.hid (show w2.heap[w.heap.size]? = _ from hcp.out.row)
  have hgn : (⟨g, 0, none⟩ : Addr).block ≠ w.heap.size := by simp only []; omega
  have HK2 := Lib.hid (fun j u (hu : SC[j]? = some u) => (((Cpd.cell hcp.out (a := ⟨g, j, none⟩) hgn).trans (HB1.out.cell (p := ⟨g, j, none⟩) hgl)).trans (HGC.out j u hu) : w2.cell? ⟨g, j, none⟩ = some u))
  have HB2 := Lib.hid (hcp.out.below HB1.out (Nat.le_refl _))
  clear hcp
  have d1 := Lib.hid (show Y.length = Nat.min (n - i) (n - i) * 3 by rw [hL2]; simp)
  have d2 := Lib.hid (fun j u (hu : Y[j]? = some u) => show w2.drew.cell? ((⟨g, i * 3, none⟩ : Addr).add j) = some u by
    rw [Addr.add_lit]
    refine HK2.out _ u ?_
    rw [HL3.out, List.getElem?_append_right (by omega), show i * 3 + j - A.length = j by omega]
    exact hu)
  have d3 := Lib.hid (show (i + 1) * 3 + Y.length ≤ (splice (A ++ ZS) (i * 3) (slc [s])).length by
    have e : (splice (A ++ ZS) (i * 3) (slc [s])).length = (A ++ ZS).length := length_splice _ _ _ (by rw [slc_len]; simp only [List.length_append, List.length_cons, List.length_nil]; omega)
    rw [e, hL2, List.length_append, hL1, hZl]; omega)
  go_wp2_with fail
  go_region_law_o (refine step_copyK rfl _ _ 65 65 rfl 68 3 Tryz.underlying65 hsz w.heap.size ((i + 1) * 3) (n - i) (G - (i + 1)) ⟨g, i * 3, none⟩ (n - i) (n - i) (by simp [Act.eval, Act.put]) (by simp [Act.eval, Act.put]) _ _ (show w2.drew.heap[w.heap.size]? = _ from HC2.out) Y d1.out d2.out d3.out h1c.out ?_; intro w3 hcp)
  have HB3 := Lib.hid (hcp.out.below (show Below w.heap.size w w2.drew from HB2.out.drew) (Nat.le_refl _))
  have HC3 := Lib.hid (show w3.heap[w.heap.size]? = _ from hcp.out.row)
  clear hcp
  go_wp2_with fail
  go_returns
  refine ⟨_, rfl, ⟨?_, .inr ⟨w.heap.size, G, _, rfl, hB, HC3.out, hGn, HGm.out, ?_, ?_⟩⟩, HB3.out.mono hB⟩
  · simp only [List.length_append, slc_len, List.length_cons, List.length_nil]; omega
  · rw [List.size_toArray, length_splice _ _ _ d3.out, length_splice _ _ _ (by rw [slc_len]; simp only [List.length_append, List.length_cons, List.length_nil]; omega), List.length_append, hL1, hZl]; omega
  · have e3 : (slc [s]).length = 3 := rfl
    exact row_grow A ZS (slc [s]) Y _ _ (by omega) (by omega) _ (by omega)

set_option maxRecDepth 100000 in set_option maxHeartbeats 4000000 in
theorem ins_shift (B g cap : Nat) (c : List Sl) (i : Nat) (s : Sl) (vb : Nat) (ty : TypeId) (cur : Array Value) (w : World) (hBg : B ≤ g) (hg : w.heap[g]? = some (.cells cur 68 (0, 0)))
    (hcs : cur.size = cap * 3) (hcap : c.length < cap) (hcm : cap ≤ maxLen) (htk : cur.toList.take (c.length * 3) = slc c) (hi : i < c.length) (hl : c.length ≤ 5000) (hs : Blk w vb ty #[.int .i64 s.f, .int .i64 s.t, .int .i64 s.o]) (hne : vb ≠ g) :
    Calls Tryz.prog 105 #[.slice (some ⟨g, 0, none⟩) c.length cap, .int .i64 i, .slice (some ⟨vb, 0, none⟩) 1 1] w (RN w B (c.take i ++ s :: c.drop i)) := by
  obtain ⟨i0, hi0, iz0, iz1, iz2⟩ := info_parts infoSlot
  have hsz : (Tryz.prog.info? 68).map (·.size) = some 3 := by rw [hi0]; simp [iz1]
  obtain ⟨hL1, hL2, hL3⟩ := cap_slc c i (by omega)
  obtain ⟨T, hT⟩ : ∃ T, T = cur.toList.drop (c.length * 3) := ⟨_, rfl⟩
  have hTl : T.length = (cap - c.length) * 3 := by rw [hT, List.length_drop, Array.length_toList, hcs]; omega
  have hcur : cur = (slc (c.take i) ++ (slc (c.drop i) ++ T)).toArray := by
    apply Array.ext'
    rw [← List.append_assoc, ← hL3, ← htk, hT, List.take_append_drop]
  have hov : ∀ la ca lb cb off, (callFunc 122 #[.slice (some ⟨vb, 0, none⟩) la ca, .slice (some ⟨g, off, none⟩) lb cb]).run Tryz.prog w = .ok (.value (.bool false)) w := fun la ca lb cb off => by
    rw [run_callFunc_extern Tryz.func122 (by kernel_rfl) (by kernel_rfl) (by kernel_rfl) (e := Extern.SlicesOverlaps.overlaps #[65, 65] #[4]) (by kernel_rfl),
      Lib.run_overlaps_apart w 65 4 68 Tryz.underlying65 3 Tryz.sizeOf68 ⟨vb, 0, none⟩ ⟨g, off, none⟩ la ca lb cb hne ty 68 3 (cap * 3) (by unfold World.shape?; rw [show w.heap[vb]? = _ from hs]; rfl) (by unfold World.shape?; rw [hg]; show some (_, cur.size) = _; rw [hcs]) (by omega) (hs.frozen 0) (hs.frozen 3)]
    rfl
  have HS := Lib.hid (blk_cells hs)
  have HLs := Lib.hid (show (c.take i ++ s :: c.drop i).length = c.length + 1 by simp; omega)
  have HSl := Lib.hid (show slc (c.take i ++ s :: c.drop i) = slc (c.take i) ++ (slc [s] ++ slc (c.drop i)) by rw [slc_app, show s :: c.drop i = [s] ++ c.drop i from rfl, slc_app])
  have h1c := Lib.hid (slc_one (c.drop i))
  have hcm2 : cap ≤ 9223372036854775807 := by unfold maxLen at hcm; omega
  have HCM := Lib.hid hcm
  unfold RN
  rw [HLs.out, HSl.out]
  rw [hcur] at hg
  have HG := Lib.hid hg
  have HOV := Lib.hid hov
  clear hg hcur hT htk hcs hs hL3 hcm hov
  generalize slc (c.take i) = A at *
  generalize slc (c.drop i) = Y at *
  generalize c.length = n at *
  have hx1 : ¬ ((i : Int) = (n : Int)) := by omega
  have hx2 : ¬ ((cap : Int) < (n : Int) + 1) := by omega
  have hx3 : (n : Int) + 1 ≤ (cap : Int) := by omega
  have hin : i ≤ n := by omega
  have hc1 : ¬ (cap = i + 1) := by omega
  have hc2 : ¬ (cap = i) := by omega
  have mixed : Tryz.prog.follows .mixedOrders = true := by kernel_rfl
  have hw1 : IntKind.i64.wrap ((i : Int) + 1) = (i : Int) + 1 := by rw [IntKind.wrap_i64]; omega
  have hp1 : (0 : Int) ≤ (i : Int) + 1 := by omega
  have htn : ((i : Int) + 1).toNat = i + 1 := by omega
  have hp3 : (i : Int) ≤ (n : Int) + 1 := by omega
  have e3 : (slc [s]).length = 3 := rfl
  have d1 := Lib.hid (show Y.length = Nat.min (n + 1 - i) (n - i) * 3 by rw [hL2, show Nat.min (n + 1 - i) (n - i) = n - i from Nat.min_eq_right (by omega)])
  have d2 := Lib.hid (fun j u (hu : Y[j]? = some u) => show w.drew.cell? ((⟨g, i * 3, none⟩ : Addr).add j) = some u by
    rw [Addr.add_lit, World.cell?_drew, cell_of_row w g _ _ _ _ HG.out, List.getElem?_toArray, List.getElem?_append_right (by omega), show i * 3 + j - A.length = j by omega, List.getElem?_append_left (List.getElem?_eq_some_iff.1 hu).1]
    exact hu)
  have d3 := Lib.hid (show (i + 1) * 3 + Y.length ≤ (A ++ (Y ++ T)).length by
    rw [hL2, List.length_append, List.length_append, hL1, hTl, hL2]; omega)
  go_enter Tryz.func105, Tryz.ntmps105
  go_wp2_with (simp only [HOV.out])
  go_region_law_o (refine step_copyK rfl _ _ 65 65 rfl 68 3 Tryz.underlying65 hsz g ((i + 1) * 3) (n - i) (cap - (i + 1)) ⟨g, i * 3, none⟩ (n + 1 - i) (cap - i) (by simp [Act.eval, Act.put]) (by simp [Act.eval, Act.put]) _ _ (show w.drew.heap[g]? = _ from HG.out) Y d1.out d2.out d3.out h1c.out ?_; intro w3 hcp)
  have HC3 := Lib.hid (show w3.heap[g]? = _ from hcp.out.row)
  have HS3 := Lib.hid (fun j u (hu : (slc [s])[j]? = some u) => (show w3.cell? ((⟨vb, 0, none⟩ : Addr).add j) = some u by
    rw [Addr.add_lit]
    have e := Cpd.cell hcp.out (a := ⟨vb, 0 + j, none⟩) hne
    rw [e, World.cell?_drew]
    have := HS.out j u hu
    rwa [Addr.add_lit] at this))
  have HB3 := Lib.hid (hcp.out.below (show Below B w w.drew from (Below.refl B w).drew) hBg)
  clear hcp
  have q1 := Lib.hid (show (slc [s]).length = Nat.min 1 (n + 1 - i) * 3 by rw [e3, show Nat.min 1 (n + 1 - i) = 1 from Nat.min_eq_left (by omega)])
  have q3 := Lib.hid (show i * 3 + (slc [s]).length ≤ (splice (A ++ (Y ++ T)) ((i + 1) * 3) Y).length by rw [length_splice _ _ _ d3.out, e3, List.length_append, List.length_append, hL1, hTl, hL2]; omega)
  go_wp2_with (refine wpList_copyK rfl _ _ 65 65 rfl 68 3 Tryz.underlying65 hsz _ _ _ _ ⟨vb, 0, none⟩ 1 1 rfl rfl _ _ HC3.out (slc [s]) q1.out HS3.out q3.out (slc_one [s]) ?_)
  intro w4 hcp
  have HB4 := Lib.hid (hcp.out.below HB3.out hBg)
  have HC4 := Lib.hid (show w4.heap[g]? = _ from hcp.out.row)
  clear hcp
  go_wp2_with fail
  go_returns
  refine ⟨_, rfl, ⟨?_, .inr ⟨g, cap, _, rfl, hBg, HC4.out, by omega, HCM.out, ?_, ?_⟩⟩, HB4.out⟩
  · simp only [List.length_append, slc_len, List.length_cons, List.length_nil]; omega
  · rw [List.size_toArray, length_splice _ _ _ q3.out, length_splice _ _ _ d3.out, List.length_append, List.length_append, hL1, hTl, hL2]; omega
  · exact row_shift A Y T (slc [s]) _ _ (by omega) (by omega) (by rw [hTl]; omega) _ (by omega)

/-- A slot is laid into a row of the call's own. -/
theorem slices_Insert (B : Nat) (v : Value) (c : List Sl) (i : Nat) (s : Sl) (vb : Nat) (ty : TypeId) (w : World) (hB : B ≤ w.heap.size) (ho : w.ownsRow B 68 3 v c.length (slc c)) (hi : i ≤ c.length) (hl : c.length ≤ 5000) (hs : Blk w vb ty #[.int .i64 s.f, .int .i64 s.t, .int .i64 s.o]) (hne : v.ownBlock ≠ some vb) :
    Calls Tryz.prog 105 #[v, .int .i64 i, .slice (some ⟨vb, 0, none⟩) 1 1] w (RN w B (c.take i ++ s :: c.drop i)) := by
  by_cases he : i = c.length
  · subst he
    rw [List.take_length, List.drop_length]
    exact ins_end B v c s vb ty w hB ho hl hs
  · rcases ho.2 with ⟨rfl, hz⟩ | ⟨g, cap, cur, rfl, hBg, hg, hnc, hcm, hcs, htk⟩
    · omega
    · by_cases hc : c.length = cap
      · subst hc
        exact ins_grow B g c i s vb ty cur w hB hg hcs htk (by omega) hl hs
      · exact ins_shift B g cap c i s vb ty cur w hBg hg hcs (by omega) hcm htk (by omega) hl hs (fun e => hne (by rw [e]; rfl))
end
end
end Go.Proofs.YtofoenlhbmammaaGreat
