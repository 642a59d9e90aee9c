/- GROW: the boxes that are free of a set, or the error: the code's. -/
import Derived.Test.YtofoenlhbmammaaQ0GrowFG13
set_option linter.unusedVariables false
set_option linter.unusedSimpArgs false
namespace Go.Proofs.Ytofoenlhbmammaa

section
open Go.RowKit Go.Shelf
attribute [local go_sem] Oper.semAt_some

def frE (d : V3) (ms : List Nat) : Int := if growE d ms = 0 then (if d.n ≤ 64 then 0 else 4) else 8
def frV (d : V3) (ms : List Nat) : List Bx := if frE d ms = 0 then freeL d ms else []
theorem frE_0 {d : V3} {ms : List Nat} (h : frE d ms = 0) : d.may ∧ sChk d.n ms = 0 ∧ d.n ≤ 64 := by
  unfold frE at h
  by_cases h1 : growE d ms = 0
  · rw [if_pos h1] at h
    by_cases h2 : d.n ≤ 64
    · exact ⟨(growE_0 h1).1, (growE_0 h1).2, h2⟩
    · rw [if_neg h2] at h; omega
  · rw [if_neg h1] at h; omega
theorem frE_of {d : V3} {ms : List Nat} (h1 : d.may) (h2 : sChk d.n ms = 0) (h3 : d.n ≤ 64) : frE d ms = 0 := by
  unfold frE; rw [if_pos (growE_of h1 h2), if_pos h3]
theorem freeTo_snoc (p : Bx → Bool) (pre : List Bx) (x : Bx) : (pre ++ [x]).filter p = pre.filter p ++ (if p x then [x] else []) := by
  rw [List.filter_append]
  congr 1
  cases h : p x <;> simp [h]
theorem freeTo_all {d : V3} (hd : d.may) (ms : List Nat) : (allBx d).filter (freeB d ms) = freeL d ms := by
  unfold freeL
  exact List.filter_congr (fun b hb => freeB_ok hd ((mem_allBx hd).1 hb).1)
set_option maxRecDepth 100000 in set_option maxHeartbeats 4000000 in
theorem grow_Free_no (d : V3) (bs : Option Addr) (cs : Nat) (ms : List Nat) (w : World) (h : ¬ frE d ms = 0) (hs : SetIn w bs ms) : Calls Try.prog 10 #[.agg #[.int .i64 d.x, .int .i64 d.y, .int .i64 d.z], .slice bs ms.length cs] w (RXE w [] (frE d ms)) := by
  have HC := Lib.hid (fun W (hw : Below w.heap.size w W) => grow_checked d bs cs ms W (hs.keep hw))
  have hE : frE d ms = if growE d ms = 0 then (if d.n ≤ 64 then 0 else 4) else 8 := rfl
  clear hs
  by_cases hz : growE d ms = 0
  · have hN : growN d ms = d.n := if_pos hz
    rw [hz, hN] at HC
    rw [if_pos hz] at hE
    by_cases hl : d.n ≤ 64
    · rw [if_pos hl] at hE; exact absurd hE h
    · rw [if_neg hl] at hE
      rw [hE]
      have hq : decide (64 < d.n) = true := decide_eq_true (by omega)
      generalize d.n = n at *
      clear hz hN hE h
      go_enter Try.func10, Try.ntmps10
      go_wp2_with fail
      refine (HC.out _ (by (repeat (first | (with_reducible exact Below.refl _ _) | (with_reducible assumption) | (with_reducible refine below_alloc ?_ _) | (with_reducible refine below_drewN ?_ _) | (with_reducible refine Below.drew ?_) | (with_reducible refine below_then ?_ (by with_reducible assumption)) | (with_reducible refine Below.setCell ?_ (by go_size) _))))).mono ?_
      rintro e w1 ⟨rfl, hb1⟩
      have BO := (Blk.new ((w.alloc (.cells #[.int .i64 d.x, .int .i64 d.y, .int .i64 d.z] 23)).alloc (.cells #[.slice bs ms.length cs] 25)) 30 #[.slice none 0 0]).below hb1
      simp only [World.size_alloc] at BO
      have HB := below_then (show Below w.heap.size w (((w.alloc (.cells #[.int .i64 d.x, .int .i64 d.y, .int .i64 d.z] 23)).alloc (.cells #[.slice bs ms.length cs] 25)).alloc (.cells #[.slice none 0 0] 30)) by (repeat (first | (with_reducible exact Below.refl _ _) | (with_reducible assumption) | (with_reducible refine below_alloc ?_ _) | (with_reducible refine below_drewN ?_ _) | (with_reducible refine Below.drew ?_) | (with_reducible refine below_then ?_ (by with_reducible assumption)) | (with_reducible refine Below.setCell ?_ (by go_size) _)))) hb1
      have o0 := BO.cell 0 _ rfl
      have of := BO.frozen 0
      have ol := BO.lt
      have BO2 := Lib.hid ((BO.set 0 (.slice none 0 0)).alloc (.cells #[.int .i64 n] 3))
      have HB2 := Lib.hid (below_alloc (HB.setCell (p := ⟨(w.heap.size + 1 + 1), 0, none⟩) (show w.heap.size ≤ w.heap.size + 1 + 1 by omega) (.slice none 0 0)) (.cells #[.int .i64 n] 3))
      clear hb1 BO HB
      go_wp2_with fail
      have r0 := BO2.out.cell 0 (.slice none 0 0) rfl
      refine bodyPost_ret (by simp [results, Try.results10, go_sem, r0]; try rfl) rfl ?_
      exact ⟨_, rfl, World.ownsRow_nil _ w.heap.size _ _, HB2.out⟩
  · have hN : growN d ms = 0 := if_neg hz
    have h8 : growE d ms = 8 := (growE_08 d ms).resolve_left hz
    rw [h8, hN] at HC
    rw [if_neg hz] at hE
    rw [hE]
    clear hz hN hE h h8
    go_enter Try.func10, Try.ntmps10
    go_wp2_with fail
    refine (HC.out _ (by (repeat (first | (with_reducible exact Below.refl _ _) | (with_reducible assumption) | (with_reducible refine below_alloc ?_ _) | (with_reducible refine below_drewN ?_ _) | (with_reducible refine Below.drew ?_) | (with_reducible refine below_then ?_ (by with_reducible assumption)) | (with_reducible refine Below.setCell ?_ (by go_size) _))))).mono ?_
    rintro e w1 ⟨rfl, hb1⟩
    have BO := (Blk.new ((w.alloc (.cells #[.int .i64 d.x, .int .i64 d.y, .int .i64 d.z] 23)).alloc (.cells #[.slice bs ms.length cs] 25)) 30 #[.slice none 0 0]).below hb1
    simp only [World.size_alloc] at BO
    have HB := below_then (show Below w.heap.size w (((w.alloc (.cells #[.int .i64 d.x, .int .i64 d.y, .int .i64 d.z] 23)).alloc (.cells #[.slice bs ms.length cs] 25)).alloc (.cells #[.slice none 0 0] 30)) by (repeat (first | (with_reducible exact Below.refl _ _) | (with_reducible assumption) | (with_reducible refine below_alloc ?_ _) | (with_reducible refine below_drewN ?_ _) | (with_reducible refine Below.drew ?_) | (with_reducible refine below_then ?_ (by with_reducible assumption)) | (with_reducible refine Below.setCell ?_ (by go_size) _)))) hb1
    have o0 := BO.cell 0 _ rfl
    have of := BO.frozen 0
    have ol := BO.lt
    have BO2 := Lib.hid ((BO.set 0 (.slice none 0 0)).alloc (.cells #[.int .i64 0] 3))
    have HB2 := Lib.hid (below_alloc (HB.setCell (p := ⟨(w.heap.size + 1 + 1), 0, none⟩) (show w.heap.size ≤ w.heap.size + 1 + 1 by omega) (.slice none 0 0)) (.cells #[.int .i64 0] 3))
    clear hb1 BO HB
    go_wp2_with fail
    have r0 := BO2.out.cell 0 (.slice none 0 0) rfl
    refine bodyPost_ret (by simp [results, Try.results10, go_sem, r0]; try rfl) rfl ?_
    exact ⟨_, rfl, World.ownsRow_nil _ w.heap.size _ _, HB2.out⟩
set_option maxRecDepth 100000 in set_option maxHeartbeats 4000000 in
theorem grow_Free_ok (d : V3) (bs : Option Addr) (cs : Nat) (ms : List Nat) (w : World) (hd : d.may) (hc : sChk d.n ms = 0) (hl : d.n ≤ 64) (hs : SetIn w bs ms) : Calls Try.prog 10 #[.agg #[.int .i64 d.x, .int .i64 d.y, .int .i64 d.z], .slice bs ms.length cs] w (RXE w (freeL d ms) 0) := by
  have HC := Lib.hid (fun W (hw : Below w.heap.size w W) => by have h := grow_checked d bs cs ms W (hs.keep hw); rw [show growN d ms = d.n from if_pos (growE_of hd hc), growE_of hd hc] at h; exact h)
  have HF := Lib.hid (fun (b : Bx) W (hw : Below w.heap.size w W) => grow_free d b bs cs ms W (hs.keep hw) hc)
  have HA := Lib.hid (freeTo_all hd ms)
  obtain ⟨i0, hi, iz0, iz1, iz2⟩ := info_parts infoBox
  have hlen := boxes_len hl
  have hq : decide (64 < d.n) = false := decide_eq_false (by omega)
  have HD := Lib.hid hd
  clear hs hc
  refine (callsIn_wide (n := 12)).1 ?_
  refine callsIn_of_wp_marks Try.func10 rfl trivial ?_ rfl
  simp only [Try.ntmps10, List.size_toArray, List.length_cons, List.length_nil, Nat.reduceAdd, Nat.reduceSub, Array.replicate_succ, Array.replicate_zero, List.push_toArray, List.append_toArray, List.nil_append, List.cons_append]
  gi_wp2
  refine ⟨trivial, ?_⟩
  refine (callsIn_wide.2 (HC.out _ (by (repeat (first | (with_reducible exact Below.refl _ _) | (with_reducible assumption) | (with_reducible refine below_alloc ?_ _) | (with_reducible refine below_drewN ?_ _) | (with_reducible refine Below.drew ?_) | (with_reducible refine below_then ?_ (by with_reducible assumption)) | (with_reducible refine Below.setCell ?_ (by go_size) _)))))).mono ?_
  rintro e w1 ⟨rfl, hb1⟩
  have BD := ((((Blk.new w 23 #[.int .i64 d.x, .int .i64 d.y, .int .i64 d.z]).alloc (.cells #[.slice bs ms.length cs] 25)).alloc (.cells #[.slice none 0 0] 30)).below hb1)
  have BS := ((Blk.new (w.alloc (.cells #[.int .i64 d.x, .int .i64 d.y, .int .i64 d.z] 23)) 25 #[.slice bs ms.length cs]).alloc (.cells #[.slice none 0 0] 30)).below hb1
  have BO := (Blk.new ((w.alloc (.cells #[.int .i64 d.x, .int .i64 d.y, .int .i64 d.z] 23)).alloc (.cells #[.slice bs ms.length cs] 25)) 30 #[.slice none 0 0]).below hb1
  simp only [World.size_alloc] at BS BO
  have HB1 := Lib.hid (below_then (show Below w.heap.size w (((w.alloc (.cells #[.int .i64 d.x, .int .i64 d.y, .int .i64 d.z] 23)).alloc (.cells #[.slice bs ms.length cs] 25)).alloc (.cells #[.slice none 0 0] 30)) by (repeat (first | (with_reducible exact Below.refl _ _) | (with_reducible assumption) | (with_reducible refine below_alloc ?_ _) | (with_reducible refine below_drewN ?_ _) | (with_reducible refine Below.drew ?_) | (with_reducible refine below_then ?_ (by with_reducible assumption)) | (with_reducible refine Below.setCell ?_ (by go_size) _)))) hb1)
  have d0 := BD.cell 0 _ rfl
  have d1 := BD.cell 1 _ rfl
  have d2 := BD.cell 2 _ rfl
  have dl := BD.lt
  have ol := BO.lt
  have HBD := Lib.hid BD
  have HBS := Lib.hid BS
  have HBO := Lib.hid BO
  clear hb1 BD BS BO
  gi_wp2_with (refine ⟨trivial, ?_⟩; gi_at_call 30; refine (boxes_in _ _ _).mono ?_; rintro e w' ⟨rfl, rfl⟩)
  have bd0 := (Blk.new (w1.alloc (.cells #[.int .i64 d.n] 3)) 23 #[.int .i64 d.x, .int .i64 d.y, .int .i64 d.z]).alloc (.cells #[.int .i64 d.n] 3)
  have bn0 := Blk.new ((w1.alloc (.cells #[.int .i64 d.n] 3)).alloc (.cells #[.int .i64 d.x, .int .i64 d.y, .int .i64 d.z] 23)) 3 #[.int .i64 d.n]
  have bN0 := ((Blk.new w1 3 #[.int .i64 d.n]).alloc (.cells #[.int .i64 d.x, .int .i64 d.y, .int .i64 d.z] 23)).alloc (.cells #[.int .i64 d.n] 3)
  have hb0 : Below w1.heap.size w1 (((w1.alloc (.cells #[.int .i64 d.n] 3)).alloc (.cells #[.int .i64 d.x, .int .i64 d.y, .int .i64 d.z] 23)).alloc (.cells #[.int .i64 d.n] 3)) := by (repeat (first | (with_reducible exact Below.refl _ _) | (with_reducible assumption) | (with_reducible refine below_alloc ?_ _) | (with_reducible refine below_drewN ?_ _) | (with_reducible refine Below.drew ?_) | (with_reducible refine below_then ?_ (by with_reducible assumption)) | (with_reducible refine Below.setCell ?_ (by go_size) _)))
  simp only [World.size_alloc] at bd0 bn0 bN0
  have zW : (((w1.alloc (.cells #[.int .i64 d.n] 3)).alloc (.cells #[.int .i64 d.x, .int .i64 d.y, .int .i64 d.z] 23)).alloc (.cells #[.int .i64 d.n] 3)).heap.size = w1.heap.size + 3 := by simp
  obtain ⟨W0, hW0⟩ : ∃ W0, ((w1.alloc (.cells #[.int .i64 d.n] 3)).alloc (.cells #[.int .i64 d.x, .int .i64 d.y, .int .i64 d.z] 23)).alloc (.cells #[.int .i64 d.n] 3) = W0 := ⟨_, rfl⟩
  rw [hW0] at bd0 bn0 bN0 hb0 zW ⊢
  have HB0 := Lib.hid (below_then HB1.out hb0)
  have HD0 := Lib.hid (HBD.out.below hb0)
  have HS0 := Lib.hid (HBS.out.below hb0)
  have HO0 := Lib.hid (HBO.out.below hb0)
  have HN0 := Lib.hid bN0
  have zn := HB1.out.size
  clear hW0 hb0 d0 d1 d2 HBD HBS HBO bN0
  refine wpIn_rangeFunc_ownH rfl (by omega) (gf := 57) (lb := #[.pointer (some ⟨w1.heap.size + 1 + 1, 0, none⟩), .pointer (some ⟨w1.heap.size + 1, 0, none⟩)]) rfl trivial (enters_of Try.func57 (by kernel_rfl) rfl)
    (boxes_stops _ (by omega) (w1.heap.size + 1 + 1) (w1.heap.size + 1) (w.heap.size + 1 + 1) w.heap.size d HD.out (by omega) (by omega) W0 (by omega) bn0 bd0) kpT_t (kpT_b (by omega)) (Below.refl _ _) (fun _ => rfl)
    (fun pre W => KpT w.heap.size (w.heap.size + 1 + 1) W0 W ∧ ∃ v, Blk W (w.heap.size + 1 + 1) 30 #[v] ∧ W.ownsRow (w.heap.size + 3) 27 6 v (pre.filter (freeB d ms)).length (bxc (pre.filter (freeB d ms))))
    (fun _ _ _ => False)
    (OwnFrom.and (fun s A B row hs hg hr => kpT_own hs hg hr (by omega) (by omega)) (fun s A B row hs hg hr => by obtain ⟨v, h1, h2⟩ := hs; exact ⟨v, h1.own hg (fun r e => (hr r e).2), bx_own h2 hg (fun r e => (hr r e).2)⟩))
    (fun _ _ _ _ _ hs _ _ => hs)
    ⟨⟨Below.refl _ _, fun _ _ _ _ _ _ h => h⟩, _, HO0.out, ⟨rfl, .inl ⟨rfl, rfl⟩⟩⟩
    (fun x a' W => ∃ Bx, a' = { tmps := #[.agg #[.int .i64 d.x, .int .i64 d.y, .int .i64 d.z], .slice bs ms.length cs, .pointer (some ⟨w.heap.size, 0, none⟩), .pointer (some ⟨w.heap.size + 1, 0, none⟩), .pointer (some ⟨w.heap.size + 1 + 1, 0, none⟩), .int .i64 0, .pointer (some ⟨w1.heap.size, 0, none⟩), .pointer (some ⟨Bx, 0, none⟩), .tuple #[.int .i64 d.n, .int .i64 0], .agg #[.int .i64 d.x, .int .i64 d.y, .int .i64 d.z], .slice bs ms.length cs, .tuple #[.int .i64 d.n, .int .i64 0], .int .i64 d.n, .int .i64 0, .bool false, .int .i64 0, .bool false, undef, .bool false, .int .i64 d.n, .bool false, .agg #[.int .i64 d.x, .int .i64 d.y, .int .i64 d.z], .int .i64 d.n, .func (.func 57) #[] #[.pointer (some ⟨w1.heap.size + 1 + 1, 0, none⟩), .pointer (some ⟨w1.heap.size + 1, 0, none⟩)], .agg #[.int .i64 x.b.x, .int .i64 x.b.y, .int .i64 x.b.z, .int .i64 x.s.x, .int .i64 x.s.y, .int .i64 x.s.z], undef, undef, undef, undef, undef, undef, undef, undef, undef, undef], defers := [] } ∧ Blk W Bx 27 #[.int .i64 x.b.x, .int .i64 x.b.y, .int .i64 x.b.z, .int .i64 x.s.x, .int .i64 x.s.y, .int .i64 x.s.z])
    (fun x a' _ X Y row hs hg hr => by obtain ⟨Bx, h1, h2⟩ := hs; exact ⟨Bx, h1, h2.own hg (fun r e => (hr r e).2)⟩)
    ?assign ?body ?done ?stop
  case assign =>
    rintro l pre x W K ⟨hK0, v, hB, hO⟩ hK
    dsimp only [encX]
    have hbw : Below W.heap.size W (W.alloc (.cells #[.int .i64 x.b.x, .int .i64 x.b.y, .int .i64 x.b.z, .int .i64 x.s.x, .int .i64 x.s.y, .int .i64 x.s.z] 27)) := by (repeat (first | (with_reducible exact Below.refl _ _) | (with_reducible assumption) | (with_reducible refine below_alloc ?_ _) | (with_reducible refine below_drewN ?_ _) | (with_reducible refine Below.drew ?_) | (with_reducible refine below_then ?_ (by with_reducible assumption)) | (with_reducible refine Below.setCell ?_ (by go_size) _)))
    have hws := hK0.below.size
    gi_wp2
    exact hK _ _ ((keepsG hbw).from _) (kpT_below (by omega) hbw) ⟨kpT_t hK0 (kpT_below (by omega) hbw), v, hB.alloc _, hO.alloc _⟩ ⟨_, rfl, Blk.new _ _ _⟩
  case body =>
    rintro l pre x a' W hl ⟨r, hr⟩ ⟨hK, v, hB, hO⟩ ⟨Bx, rfl, hbx⟩ hlt
    have hdW := hK.blk HD0.out (by omega) (by decide)
    have d0 := hdW.cell 0 _ rfl
    have d1 := hdW.cell 1 _ rfl
    have d2 := hdW.cell 2 _ rfl
    have n0 := (hK.blk HN0.out (by omega) (by decide)).cell 0 _ rfl
    have s0 := (hK.blk HS0.out (by omega) (by decide)).cell 0 _ rfl
    have x0 := hbx.cell 0 _ rfl
    have x1 := hbx.cell 1 _ rfl
    have x2 := hbx.cell 2 _ rfl
    have x3 := hbx.cell 3 _ rfl
    have x4 := hbx.cell 4 _ rfl
    have x5 := hbx.cell 5 _ rfl
    have hBW := HB0.out.trans hK.below
    have hsW := hBW.size
    have HFx := Lib.hid (HF.out x W hBW)
    have hsn := freeTo_snoc (freeB d ms) pre x
    have hpl : (pre.filter (freeB d ms)).length ≤ pre.length := List.length_filter_le _ _
    clear hdW hBW
    cases hp : freeB d ms x with
    | false =>
      rw [hp] at HFx hsn
      rw [if_neg (by decide), List.append_nil] at hsn
      have HSN := Lib.hid hsn
      clear hsn hp
      gi_wp2
      refine ⟨trivial, ?_⟩
      refine (CallsIn.inRound l (callsIn_wide.2 HFx.out)).mono ?_
      rintro e w2 ⟨rfl, hb2⟩
      clear d0 d1 d2 n0 s0 x0 x1 x2 x3 x4 x5 HFx
      gi_wp2
      exact ⟨(keepsG hb2).from _, kpT_below hsW hb2, kpT_t hK (kpT_below hsW hb2), v, hB.below hb2, by rw [HSN.out]; exact own_keep hO hb2⟩
    | true =>
      rw [hp] at HFx hsn
      rw [if_pos rfl] at hsn
      have HSN := Lib.hid hsn
      clear hsn hp
      gi_wp2
      refine ⟨trivial, ?_⟩
      refine (CallsIn.inRound l (callsIn_wide.2 HFx.out)).mono ?_
      rintro e w2 ⟨rfl, hb2⟩
      have HB2 := Lib.hid (hB.below hb2)
      have HO2 := Lib.hid (own_keep hO hb2)
      have HX2 := Lib.hid (hbx.below hb2)
      have HK2 := Lib.hid (kpT_below (B := (w.heap.size + 1 + 1)) hsW hb2)
      have HKE := Lib.hid (keepsG hb2)
      have hs2 := hb2.size
      have c0 := HB2.out.cell 0 _ rfl
      have f0 := HB2.out.frozen 0
      have hblt := HB2.out.lt
      clear d0 d1 d2 n0 s0 x0 x1 x2 x3 x4 x5 HFx hB hO hbx hb2
      have x0 := HX2.out.cell 0 _ rfl
      have x1 := HX2.out.cell 1 _ rfl
      have x2 := HX2.out.cell 2 _ rfl
      have x3 := HX2.out.cell 3 _ rfl
      have x4 := HX2.out.cell 4 _ rfl
      have x5 := HX2.out.cell 5 _ rfl
      gi_wp2_with (gi_at_builtin; refine wpListIn_append_own _ rfl _ _ 30 rfl (w.heap.size + 3) 27 i0 (.agg #[.int .i64 0, .int .i64 0, .int .i64 0, .int .i64 0, .int .i64 0, .int .i64 0]) 6 48 Try.underlying30 hi iz0 iz1 iz2 rfl (by decide) _ _ _ rfl (HO2.out.alloc _) ⟨_, 0, none⟩ 1 1 [.int .i64 x.b.x, .int .i64 x.b.y, .int .i64 x.b.z, .int .i64 x.s.x, .int .i64 x.s.y, .int .i64 x.s.z] rfl rfl (cell_new6 _ _ _ _ _ _ _ _ _ (by simp)) (by simp [Value.oneCell']) ?_ ?_ ?_ ?_)
      all_goals try (first | omega | (unfold maxLen; omega) | (simp; omega) | (simp; unfold maxLen; omega))
      intro v' w3 hown hg3 _
      have hoA := HO2.out.alloc (.cells #[.int .i64 x.b.x, .int .i64 x.b.y, .int .i64 x.b.z, .int .i64 x.s.x, .int .i64 x.s.y, .int .i64 x.s.z] 27)
      have hv3 : Blk w3 (w.heap.size + 1 + 1) 30 #[v] := (HB2.out.alloc _).kept hg3 (fun e => by have := (own_type hoA e.symm).1; omega)
      have hk3 : KpT w.heap.size (w.heap.size + 1 + 1) w2 w3 := kpT_t (kpT_below (by omega) (show Below w2.heap.size w2 (w2.alloc (.cells #[.int .i64 x.b.x, .int .i64 x.b.y, .int .i64 x.b.z, .int .i64 x.s.x, .int .i64 x.s.y, .int .i64 x.s.z] 27)) by (repeat (first | (with_reducible exact Below.refl _ _) | (with_reducible assumption) | (with_reducible refine below_alloc ?_ _) | (with_reducible refine below_drewN ?_ _) | (with_reducible refine Below.drew ?_) | (with_reducible refine below_then ?_ (by with_reducible assumption)) | (with_reducible refine Below.setCell ?_ (by go_size) _))))) (kpT_row hoA hg3 (by omega) (by simp; omega))
      have hke3 : KeepsFrom W0.heap.size w2 w3 := ((KeepsOthers.alloc w2 _).trans (KeepsOthers.of_grownBy hg3 (fun j o hj ho => by obtain ⟨_, cs', hc⟩ := own_type hoA hj; rw [ho] at hc; cases hc; rfl))).from _
      have hown' := own_bx (x := x) hown rfl
      rw [← HSN.out] at hown'
      obtain ⟨q, hq⟩ : ∃ q, q = (pre ++ [x]).filter (freeB d ms) := ⟨_, rfl⟩
      rw [← hq] at hown'
      have HQ := Lib.hid hq
      clear hq
      obtain ⟨bv, cv, rfl, _, _⟩ := own_rd hown'
      have hlt3 : (Value.slice bv q.length cv).ownBlock ≠ some (w.heap.size + 1 + 1) := fun e => by have := (own_type hown' e).1; omega
      have hk3s := hk3.below.size
      have c3 := hv3.cell 0 _ rfl
      have f3 := hv3.frozen 0
      have HV3 := Lib.hid hv3
      have HK3 := Lib.hid hk3
      have HKE3 := Lib.hid hke3
      have HOW := Lib.hid hown'
      have HLT := Lib.hid hlt3
      clear hv3 hk3 hke3 hown' hown hg3 hlt3 c0 f0 hoA
      gi_wp2
      have hke4 : KeepsFrom W0.heap.size w3 (w3.setCell ⟨(w.heap.size + 1 + 1), 0, none⟩ (.slice bv q.length cv)) := (KeepsOthers.setCell _ _ _).from _
      have hk4 := kpT_t HK2.out (kpT_t HK3.out (kpT_set (k := 0) (.slice bv q.length cv) (show w.heap.size ≤ (w.heap.size + 1 + 1) by omega)))
      refine ⟨(HKE.out.from _).trans (HKE3.out.trans hke4), hk4, kpT_t hK hk4, _, HV3.out.set 0 _, ?_⟩
      rw [← HQ.out]
      exact bx_oth HOW.out HLT.out
  case done =>
    rintro D ys W hDl rfl ⟨hK, v, hB, hO⟩ hKD
    rw [HA.out] at hO
    obtain ⟨bv, cv, rfl, _, _⟩ := own_rd hO
    have c0 := hB.cell 0 _ rfl
    have f0 := hB.frozen 0
    have hlt : (Value.slice bv (freeL d ms).length cv).ownBlock ≠ some (w.heap.size + 1 + 1) := fun e => by have := (own_type hO e).1; omega
    have HO := Lib.hid hO
    have HBW := Lib.hid (HB0.out.trans hK.below)
    have HKD := Lib.hid hKD
    have HB := Lib.hid hB
    have HLT := Lib.hid hlt
    clear hB hO hK hKD hlt
    gi_wp2
    have hKD1 := (Below.heap_setCell W ⟨(w.heap.size + 1 + 1), 0, none⟩ (.slice bv (freeL d ms).length cv) D (show D ≠ (w.heap.size + 1 + 1) by omega)).trans HKD.out
    have hBW := (HBW.out.setCell (p := ⟨(w.heap.size + 1 + 1), 0, none⟩) (show w.heap.size ≤ (w.heap.size + 1 + 1) by omega) (.slice bv (freeL d ms).length cv)).trans (belowK_b (w := w) (Nat.le_refl _) _ D _ (.deferred none) (by omega) hKD1 rfl rfl)
    have hBB := (HB.out.set 0 (.slice bv (freeL d ms).length cv)).putObj (.deferred none) hKD1 rfl
    have r0 := hBB.cell 0 (.slice bv (freeL d ms).length cv) rfl
    refine ⟨by simp, .inl ⟨_, _, rfl, run_takeDeferred hKD1, ?_⟩⟩
    refine ⟨.tuple #[.slice bv (freeL d ms).length cv, .int .i64 0], by simp [results, Try.f10, go_sem, r0], _, rfl, own_mono (bx_own (bx_oth HO.out HLT.out) (grownBy_putObj' _ D _) (fun r e => by cases e; exact ⟨_, hKD1, rfl⟩)) (by omega), hBW⟩
  case stop =>
    rintro D c pre W _ _ h _
    exact h.elim
theorem grow_Free (d : V3) (bs : Option Addr) (cs : Nat) (ms : List Nat) (w : World) (hs : SetIn w bs ms) : Calls Try.prog 10 #[.agg #[.int .i64 d.x, .int .i64 d.y, .int .i64 d.z], .slice bs ms.length cs] w (RXE w (frV d ms) (frE d ms)) := by
  by_cases h : frE d ms = 0
  · obtain ⟨h1, h2, h3⟩ := frE_0 h
    have hv : frV d ms = freeL d ms := if_pos h
    rw [hv, h]
    exact grow_Free_ok d bs cs ms w h1 h2 h3 hs
  · have hv : frV d ms = [] := if_neg h
    rw [hv]
    exact grow_Free_no d bs cs ms w h hs
end
end Go.Proofs.Ytofoenlhbmammaa
