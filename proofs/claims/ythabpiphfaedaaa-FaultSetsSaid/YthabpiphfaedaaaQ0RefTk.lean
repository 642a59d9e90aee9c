/- REF 06: what is taken; the sets of a place; places apart; the midplanes that are passed. -/
import Derived.Test.YthabpiphfaedaaaQ0PassRef
import Derived.Test.YthabpiphfaedaaaQ0RefCab3
import Derived.Test.YthabpiphfaedaaaQ0SetOf2
namespace Go.Proofs.Ythabpiphfaedaaa

section
open Go.RowKit Go.Shelf

/-- Two new sets. -/
def RTS (w : World) (a b : List Nat) : Ending → World → Prop := fun e w' =>
  ∃ v u, e = .returned (.tuple #[v, u]) ∧ w'.ownsRow w.heap.size 61 1 v a.length (wcells a) ∧ w'.ownsRow w.heap.size 61 1 u b.length (wcells b) ∧ Below w.heap.size w w'
theorem pl_nMay {d : V3} (hd : d.may) : nMay d.n ∧ nMay (3 * d.n) := by
  have := V3.n_pos hd
  unfold nMay
  omega
set_option maxRecDepth 100000 in set_option maxHeartbeats 4000000 in
theorem ref06_Taken (d : V3) (p : Pl) (w : World) (hz : plChk d p = 0) : Calls Try.prog 45 #[.agg #[.int .i64 d.x, .int .i64 d.y, .int .i64 d.z], .agg #[.int .i64 p.b.b.x, .int .i64 p.b.b.y, .int .i64 p.b.b.z, .int .i64 p.b.s.x, .int .i64 p.b.s.y, .int .i64 p.b.s.z, .bool p.t0, .bool p.t1, .bool p.t2]] w (RTS w (midsV d p) (linksV d p)) := by
  have hf := pl_facts hz
  have hd := hf.may
  have hb := hf.box
  have hnm := pl_nMay hd
  have HN := Lib.hid (fun W => ref01_N d W hd)
  have HA := Lib.hid (fun W => ref02_All d p.b W hd hb)
  have HC := Lib.hid (fun W => ref06_Cables d p W hd hb)
  have q1 := Bx.all_len' d p.b hd
  have q2 : (cabsV d p).length ≤ 65536 * 3 := by
    have := cabs_len d p 0 hd; have := cabs_len d p 1 hd; have := cabs_len d p 2 hd
    unfold cabsV; rw [List.length_append, List.length_append]; omega
  have q3 := ofErr_may' hf.mErr
  have q4 := ofErr_may' hf.lErr
  have HM := Lib.hid (show midsV d p = bitsOf (nWords d.n) (p.b.all d) by rw [show midsV d p = ofSet d.n (p.b.all d) from if_pos hz]; exact if_pos hf.mErr)
  have HL := Lib.hid (show linksV d p = bitsOf (nWords (3 * d.n)) (cabsV d p) by rw [show linksV d p = ofSet (3 * d.n) (cabsV d p) from if_pos hz]; exact if_pos hf.lErr)
  have HF1 := Lib.hid (fun bl cl W (h : LIn W bl (p.b.all d)) => ref03_From d.n bl cl (p.b.all d) W h hnm.1 q3.2.1 q3.2.2)
  have HF2 := Lib.hid (fun bl cl W (h : LIn W bl (cabsV d p)) => ref03_From (3 * d.n) bl cl (cabsV d p) W h hnm.2 q4.2.1 q4.2.2)
  have hn9 := V3.n_le hd
  rw [HM.out, HL.out]
  clear HM HL
  generalize bitsOf (nWords d.n) (p.b.all d) = X1 at *
  generalize bitsOf (nWords (3 * d.n)) (cabsV d p) = X2 at *
  generalize p.b.all d = M at *
  generalize cabsV d p = C at *
  clear hf hz hd hb hnm q3 q4
  generalize d.n = n at *
  have HF3 := Lib.hid (fun bl cl W h => by have hh := HF2.out bl cl W h; rw [← IntWalk.i64_in (3 * n) (by omega)] at hh; exact hh)
  go_enter Try.func45, Try.ntmps45
  go_wp2_with fail
  refine (HN.out _).mono ?_
  rintro e w1 ⟨rfl, hb1⟩
  have BD := Lib.hid (((Blk.new w 23 #[.int .i64 d.x, .int .i64 d.y, .int .i64 d.z]).alloc (.cells #[.int .i64 p.b.b.x, .int .i64 p.b.b.y, .int .i64 p.b.b.z, .int .i64 p.b.s.x, .int .i64 p.b.s.y, .int .i64 p.b.s.z, .bool p.t0, .bool p.t1, .bool p.t2] 28)).below hb1)
  have BP := Lib.hid ((by have := (Blk.new (w.alloc (.cells #[.int .i64 d.x, .int .i64 d.y, .int .i64 d.z] 23)) 28 #[.int .i64 p.b.b.x, .int .i64 p.b.b.y, .int .i64 p.b.b.z, .int .i64 p.b.s.x, .int .i64 p.b.s.y, .int .i64 p.b.s.z, .bool p.t0, .bool p.t1, .bool p.t2]).below hb1; rwa [World.size_alloc] at this : Blk w1 (w.heap.size + 1) 28 #[.int .i64 p.b.b.x, .int .i64 p.b.b.y, .int .i64 p.b.b.z, .int .i64 p.b.s.x, .int .i64 p.b.s.y, .int .i64 p.b.s.z, .bool p.t0, .bool p.t1, .bool p.t2]))
  have HB := Lib.hid (below_then (show Below w.heap.size w ((w.alloc (.cells #[.int .i64 d.x, .int .i64 d.y, .int .i64 d.z] 23)).alloc (.cells #[.int .i64 p.b.b.x, .int .i64 p.b.b.y, .int .i64 p.b.b.z, .int .i64 p.b.s.x, .int .i64 p.b.s.y, .int .i64 p.b.s.z, .bool p.t0, .bool p.t1, .bool p.t2] 28)) by (repeat (first | (with_reducible exact Below.refl _ _) | (with_reducible assumption) | (with_reducible refine below_alloc ?_ _) | (with_reducible refine below_drewN ?_ _) | (with_reducible refine Below.drew ?_) | (with_reducible refine below_then ?_ (by with_reducible assumption)) | (with_reducible refine Below.setCell ?_ (by go_size) _)))) hb1)
  have zs := HB.out.size
  have hld := BD.out.lt
  have hlp := BP.out.lt
  clear hb1
  go_wp2_with fail
  (have d0 := (BD.out).cell 0 _ rfl; have d1 := (BD.out).cell 1 _ rfl; have d2 := (BD.out).cell 2 _ rfl; have p0 := (BP.out).cell 0 _ rfl; have p1 := (BP.out).cell 1 _ rfl; have p2 := (BP.out).cell 2 _ rfl; have p3 := (BP.out).cell 3 _ rfl; have p4 := (BP.out).cell 4 _ rfl; have p5 := (BP.out).cell 5 _ rfl; have p6 := (BP.out).cell 6 _ rfl; have p7 := (BP.out).cell 7 _ rfl; have p8 := (BP.out).cell 8 _ rfl)
  have mixed : Try.prog.follows .mixedOrders = true := by kernel_rfl
  go_region_held3 (fun W => W.cell? ⟨w.heap.size, 0, none⟩ = some (.int .i64 d.x) ∧ W.cell? ⟨w.heap.size, 1, none⟩ = some (.int .i64 d.y) ∧ W.cell? ⟨w.heap.size, 2, none⟩ = some (.int .i64 d.z) ∧ W.cell? ⟨w.heap.size + 1, 0, none⟩ = some (.int .i64 p.b.b.x) ∧ W.cell? ⟨w.heap.size + 1, 1, none⟩ = some (.int .i64 p.b.b.y) ∧ W.cell? ⟨w.heap.size + 1, 2, none⟩ = some (.int .i64 p.b.b.z) ∧ W.cell? ⟨w.heap.size + 1, 3, none⟩ = some (.int .i64 p.b.s.x) ∧ W.cell? ⟨w.heap.size + 1, 4, none⟩ = some (.int .i64 p.b.s.y) ∧ W.cell? ⟨w.heap.size + 1, 5, none⟩ = some (.int .i64 p.b.s.z) ∧ W.cell? ⟨w.heap.size + 1, 6, none⟩ = some (.bool p.t0) ∧ W.cell? ⟨w.heap.size + 1, 7, none⟩ = some (.bool p.t1) ∧ W.cell? ⟨w.heap.size + 1, 8, none⟩ = some (.bool p.t2)) (go_keep)
    (first
      | ((with_reducible refine (HA.out _).mono ?_); rintro e wa ⟨va, rfl, hoa, hba⟩; obtain ⟨ba, ca, rfl, la, _⟩ := list_of_own hoa (by omega); have hza := hba.size; (try simp at hza); have HBa := below_then (show Below w1.heap.size w1 _ by (repeat (first | (with_reducible exact Below.refl _ _) | (with_reducible assumption) | (with_reducible refine below_alloc ?_ _) | (with_reducible refine below_drewN ?_ _) | (with_reducible refine Below.drew ?_) | (with_reducible refine below_then ?_ (by with_reducible assumption)) | (with_reducible refine Below.setCell ?_ (by go_size) _)))) hba; (have d0 := ((BD.out.below HBa)).cell 0 _ rfl; have d1 := ((BD.out.below HBa)).cell 1 _ rfl; have d2 := ((BD.out.below HBa)).cell 2 _ rfl; have p0 := ((BP.out.below HBa)).cell 0 _ rfl; have p1 := ((BP.out.below HBa)).cell 1 _ rfl; have p2 := ((BP.out.below HBa)).cell 2 _ rfl; have p3 := ((BP.out.below HBa)).cell 3 _ rfl; have p4 := ((BP.out.below HBa)).cell 4 _ rfl; have p5 := ((BP.out.below HBa)).cell 5 _ rfl; have p6 := ((BP.out.below HBa)).cell 6 _ rfl; have p7 := ((BP.out.below HBa)).cell 7 _ rfl; have p8 := ((BP.out.below HBa)).cell 8 _ rfl))
      | ((with_reducible refine (HF1.out ba ca _ (la.keep (by (repeat (first | (with_reducible exact Below.refl _ _) | (with_reducible assumption) | (with_reducible refine below_alloc ?_ _) | (with_reducible refine below_drewN ?_ _) | (with_reducible refine Below.drew ?_) | (with_reducible refine below_then ?_ (by with_reducible assumption)) | (with_reducible refine Below.setCell ?_ (by go_size) _)))))).mono ?_); rintro e wb ⟨vb, rfl, hob, hbb⟩; have hzb := hbb.size; (try simp at hzb); have HBb := below_then (show Below w1.heap.size w1 _ by (repeat (first | (with_reducible exact Below.refl _ _) | (with_reducible assumption) | (with_reducible refine below_alloc ?_ _) | (with_reducible refine below_drewN ?_ _) | (with_reducible refine Below.drew ?_) | (with_reducible refine below_then ?_ (by with_reducible assumption)) | (with_reducible refine Below.setCell ?_ (by go_size) _)))) hbb; (have d0 := ((BD.out.below HBb)).cell 0 _ rfl; have d1 := ((BD.out.below HBb)).cell 1 _ rfl; have d2 := ((BD.out.below HBb)).cell 2 _ rfl; have p0 := ((BP.out.below HBb)).cell 0 _ rfl; have p1 := ((BP.out.below HBb)).cell 1 _ rfl; have p2 := ((BP.out.below HBb)).cell 2 _ rfl; have p3 := ((BP.out.below HBb)).cell 3 _ rfl; have p4 := ((BP.out.below HBb)).cell 4 _ rfl; have p5 := ((BP.out.below HBb)).cell 5 _ rfl; have p6 := ((BP.out.below HBb)).cell 6 _ rfl; have p7 := ((BP.out.below HBb)).cell 7 _ rfl; have p8 := ((BP.out.below HBb)).cell 8 _ rfl))
      | ((with_reducible refine (HC.out _).mono ?_); rintro e wc ⟨vc, rfl, hoc, hbc⟩; obtain ⟨bc, cc, rfl, lc, _⟩ := list_of_own hoc (by omega); have hzc := hbc.size; (try simp at hzc); have HBc := below_then (show Below w1.heap.size w1 _ by (repeat (first | (with_reducible exact Below.refl _ _) | (with_reducible assumption) | (with_reducible refine below_alloc ?_ _) | (with_reducible refine below_drewN ?_ _) | (with_reducible refine Below.drew ?_) | (with_reducible refine below_then ?_ (by with_reducible assumption)) | (with_reducible refine Below.setCell ?_ (by go_size) _)))) hbc; (have d0 := ((BD.out.below HBc)).cell 0 _ rfl; have d1 := ((BD.out.below HBc)).cell 1 _ rfl; have d2 := ((BD.out.below HBc)).cell 2 _ rfl; have p0 := ((BP.out.below HBc)).cell 0 _ rfl; have p1 := ((BP.out.below HBc)).cell 1 _ rfl; have p2 := ((BP.out.below HBc)).cell 2 _ rfl; have p3 := ((BP.out.below HBc)).cell 3 _ rfl; have p4 := ((BP.out.below HBc)).cell 4 _ rfl; have p5 := ((BP.out.below HBc)).cell 5 _ rfl; have p6 := ((BP.out.below HBc)).cell 6 _ rfl; have p7 := ((BP.out.below HBc)).cell 7 _ rfl; have p8 := ((BP.out.below HBc)).cell 8 _ rfl))
      | ((with_reducible refine (HF3.out bc cc _ (lc.keep (by (repeat (first | (with_reducible exact Below.refl _ _) | (with_reducible assumption) | (with_reducible refine below_alloc ?_ _) | (with_reducible refine below_drewN ?_ _) | (with_reducible refine Below.drew ?_) | (with_reducible refine below_then ?_ (by with_reducible assumption)) | (with_reducible refine Below.setCell ?_ (by go_size) _)))))).mono ?_); rintro e wd ⟨vd, rfl, hod, hbd⟩; have hzd := hbd.size; (try simp at hzd); have HBd := below_then (show Below w1.heap.size w1 _ by (repeat (first | (with_reducible exact Below.refl _ _) | (with_reducible assumption) | (with_reducible refine below_alloc ?_ _) | (with_reducible refine below_drewN ?_ _) | (with_reducible refine Below.drew ?_) | (with_reducible refine below_then ?_ (by with_reducible assumption)) | (with_reducible refine Below.setCell ?_ (by go_size) _)))) hbd; have HBbd := below_then (show Below wb.heap.size wb _ by (repeat (first | (with_reducible exact Below.refl _ _) | (with_reducible assumption) | (with_reducible refine below_alloc ?_ _) | (with_reducible refine below_drewN ?_ _) | (with_reducible refine Below.drew ?_) | (with_reducible refine below_then ?_ (by with_reducible assumption)) | (with_reducible refine Below.setCell ?_ (by go_size) _)))) hbd; (have d0 := ((BD.out.below HBd)).cell 0 _ rfl; have d1 := ((BD.out.below HBd)).cell 1 _ rfl; have d2 := ((BD.out.below HBd)).cell 2 _ rfl; have p0 := ((BP.out.below HBd)).cell 0 _ rfl; have p1 := ((BP.out.below HBd)).cell 1 _ rfl; have p2 := ((BP.out.below HBd)).cell 2 _ rfl; have p3 := ((BP.out.below HBd)).cell 3 _ rfl; have p4 := ((BP.out.below HBd)).cell 4 _ rfl; have p5 := ((BP.out.below HBd)).cell 5 _ rfl; have p6 := ((BP.out.below HBd)).cell 6 _ rfl; have p7 := ((BP.out.below HBd)).cell 7 _ rfl; have p8 := ((BP.out.below HBd)).cell 8 _ rfl)))
  all_goals go_wp2_with fail
  all_goals go_returns
  all_goals exact ⟨_, _, rfl, own_mono (own_keep hob HBbd) (by omega), own_mono hod (by omega), below_then HB.out HBd⟩
set_option maxRecDepth 100000 in set_option maxHeartbeats 4000000 in
theorem ref06_Sets (d : V3) (p : Pl) (w : World) : Calls Try.prog 18 #[.agg #[.int .i64 d.x, .int .i64 d.y, .int .i64 d.z], .agg #[.int .i64 p.b.b.x, .int .i64 p.b.b.y, .int .i64 p.b.b.z, .int .i64 p.b.s.x, .int .i64 p.b.s.y, .int .i64 p.b.s.z, .bool p.t0, .bool p.t1, .bool p.t2]] w (RPS w (midsV d p) (linksV d p) (plChk d p)) := by
  have HC := Lib.hid (fun W => ref06_Check d p W)
  by_cases hz : plChk d p = 0
  · have HT := Lib.hid (fun W => ref06_Taken d p W hz)
    rw [hz] at HC ⊢
    generalize midsV d p = M at *
    generalize linksV d p = C at *
    clear hz
    go_enter Try.func18, Try.ntmps18
    go_wp2_with fail
    refine (HC.out _).mono ?_
    rintro e w1 ⟨rfl, hb1⟩
    (have BD := Lib.hid (((Blk.new w 23 #[.int .i64 d.x, .int .i64 d.y, .int .i64 d.z]).alloc (.cells #[.int .i64 p.b.b.x, .int .i64 p.b.b.y, .int .i64 p.b.b.z, .int .i64 p.b.s.x, .int .i64 p.b.s.y, .int .i64 p.b.s.z, .bool p.t0, .bool p.t1, .bool p.t2] 28)).below hb1); have BP := Lib.hid ((by have := (Blk.new (w.alloc (.cells #[.int .i64 d.x, .int .i64 d.y, .int .i64 d.z] 23)) 28 #[.int .i64 p.b.b.x, .int .i64 p.b.b.y, .int .i64 p.b.b.z, .int .i64 p.b.s.x, .int .i64 p.b.s.y, .int .i64 p.b.s.z, .bool p.t0, .bool p.t1, .bool p.t2]).below hb1; rwa [World.size_alloc] at this : Blk w1 (w.heap.size + 1) 28 #[.int .i64 p.b.b.x, .int .i64 p.b.b.y, .int .i64 p.b.b.z, .int .i64 p.b.s.x, .int .i64 p.b.s.y, .int .i64 p.b.s.z, .bool p.t0, .bool p.t1, .bool p.t2])); have HB := Lib.hid (below_then (show Below w.heap.size w ((w.alloc (.cells #[.int .i64 d.x, .int .i64 d.y, .int .i64 d.z] 23)).alloc (.cells #[.int .i64 p.b.b.x, .int .i64 p.b.b.y, .int .i64 p.b.b.z, .int .i64 p.b.s.x, .int .i64 p.b.s.y, .int .i64 p.b.s.z, .bool p.t0, .bool p.t1, .bool p.t2] 28)) by (repeat (first | (with_reducible exact Below.refl _ _) | (with_reducible assumption) | (with_reducible refine below_alloc ?_ _) | (with_reducible refine below_drewN ?_ _) | (with_reducible refine Below.drew ?_) | (with_reducible refine below_then ?_ (by with_reducible assumption)) | (with_reducible refine Below.setCell ?_ (by go_size) _)))) hb1))
    clear hb1
    (have d0 := (BD.out).cell 0 _ rfl; have d1 := (BD.out).cell 1 _ rfl; have d2 := (BD.out).cell 2 _ rfl)
    (have p0 := (BP.out).cell 0 _ rfl; have p1 := (BP.out).cell 1 _ rfl; have p2 := (BP.out).cell 2 _ rfl; have p3 := (BP.out).cell 3 _ rfl; have p4 := (BP.out).cell 4 _ rfl; have p5 := (BP.out).cell 5 _ rfl; have p6 := (BP.out).cell 6 _ rfl; have p7 := (BP.out).cell 7 _ rfl; have p8 := (BP.out).cell 8 _ rfl)
    go_wp2_with fail
    refine (HT.out _).mono ?_
    rintro e w2 ⟨v, u, rfl, ov, ou, hb2⟩
    have HB2 := Lib.hid (below_then HB.out hb2)
    have HV := Lib.hid (own_mono ov HB.out.size)
    have HU := Lib.hid (own_mono ou HB.out.size)
    clear hb2 ov ou
    (clear d0 d1 d2 p0 p1 p2 p3 p4 p5 p6 p7 p8)
    go_wp2_with fail
    go_returns
    exact ⟨_, _, rfl, HV.out, HU.out, HB2.out⟩
  · have HM := Lib.hid (show midsV d p = [] from if_neg hz)
    have HL := Lib.hid (show linksV d p = [] from if_neg hz)
    have hy : (plChk d p != 0) = true := by simpa using hz
    clear hz
    go_enter Try.func18, Try.ntmps18
    go_wp2_with ((with_reducible refine (HC.out _).mono ?_); rintro e w1 ⟨rfl, hb1⟩; (obtain ⟨hc1, hf1⟩ := bcell hb1; have hz1 := hb1.size; (try simp at hz1); have hB : Below w.heap.size w w1 := (by (repeat (first | (with_reducible exact Below.refl _ _) | (with_reducible assumption) | (with_reducible refine below_alloc ?_ _) | (with_reducible refine below_drewN ?_ _) | (with_reducible refine Below.drew ?_) | (with_reducible refine below_then ?_ (by with_reducible assumption)) | (with_reducible refine Below.setCell ?_ (by go_size) _)))); obtain ⟨hcB, hfB⟩ := bcell hB; (try have z0 : w.heap.size < w1.heap.size := by omega); (try have z1 : w.heap.size + 1 < w1.heap.size := by omega); (try have z2 : w.heap.size + 2 < w1.heap.size := by omega); (try have z3 : w.heap.size + 3 < w1.heap.size := by omega)))
    all_goals
      go_returns
      exact ⟨_, _, rfl, by rw [HM.out]; exact World.ownsRow_nil _ _ _ _, by rw [HL.out]; exact World.ownsRow_nil _ _ _ _, by (repeat (first | (with_reducible exact Below.refl _ _) | (with_reducible assumption) | (with_reducible refine below_alloc ?_ _) | (with_reducible refine below_drewN ?_ _) | (with_reducible refine Below.drew ?_) | (with_reducible refine below_then ?_ (by with_reducible assumption)) | (with_reducible refine Below.setCell ?_ (by go_size) _)))⟩
set_option maxRecDepth 100000 in set_option maxHeartbeats 4000000 in
theorem ref06_Apart (d : V3) (p q : Pl) (w : World) : Calls Try.prog 20 #[.agg #[.int .i64 d.x, .int .i64 d.y, .int .i64 d.z], .agg #[.int .i64 p.b.b.x, .int .i64 p.b.b.y, .int .i64 p.b.b.z, .int .i64 p.b.s.x, .int .i64 p.b.s.y, .int .i64 p.b.s.z, .bool p.t0, .bool p.t1, .bool p.t2], .agg #[.int .i64 q.b.b.x, .int .i64 q.b.b.y, .int .i64 q.b.b.z, .int .i64 q.b.s.x, .int .i64 q.b.s.y, .int .i64 q.b.s.z, .bool q.t0, .bool q.t1, .bool q.t2]] w (RB w (.tuple #[.bool (apV d p q), .int .i64 (apE d p q)])) := by
  have HC := Lib.hid (fun W => ref06_Check d p W)
  have HC2 := Lib.hid (fun W => ref06_Check d q W)
  by_cases hz : plChk d p = 0
  · have hE : apE d p q = plChk d q := if_pos hz
    by_cases hz2 : plChk d q = 0
    · have HT := Lib.hid (fun W => ref06_Taken d p W hz)
      have HT2 := Lib.hid (fun W => ref06_Taken d q W hz2)
      have HV := Lib.hid (show apV d p q = (!hit true (nums (midsV d p)) (midsV d q) && !hit true (nums (linksV d p)) (linksV d q)) by
        rw [show apV d p q = apartB d p q from if_pos (by rw [hE]; exact hz2), apart_hit hz hz2])
      have F1 := Lib.hid (And.intro (midsV_fit d p) (midsV_fit d q))
      have F2 := Lib.hid (And.intro (linksV_fit d p) (linksV_fit d q))
      have l1 := midsV_len d p
      have l2 := linksV_len d p
      have l3 := midsV_len d q
      have l4 := linksV_len d q
      have HM1 := Lib.hid (fun ba bb ca cb W ha hb => ref03_Meets ba bb ca cb (midsV d p) (midsV d q) W ha hb (by omega))
      have HM2 := Lib.hid (fun ba bb ca cb W ha hb => ref03_Meets ba bb ca cb (linksV d p) (linksV d q) W ha hb (by omega))
      rw [hz] at HC
      rw [hz2] at HC2
      rw [hE, hz2]
      generalize hit true (nums (midsV d p)) (midsV d q) = x1 at *
      generalize hit true (nums (linksV d p)) (linksV d q) = x2 at *
      generalize midsV d p = M at *
      generalize linksV d p = C at *
      generalize midsV d q = M2 at *
      generalize linksV d q = C2 at *
      clear hz hz2 hE
      go_enter Try.func20, Try.ntmps20
      go_wp2_with fail
      refine (HC.out _).mono ?_
      rintro e w1 ⟨rfl, hb1⟩
      (have BD := Lib.hid ((((Blk.new w 23 #[.int .i64 d.x, .int .i64 d.y, .int .i64 d.z]).alloc (.cells #[.int .i64 p.b.b.x, .int .i64 p.b.b.y, .int .i64 p.b.b.z, .int .i64 p.b.s.x, .int .i64 p.b.s.y, .int .i64 p.b.s.z, .bool p.t0, .bool p.t1, .bool p.t2] 28)).alloc (.cells #[.int .i64 q.b.b.x, .int .i64 q.b.b.y, .int .i64 q.b.b.z, .int .i64 q.b.s.x, .int .i64 q.b.s.y, .int .i64 q.b.s.z, .bool q.t0, .bool q.t1, .bool q.t2] 28)).below hb1); have bp := ((Blk.new (w.alloc (.cells #[.int .i64 d.x, .int .i64 d.y, .int .i64 d.z] 23)) 28 #[.int .i64 p.b.b.x, .int .i64 p.b.b.y, .int .i64 p.b.b.z, .int .i64 p.b.s.x, .int .i64 p.b.s.y, .int .i64 p.b.s.z, .bool p.t0, .bool p.t1, .bool p.t2]).alloc (.cells #[.int .i64 q.b.b.x, .int .i64 q.b.b.y, .int .i64 q.b.b.z, .int .i64 q.b.s.x, .int .i64 q.b.s.y, .int .i64 q.b.s.z, .bool q.t0, .bool q.t1, .bool q.t2] 28)).below hb1; have bq := (Blk.new ((w.alloc (.cells #[.int .i64 d.x, .int .i64 d.y, .int .i64 d.z] 23)).alloc (.cells #[.int .i64 p.b.b.x, .int .i64 p.b.b.y, .int .i64 p.b.b.z, .int .i64 p.b.s.x, .int .i64 p.b.s.y, .int .i64 p.b.s.z, .bool p.t0, .bool p.t1, .bool p.t2] 28)) 28 #[.int .i64 q.b.b.x, .int .i64 q.b.b.y, .int .i64 q.b.b.z, .int .i64 q.b.s.x, .int .i64 q.b.s.y, .int .i64 q.b.s.z, .bool q.t0, .bool q.t1, .bool q.t2]).below hb1; simp only [World.size_alloc] at bp bq; have BP := Lib.hid bp; have BQ := Lib.hid bq; have HB := Lib.hid (below_then (show Below w.heap.size w (((w.alloc (.cells #[.int .i64 d.x, .int .i64 d.y, .int .i64 d.z] 23)).alloc (.cells #[.int .i64 p.b.b.x, .int .i64 p.b.b.y, .int .i64 p.b.b.z, .int .i64 p.b.s.x, .int .i64 p.b.s.y, .int .i64 p.b.s.z, .bool p.t0, .bool p.t1, .bool p.t2] 28)).alloc (.cells #[.int .i64 q.b.b.x, .int .i64 q.b.b.y, .int .i64 q.b.b.z, .int .i64 q.b.s.x, .int .i64 q.b.s.y, .int .i64 q.b.s.z, .bool q.t0, .bool q.t1, .bool q.t2] 28)) by (repeat (first | (with_reducible exact Below.refl _ _) | (with_reducible assumption) | (with_reducible refine below_alloc ?_ _) | (with_reducible refine below_drewN ?_ _) | (with_reducible refine Below.drew ?_) | (with_reducible refine below_then ?_ (by with_reducible assumption)) | (with_reducible refine Below.setCell ?_ (by go_size) _)))) hb1); clear hb1 bp bq)
      (have d0 := (BD.out).cell 0 _ rfl; have d1 := (BD.out).cell 1 _ rfl; have d2 := (BD.out).cell 2 _ rfl)
      (have q0 := (BQ.out).cell 0 _ rfl; have q1 := (BQ.out).cell 1 _ rfl; have q2 := (BQ.out).cell 2 _ rfl; have q3 := (BQ.out).cell 3 _ rfl; have q4 := (BQ.out).cell 4 _ rfl; have q5 := (BQ.out).cell 5 _ rfl; have q6 := (BQ.out).cell 6 _ rfl; have q7 := (BQ.out).cell 7 _ rfl; have q8 := (BQ.out).cell 8 _ rfl)
      go_wp2_with fail
      refine (HC2.out _).mono ?_
      rintro e w2 ⟨rfl, hb⟩
      (have BD := Lib.hid (BD.out.below hb); have BP := Lib.hid (BP.out.below hb); have BQ := Lib.hid (BQ.out.below hb); have HB := Lib.hid (below_then HB.out hb))
      clear hb
      (clear d0 d1 d2 q0 q1 q2 q3 q4 q5 q6 q7 q8)
      (have d0 := (BD.out).cell 0 _ rfl; have d1 := (BD.out).cell 1 _ rfl; have d2 := (BD.out).cell 2 _ rfl)
      (have p0 := (BP.out).cell 0 _ rfl; have p1 := (BP.out).cell 1 _ rfl; have p2 := (BP.out).cell 2 _ rfl; have p3 := (BP.out).cell 3 _ rfl; have p4 := (BP.out).cell 4 _ rfl; have p5 := (BP.out).cell 5 _ rfl; have p6 := (BP.out).cell 6 _ rfl; have p7 := (BP.out).cell 7 _ rfl; have p8 := (BP.out).cell 8 _ rfl)
      go_wp2_with fail
      refine (HT.out _).mono ?_
      rintro e w3 ⟨v1, u1, rfl, ov1, ou1, hb⟩
      (have BD := Lib.hid (BD.out.below hb); have BP := Lib.hid (BP.out.below hb); have BQ := Lib.hid (BQ.out.below hb); have HB := Lib.hid (below_then HB.out hb))
      obtain ⟨b1, c1, rfl, s1, _⟩ := set_of_own ov1 (by omega) F1.out.1
      obtain ⟨b2, c2, rfl, s2, _⟩ := set_of_own ou1 (by omega) F2.out.1
      have S1 := Lib.hid s1
      have S2 := Lib.hid s2
      clear hb ov1 ou1 s1 s2
      (clear d0 d1 d2 p0 p1 p2 p3 p4 p5 p6 p7 p8)
      (have d0 := (BD.out).cell 0 _ rfl; have d1 := (BD.out).cell 1 _ rfl; have d2 := (BD.out).cell 2 _ rfl)
      (have q0 := (BQ.out).cell 0 _ rfl; have q1 := (BQ.out).cell 1 _ rfl; have q2 := (BQ.out).cell 2 _ rfl; have q3 := (BQ.out).cell 3 _ rfl; have q4 := (BQ.out).cell 4 _ rfl; have q5 := (BQ.out).cell 5 _ rfl; have q6 := (BQ.out).cell 6 _ rfl; have q7 := (BQ.out).cell 7 _ rfl; have q8 := (BQ.out).cell 8 _ rfl)
      go_wp2_with fail
      refine (HT2.out _).mono ?_
      rintro e w4 ⟨v2, u2, rfl, ov2, ou2, hb⟩
      have HB := Lib.hid (below_then HB.out hb)
      have S1 := Lib.hid (S1.out.keep hb)
      have S2 := Lib.hid (S2.out.keep hb)
      obtain ⟨b3, c3, rfl, s3, _⟩ := set_of_own ov2 (by omega) F1.out.2
      obtain ⟨b4, c4, rfl, s4, _⟩ := set_of_own ou2 (by omega) F2.out.2
      have S3 := Lib.hid s3
      have S4 := Lib.hid s4
      clear hb ov2 ou2 s3 s4 BD BP BQ
      (clear d0 d1 d2 q0 q1 q2 q3 q4 q5 q6 q7 q8)
      have N1 := Lib.hid (fun W (h : Below w4.heap.size w4 W) => HM1.out b1 b3 c1 c3 W (S1.out.keep h) (S3.out.keep h))
      have N2 := Lib.hid (fun W (h : Below w4.heap.size w4 W) => HM2.out b2 b4 c2 c4 W (S2.out.keep h) (S4.out.keep h))
      cases x1 with
      | true =>
        go_wp2_with ((with_reducible refine (N1.out _ (by (repeat (first | (with_reducible exact Below.refl _ _) | (with_reducible assumption) | (with_reducible refine below_alloc ?_ _) | (with_reducible refine below_drewN ?_ _) | (with_reducible refine Below.drew ?_) | (with_reducible refine below_then ?_ (by with_reducible assumption)) | (with_reducible refine Below.setCell ?_ (by go_size) _))))).mono ?_); rintro e w5 ⟨rfl, hb⟩; have HB5 := Lib.hid (below_then HB.out hb); clear hb)
        all_goals
          go_returns
          exact ⟨by rw [HV.out]; rfl, by first | exact HB5.out | exact below_drewN HB5.out _⟩
      | false =>
        go_wp2_with ((with_reducible refine (N1.out _ (by (repeat (first | (with_reducible exact Below.refl _ _) | (with_reducible assumption) | (with_reducible refine below_alloc ?_ _) | (with_reducible refine below_drewN ?_ _) | (with_reducible refine Below.drew ?_) | (with_reducible refine below_then ?_ (by with_reducible assumption)) | (with_reducible refine Below.setCell ?_ (by go_size) _))))).mono ?_); rintro e w5 ⟨rfl, hb⟩; have HB5 := Lib.hid (below_then HB.out hb); have hb5 := hb)
        refine (N2.out _ (by (repeat (first | (with_reducible exact Below.refl _ _) | (with_reducible assumption) | (with_reducible refine below_alloc ?_ _) | (with_reducible refine below_drewN ?_ _) | (with_reducible refine Below.drew ?_) | (with_reducible refine below_then ?_ (by with_reducible assumption)) | (with_reducible refine Below.setCell ?_ (by go_size) _))))).mono ?_
        rintro e w6 ⟨rfl, hb6⟩
        have HB6 := Lib.hid (below_then HB5.out hb6)
        clear hb6 hb5 hb
        go_wp2_with fail
        all_goals
          go_returns
          exact ⟨by rw [HV.out]; rfl, by first | exact HB6.out | exact below_drewN HB6.out _⟩
    · have hV : apV d p q = false := if_neg (by rw [hE]; exact hz2)
      have hy : (plChk d q != 0) = true := by simpa using hz2
      rw [hz] at HC
      rw [hV, hE]
      generalize plChk d q = x at *
      clear hz hz2 hE hV
      go_enter Try.func20, Try.ntmps20
      go_wp2_with fail
      refine (HC.out _).mono ?_
      rintro e w1 ⟨rfl, hb1⟩
      (have BD := Lib.hid ((((Blk.new w 23 #[.int .i64 d.x, .int .i64 d.y, .int .i64 d.z]).alloc (.cells #[.int .i64 p.b.b.x, .int .i64 p.b.b.y, .int .i64 p.b.b.z, .int .i64 p.b.s.x, .int .i64 p.b.s.y, .int .i64 p.b.s.z, .bool p.t0, .bool p.t1, .bool p.t2] 28)).alloc (.cells #[.int .i64 q.b.b.x, .int .i64 q.b.b.y, .int .i64 q.b.b.z, .int .i64 q.b.s.x, .int .i64 q.b.s.y, .int .i64 q.b.s.z, .bool q.t0, .bool q.t1, .bool q.t2] 28)).below hb1); have bp := ((Blk.new (w.alloc (.cells #[.int .i64 d.x, .int .i64 d.y, .int .i64 d.z] 23)) 28 #[.int .i64 p.b.b.x, .int .i64 p.b.b.y, .int .i64 p.b.b.z, .int .i64 p.b.s.x, .int .i64 p.b.s.y, .int .i64 p.b.s.z, .bool p.t0, .bool p.t1, .bool p.t2]).alloc (.cells #[.int .i64 q.b.b.x, .int .i64 q.b.b.y, .int .i64 q.b.b.z, .int .i64 q.b.s.x, .int .i64 q.b.s.y, .int .i64 q.b.s.z, .bool q.t0, .bool q.t1, .bool q.t2] 28)).below hb1; have bq := (Blk.new ((w.alloc (.cells #[.int .i64 d.x, .int .i64 d.y, .int .i64 d.z] 23)).alloc (.cells #[.int .i64 p.b.b.x, .int .i64 p.b.b.y, .int .i64 p.b.b.z, .int .i64 p.b.s.x, .int .i64 p.b.s.y, .int .i64 p.b.s.z, .bool p.t0, .bool p.t1, .bool p.t2] 28)) 28 #[.int .i64 q.b.b.x, .int .i64 q.b.b.y, .int .i64 q.b.b.z, .int .i64 q.b.s.x, .int .i64 q.b.s.y, .int .i64 q.b.s.z, .bool q.t0, .bool q.t1, .bool q.t2]).below hb1; simp only [World.size_alloc] at bp bq; have BP := Lib.hid bp; have BQ := Lib.hid bq; have HB := Lib.hid (below_then (show Below w.heap.size w (((w.alloc (.cells #[.int .i64 d.x, .int .i64 d.y, .int .i64 d.z] 23)).alloc (.cells #[.int .i64 p.b.b.x, .int .i64 p.b.b.y, .int .i64 p.b.b.z, .int .i64 p.b.s.x, .int .i64 p.b.s.y, .int .i64 p.b.s.z, .bool p.t0, .bool p.t1, .bool p.t2] 28)).alloc (.cells #[.int .i64 q.b.b.x, .int .i64 q.b.b.y, .int .i64 q.b.b.z, .int .i64 q.b.s.x, .int .i64 q.b.s.y, .int .i64 q.b.s.z, .bool q.t0, .bool q.t1, .bool q.t2] 28)) by (repeat (first | (with_reducible exact Below.refl _ _) | (with_reducible assumption) | (with_reducible refine below_alloc ?_ _) | (with_reducible refine below_drewN ?_ _) | (with_reducible refine Below.drew ?_) | (with_reducible refine below_then ?_ (by with_reducible assumption)) | (with_reducible refine Below.setCell ?_ (by go_size) _)))) hb1); clear hb1 bp bq)
      (have d0 := (BD.out).cell 0 _ rfl; have d1 := (BD.out).cell 1 _ rfl; have d2 := (BD.out).cell 2 _ rfl)
      (have q0 := (BQ.out).cell 0 _ rfl; have q1 := (BQ.out).cell 1 _ rfl; have q2 := (BQ.out).cell 2 _ rfl; have q3 := (BQ.out).cell 3 _ rfl; have q4 := (BQ.out).cell 4 _ rfl; have q5 := (BQ.out).cell 5 _ rfl; have q6 := (BQ.out).cell 6 _ rfl; have q7 := (BQ.out).cell 7 _ rfl; have q8 := (BQ.out).cell 8 _ rfl)
      go_wp2_with fail
      refine (HC2.out _).mono ?_
      rintro e w2 ⟨rfl, hb⟩
      have HB2 := Lib.hid (below_then HB.out hb)
      clear hb
      (clear d0 d1 d2 q0 q1 q2 q3 q4 q5 q6 q7 q8)
      go_wp2_with fail
      go_returns
      exact ⟨rfl, HB2.out⟩
  · have hE : apE d p q = plChk d p := if_neg hz
    have hV : apV d p q = false := if_neg (by rw [hE]; exact hz)
    have hy : (plChk d p != 0) = true := by simpa using hz
    rw [hV, hE]
    generalize plChk d p = x at *
    clear hz hE hV
    go_enter Try.func20, Try.ntmps20
    go_wp2_with ((with_reducible refine (HC.out _).mono ?_); rintro e w1 ⟨rfl, hb1⟩; (obtain ⟨hc1, hf1⟩ := bcell hb1; have hz1 := hb1.size; (try simp at hz1); have hB : Below w.heap.size w w1 := (by (repeat (first | (with_reducible exact Below.refl _ _) | (with_reducible assumption) | (with_reducible refine below_alloc ?_ _) | (with_reducible refine below_drewN ?_ _) | (with_reducible refine Below.drew ?_) | (with_reducible refine below_then ?_ (by with_reducible assumption)) | (with_reducible refine Below.setCell ?_ (by go_size) _)))); obtain ⟨hcB, hfB⟩ := bcell hB; (try have z0 : w.heap.size < w1.heap.size := by omega); (try have z1 : w.heap.size + 1 < w1.heap.size := by omega); (try have z2 : w.heap.size + 2 < w1.heap.size := by omega); (try have z3 : w.heap.size + 3 < w1.heap.size := by omega)))
    all_goals
      go_returns
      exact ⟨rfl, by (repeat (first | (with_reducible exact Below.refl _ _) | (with_reducible assumption) | (with_reducible refine below_alloc ?_ _) | (with_reducible refine below_drewN ?_ _) | (with_reducible refine Below.drew ?_) | (with_reducible refine below_then ?_ (by with_reducible assumption)) | (with_reducible refine Below.setCell ?_ (by go_size) _)))⟩
end
end Go.Proofs.Ythabpiphfaedaaa
