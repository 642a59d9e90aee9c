/- REF 06: what is taken; the sets of a place. -/
import Derived.Test.YtofoenlhbmammaaGreatQ11FreeTells
import Derived.Test.YtofoenlhbmammaaGreatQ0RefCab3
namespace Go.Proofs.YtofoenlhbmammaaGreat

section
open Go.RowKit Go.Shelf

/-- Two new sets. -/
def RTS (w : World) (a b : List Nat) : Ending → World → Prop := fun e w' =>
  ∃ v u, e = .returned (.tuple #[v, u]) ∧ w'.ownsRow w.heap.size 56 1 v a.length (wcells a) ∧ w'.ownsRow w.heap.size 56 1 u b.length (wcells b) ∧ Below w.heap.size w w'
theorem pl_nMay {d : V3} (hd : d.may) : nMay d.n ∧ nMay (3 * d.n) := by
  have := V3.n_pos hd
  unfold nMay
  omega
set_option maxRecDepth 100000 in set_option maxHeartbeats 4000000 in
theorem ref06_Taken (d : V3) (p : Pl) (w : World) (hz : plChk d p = 0) : Calls Tryz.prog 69 #[.agg #[.int .i64 d.x, .int .i64 d.y, .int .i64 d.z], .agg #[.int .i64 p.b.b.x, .int .i64 p.b.b.y, .int .i64 p.b.b.z, .int .i64 p.b.s.x, .int .i64 p.b.s.y, .int .i64 p.b.s.z, .bool p.t0, .bool p.t1, .bool p.t2]] w (RTS w (midsV d p) (linksV d p)) := by
  have hf := pl_facts hz
  have hd := hf.may
  have hb := hf.box
  have hnm := pl_nMay hd
  have HN := Lib.hid (fun W => ref01_N d W hd)
  have HA := Lib.hid (fun W => ref02_All d p.b W hd hb)
  have HC := Lib.hid (fun W => ref06_Cables d p W hd hb)
  have q1 := Bx.all_len' d p.b hd
  have q2 : (cabsV d p).length ≤ 65536 * 3 := by
    have := cabs_len d p 0 hd; have := cabs_len d p 1 hd; have := cabs_len d p 2 hd
    unfold cabsV; rw [List.length_append, List.length_append]; omega
  have q3 := ofErr_may' hf.mErr
  have q4 := ofErr_may' hf.lErr
  have HM := Lib.hid (show midsV d p = bitsOf (nWords d.n) (p.b.all d) by rw [show midsV d p = ofSet d.n (p.b.all d) from if_pos hz]; exact if_pos hf.mErr)
  have HL := Lib.hid (show linksV d p = bitsOf (nWords (3 * d.n)) (cabsV d p) by rw [show linksV d p = ofSet (3 * d.n) (cabsV d p) from if_pos hz]; exact if_pos hf.lErr)
  have HF1 := Lib.hid (fun bl cl W (h : LIn W bl (p.b.all d)) => ref03_From d.n bl cl (p.b.all d) W h hnm.1 q3.2.1 q3.2.2)
  have HF2 := Lib.hid (fun bl cl W (h : LIn W bl (cabsV d p)) => ref03_From (3 * d.n) bl cl (cabsV d p) W h hnm.2 q4.2.1 q4.2.2)
  have hn9 := V3.n_le hd
  rw [HM.out, HL.out]
  clear HM HL
  generalize bitsOf (nWords d.n) (p.b.all d) = X1 at *
  generalize bitsOf (nWords (3 * d.n)) (cabsV d p) = X2 at *
  generalize p.b.all d = M at *
  generalize cabsV d p = C at *
  clear hf hz hd hb hnm q3 q4
  generalize d.n = n at *
  have HF3 := Lib.hid (fun bl cl W h => by have hh := HF2.out bl cl W h; rw [← IntWalk.i64_in (3 * n) (by omega)] at hh; exact hh)
  go_enter Tryz.func69, Tryz.ntmps69
  go_wp2_with fail
  refine (HN.out _).mono ?_
  rintro e w1 ⟨rfl, hb1⟩
  have BD := Lib.hid (((Blk.new w 23 #[.int .i64 d.x, .int .i64 d.y, .int .i64 d.z]).alloc (.cells #[.int .i64 p.b.b.x, .int .i64 p.b.b.y, .int .i64 p.b.b.z, .int .i64 p.b.s.x, .int .i64 p.b.s.y, .int .i64 p.b.s.z, .bool p.t0, .bool p.t1, .bool p.t2] 31)).below hb1)
  have BP := Lib.hid ((by have := (Blk.new (w.alloc (.cells #[.int .i64 d.x, .int .i64 d.y, .int .i64 d.z] 23)) 31 #[.int .i64 p.b.b.x, .int .i64 p.b.b.y, .int .i64 p.b.b.z, .int .i64 p.b.s.x, .int .i64 p.b.s.y, .int .i64 p.b.s.z, .bool p.t0, .bool p.t1, .bool p.t2]).below hb1; rwa [World.size_alloc] at this : Blk w1 (w.heap.size + 1) 31 #[.int .i64 p.b.b.x, .int .i64 p.b.b.y, .int .i64 p.b.b.z, .int .i64 p.b.s.x, .int .i64 p.b.s.y, .int .i64 p.b.s.z, .bool p.t0, .bool p.t1, .bool p.t2]))
  have HB := Lib.hid (below_then (show Below w.heap.size w ((w.alloc (.cells #[.int .i64 d.x, .int .i64 d.y, .int .i64 d.z] 23)).alloc (.cells #[.int .i64 p.b.b.x, .int .i64 p.b.b.y, .int .i64 p.b.b.z, .int .i64 p.b.s.x, .int .i64 p.b.s.y, .int .i64 p.b.s.z, .bool p.t0, .bool p.t1, .bool p.t2] 31)) by (repeat (first | (with_reducible exact Below.refl _ _) | (with_reducible assumption) | (with_reducible refine below_alloc ?_ _) | (with_reducible refine below_drewN ?_ _) | (with_reducible refine Below.drew ?_) | (with_reducible refine below_then ?_ (by with_reducible assumption)) | (with_reducible refine Below.setCell ?_ (by go_size) _)))) hb1)
  have zs := HB.out.size
  have hld := BD.out.lt
  have hlp := BP.out.lt
  clear hb1
  go_wp2_with fail
  (have d0 := (BD.out).cell 0 _ rfl; have d1 := (BD.out).cell 1 _ rfl; have d2 := (BD.out).cell 2 _ rfl; have p0 := (BP.out).cell 0 _ rfl; have p1 := (BP.out).cell 1 _ rfl; have p2 := (BP.out).cell 2 _ rfl; have p3 := (BP.out).cell 3 _ rfl; have p4 := (BP.out).cell 4 _ rfl; have p5 := (BP.out).cell 5 _ rfl; have p6 := (BP.out).cell 6 _ rfl; have p7 := (BP.out).cell 7 _ rfl; have p8 := (BP.out).cell 8 _ rfl)
  have mixed : Tryz.prog.follows .mixedOrders = true := by kernel_rfl
  go_region_held3 (fun W => W.cell? ⟨w.heap.size, 0, none⟩ = some (.int .i64 d.x) ∧ W.cell? ⟨w.heap.size, 1, none⟩ = some (.int .i64 d.y) ∧ W.cell? ⟨w.heap.size, 2, none⟩ = some (.int .i64 d.z) ∧ W.cell? ⟨w.heap.size + 1, 0, none⟩ = some (.int .i64 p.b.b.x) ∧ W.cell? ⟨w.heap.size + 1, 1, none⟩ = some (.int .i64 p.b.b.y) ∧ W.cell? ⟨w.heap.size + 1, 2, none⟩ = some (.int .i64 p.b.b.z) ∧ W.cell? ⟨w.heap.size + 1, 3, none⟩ = some (.int .i64 p.b.s.x) ∧ W.cell? ⟨w.heap.size + 1, 4, none⟩ = some (.int .i64 p.b.s.y) ∧ W.cell? ⟨w.heap.size + 1, 5, none⟩ = some (.int .i64 p.b.s.z) ∧ W.cell? ⟨w.heap.size + 1, 6, none⟩ = some (.bool p.t0) ∧ W.cell? ⟨w.heap.size + 1, 7, none⟩ = some (.bool p.t1) ∧ W.cell? ⟨w.heap.size + 1, 8, none⟩ = some (.bool p.t2)) (go_keep)
    (first
      | ((with_reducible refine (HA.out _).mono ?_); rintro e wa ⟨va, rfl, hoa, hba⟩; obtain ⟨ba, ca, rfl, la, _⟩ := list_of_own hoa (by omega); have hza := hba.size; (try simp at hza); have HBa := below_then (show Below w1.heap.size w1 _ by (repeat (first | (with_reducible exact Below.refl _ _) | (with_reducible assumption) | (with_reducible refine below_alloc ?_ _) | (with_reducible refine below_drewN ?_ _) | (with_reducible refine Below.drew ?_) | (with_reducible refine below_then ?_ (by with_reducible assumption)) | (with_reducible refine Below.setCell ?_ (by go_size) _)))) hba; (have d0 := ((BD.out.below HBa)).cell 0 _ rfl; have d1 := ((BD.out.below HBa)).cell 1 _ rfl; have d2 := ((BD.out.below HBa)).cell 2 _ rfl; have p0 := ((BP.out.below HBa)).cell 0 _ rfl; have p1 := ((BP.out.below HBa)).cell 1 _ rfl; have p2 := ((BP.out.below HBa)).cell 2 _ rfl; have p3 := ((BP.out.below HBa)).cell 3 _ rfl; have p4 := ((BP.out.below HBa)).cell 4 _ rfl; have p5 := ((BP.out.below HBa)).cell 5 _ rfl; have p6 := ((BP.out.below HBa)).cell 6 _ rfl; have p7 := ((BP.out.below HBa)).cell 7 _ rfl; have p8 := ((BP.out.below HBa)).cell 8 _ rfl))
      | ((with_reducible refine (HF1.out ba ca _ (la.keep (by (repeat (first | (with_reducible exact Below.refl _ _) | (with_reducible assumption) | (with_reducible refine below_alloc ?_ _) | (with_reducible refine below_drewN ?_ _) | (with_reducible refine Below.drew ?_) | (with_reducible refine below_then ?_ (by with_reducible assumption)) | (with_reducible refine Below.setCell ?_ (by go_size) _)))))).mono ?_); rintro e wb ⟨vb, rfl, hob, hbb⟩; have hzb := hbb.size; (try simp at hzb); have HBb := below_then (show Below w1.heap.size w1 _ by (repeat (first | (with_reducible exact Below.refl _ _) | (with_reducible assumption) | (with_reducible refine below_alloc ?_ _) | (with_reducible refine below_drewN ?_ _) | (with_reducible refine Below.drew ?_) | (with_reducible refine below_then ?_ (by with_reducible assumption)) | (with_reducible refine Below.setCell ?_ (by go_size) _)))) hbb; (have d0 := ((BD.out.below HBb)).cell 0 _ rfl; have d1 := ((BD.out.below HBb)).cell 1 _ rfl; have d2 := ((BD.out.below HBb)).cell 2 _ rfl; have p0 := ((BP.out.below HBb)).cell 0 _ rfl; have p1 := ((BP.out.below HBb)).cell 1 _ rfl; have p2 := ((BP.out.below HBb)).cell 2 _ rfl; have p3 := ((BP.out.below HBb)).cell 3 _ rfl; have p4 := ((BP.out.below HBb)).cell 4 _ rfl; have p5 := ((BP.out.below HBb)).cell 5 _ rfl; have p6 := ((BP.out.below HBb)).cell 6 _ rfl; have p7 := ((BP.out.below HBb)).cell 7 _ rfl; have p8 := ((BP.out.below HBb)).cell 8 _ rfl))
      | ((with_reducible refine (HC.out _).mono ?_); rintro e wc ⟨vc, rfl, hoc, hbc⟩; obtain ⟨bc, cc, rfl, lc, _⟩ := list_of_own hoc (by omega); have hzc := hbc.size; (try simp at hzc); have HBc := below_then (show Below w1.heap.size w1 _ by (repeat (first | (with_reducible exact Below.refl _ _) | (with_reducible assumption) | (with_reducible refine below_alloc ?_ _) | (with_reducible refine below_drewN ?_ _) | (with_reducible refine Below.drew ?_) | (with_reducible refine below_then ?_ (by with_reducible assumption)) | (with_reducible refine Below.setCell ?_ (by go_size) _)))) hbc; (have d0 := ((BD.out.below HBc)).cell 0 _ rfl; have d1 := ((BD.out.below HBc)).cell 1 _ rfl; have d2 := ((BD.out.below HBc)).cell 2 _ rfl; have p0 := ((BP.out.below HBc)).cell 0 _ rfl; have p1 := ((BP.out.below HBc)).cell 1 _ rfl; have p2 := ((BP.out.below HBc)).cell 2 _ rfl; have p3 := ((BP.out.below HBc)).cell 3 _ rfl; have p4 := ((BP.out.below HBc)).cell 4 _ rfl; have p5 := ((BP.out.below HBc)).cell 5 _ rfl; have p6 := ((BP.out.below HBc)).cell 6 _ rfl; have p7 := ((BP.out.below HBc)).cell 7 _ rfl; have p8 := ((BP.out.below HBc)).cell 8 _ rfl))
      | ((with_reducible refine (HF3.out bc cc _ (lc.keep (by (repeat (first | (with_reducible exact Below.refl _ _) | (with_reducible assumption) | (with_reducible refine below_alloc ?_ _) | (with_reducible refine below_drewN ?_ _) | (with_reducible refine Below.drew ?_) | (with_reducible refine below_then ?_ (by with_reducible assumption)) | (with_reducible refine Below.setCell ?_ (by go_size) _)))))).mono ?_); rintro e wd ⟨vd, rfl, hod, hbd⟩; have hzd := hbd.size; (try simp at hzd); have HBd := below_then (show Below w1.heap.size w1 _ by (repeat (first | (with_reducible exact Below.refl _ _) | (with_reducible assumption) | (with_reducible refine below_alloc ?_ _) | (with_reducible refine below_drewN ?_ _) | (with_reducible refine Below.drew ?_) | (with_reducible refine below_then ?_ (by with_reducible assumption)) | (with_reducible refine Below.setCell ?_ (by go_size) _)))) hbd; have HBbd := below_then (show Below wb.heap.size wb _ by (repeat (first | (with_reducible exact Below.refl _ _) | (with_reducible assumption) | (with_reducible refine below_alloc ?_ _) | (with_reducible refine below_drewN ?_ _) | (with_reducible refine Below.drew ?_) | (with_reducible refine below_then ?_ (by with_reducible assumption)) | (with_reducible refine Below.setCell ?_ (by go_size) _)))) hbd; (have d0 := ((BD.out.below HBd)).cell 0 _ rfl; have d1 := ((BD.out.below HBd)).cell 1 _ rfl; have d2 := ((BD.out.below HBd)).cell 2 _ rfl; have p0 := ((BP.out.below HBd)).cell 0 _ rfl; have p1 := ((BP.out.below HBd)).cell 1 _ rfl; have p2 := ((BP.out.below HBd)).cell 2 _ rfl; have p3 := ((BP.out.below HBd)).cell 3 _ rfl; have p4 := ((BP.out.below HBd)).cell 4 _ rfl; have p5 := ((BP.out.below HBd)).cell 5 _ rfl; have p6 := ((BP.out.below HBd)).cell 6 _ rfl; have p7 := ((BP.out.below HBd)).cell 7 _ rfl; have p8 := ((BP.out.below HBd)).cell 8 _ rfl)))
  all_goals go_wp2_with fail
  all_goals go_returns
  all_goals exact ⟨_, _, rfl, own_mono (own_keep hob HBbd) (by omega), own_mono hod (by omega), below_then HB.out HBd⟩
end
end Go.Proofs.YtofoenlhbmammaaGreat
