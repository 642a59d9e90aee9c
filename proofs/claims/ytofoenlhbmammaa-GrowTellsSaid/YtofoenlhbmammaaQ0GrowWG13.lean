/- GROW: a box grown as far as it goes: the code's. -/
import Derived.Deep.LoopGhost
import Derived.Deep.RegionHeld3
import Derived.Deep.DeepCutAuto
import Derived.WalkMore
import Derived.ScopeJumps
import Derived.Test.YtofoenlhbmammaaQ0GrowMG13
import Derived.Test.YtofoenlhbmammaaQ0GrowSG13
set_option linter.unusedVariables false
set_option linter.unusedSimpArgs false
namespace Go.Proofs.Ytofoenlhbmammaa

section
open Go.RowKit Go.Shelf

/-- The box that a step leads to, ere it is made canonical. -/
def stepJ (d : V3) (b : Bx) (j : Nat) : Bx := b.stepG d (j / 2) ((j : Int) % 2)
def okJ (d : V3) (s : List Nat) (b : Bx) (j : Nat) : Bool := decide ((stepJ d b j).may d) && clearS d s ((stepJ d b j).can d)
/-- The first step that leads anywhere. -/
def nextJ (d : V3) (s : List Nat) (b : Bx) : Option Bx := ((List.range 6).find? (okJ d s b)).map (fun j => (stepJ d b j).can d)
def growTo (d : V3) (s : List Nat) : Nat → Bx → Bx
  | 0, b => b
  | f + 1, b => match nextJ d s b with
    | none => b
    | some c => growTo d s f c
theorem growTo_none {d : V3} {s : List Nat} {b : Bx} (h : nextJ d s b = none) : ∀ f, growTo d s f b = b
  | 0 => rfl
  | f + 1 => by unfold growTo; rw [h]
theorem growTo_some {d : V3} {s : List Nat} {b c : Bx} (h : nextJ d s b = some c) (f : Nat) : growTo d s (f + 1) b = growTo d s f c := by
  rw [growTo, h]
theorem back_01 (j : Nat) : (j : Int) % 2 = 0 ∨ (j : Int) % 2 = 1 := by omega
theorem okJ_vol {d : V3} {s : List Nat} {b : Bx} {j : Nat} (hd : d.may) (hb : b.may d) (hj : j < 6) (h : okJ d s b j = true) : ((stepJ d b j).can d).isC d ∧ clearS d s ((stepJ d b j).can d) = true ∧ b.vol < ((stepJ d b j).can d).vol := by
  unfold okJ at h
  rw [Bool.and_eq_true, decide_eq_true_iff] at h
  have hk : j / 2 < 3 := by omega
  exact ⟨can_isC h.1, h.2, step_vol hb hk (step_may_size hk h.1) (back_01 j)⟩
theorem nextJ_here {d : V3} {s : List Nat} {b : Bx} {j : Nat} (hj : j < 6) (h0 : ∀ i, i < j → okJ d s b i = false) (h : okJ d s b j = true) : nextJ d s b = some ((stepJ d b j).can d) := by
  have hf : (List.range 6).find? (okJ d s b) = some j := by
    rw [List.find?_eq_some_iff_getElem]
    refine ⟨h, j, by simpa using hj, by simp, fun i hi => ?_⟩
    simp [h0 i hi]
  unfold nextJ
  rw [hf]
  rfl
theorem nextJ_no {d : V3} {s : List Nat} {b : Bx} (h0 : ∀ i, i < 6 → okJ d s b i = false) : nextJ d s b = none := by
  unfold nextJ
  rw [List.find?_eq_none.2 (fun i hi => by rw [h0 i (List.mem_range.1 hi)]; decide)]
  rfl
def gnE (d : V3) (s : List Nat) (b : Bx) : Int := if growE d s = 0 then (if chk d b = 0 then (if clearS d s b then 0 else 80) else chk d b) else growE d s
def gnV (d : V3) (s : List Nat) (b : Bx) : Bx := if gnE d s b = 0 then growTo d s 5000 (b.can d) else Bx.zero
theorem vol_le {d : V3} {b : Bx} (hd : d.may) (hb : b.may d) : 1 ≤ b.vol ∧ b.vol ≤ 4096 := by
  obtain ⟨⟨⟨a1, a2⟩, _⟩, ⟨⟨b1, b2⟩, _⟩, ⟨⟨c1, c2⟩, _⟩⟩ := hb
  obtain ⟨⟨_, x2⟩, ⟨_, y2⟩, ⟨_, z2⟩⟩ := hd
  have m1 : 1 ≤ b.s.x * b.s.y := Int.mul_pos (by omega) (by omega)
  have m2 : b.s.x * b.s.y ≤ 256 := Int.le_trans (Int.mul_le_mul (show b.s.x ≤ 16 by omega) (show b.s.y ≤ 16 by omega) (by omega) (by omega)) (by omega)
  have m3 : 1 ≤ b.s.x * b.s.y * b.s.z := Int.mul_pos (by omega) (by omega)
  have m4 : b.s.x * b.s.y * b.s.z ≤ 4096 := Int.le_trans (Int.mul_le_mul m2 (show b.s.z ≤ 16 by omega) (by omega) (by omega)) (by omega)
  exact ⟨m3, m4⟩
set_option maxRecDepth 100000 in set_option maxHeartbeats 4000000 in
theorem grow_Grown_bad (d : V3) (b : Bx) (bs : Option Addr) (cs : Nat) (ms : List Nat) (w : World) (hs : SetIn w bs ms) (hz : ¬ growE d ms = 0) : Calls Try.prog 18 #[.agg #[.int .i64 d.x, .int .i64 d.y, .int .i64 d.z], .agg #[.int .i64 b.b.x, .int .i64 b.b.y, .int .i64 b.b.z, .int .i64 b.s.x, .int .i64 b.s.y, .int .i64 b.s.z], .slice bs ms.length cs] w (RB w (.tuple #[.agg #[.int .i64 0, .int .i64 0, .int .i64 0, .int .i64 0, .int .i64 0, .int .i64 0], .int .i64 8])) := by
  have HC := Lib.hid (fun W (hw : Below w.heap.size w W) => by have h := grow_checked d bs cs ms W (hs.keep hw); rw [show growN d ms = 0 from if_neg hz, (growE_08 d ms).resolve_left hz] at h; exact h)
  clear hs hz
  go_enter Try.func18, Try.ntmps18
  go_wp2
  go_step3
  go_wp2_with fail
  refine (HC.out _ (by (repeat (first | (with_reducible exact Below.refl _ _) | (with_reducible assumption) | (with_reducible refine below_alloc ?_ _) | (with_reducible refine below_drewN ?_ _) | (with_reducible refine Below.drew ?_) | (with_reducible refine below_then ?_ (by with_reducible assumption)) | (with_reducible refine Below.setCell ?_ (by go_size) _))))).mono ?_
  rintro e w1 ⟨rfl, hb1⟩
  (have BD := ((((Blk.new w 23 #[.int .i64 d.x, .int .i64 d.y, .int .i64 d.z]).alloc (.cells #[.int .i64 b.b.x, .int .i64 b.b.y, .int .i64 b.b.z, .int .i64 b.s.x, .int .i64 b.s.y, .int .i64 b.s.z] 27)).alloc (.cells #[.int .i64 0, .int .i64 0, .int .i64 0, .int .i64 0, .int .i64 0, .int .i64 0] 27)).below hb1); have BB := ((Blk.new (w.alloc (.cells #[.int .i64 d.x, .int .i64 d.y, .int .i64 d.z] 23)) 27 #[.int .i64 b.b.x, .int .i64 b.b.y, .int .i64 b.b.z, .int .i64 b.s.x, .int .i64 b.s.y, .int .i64 b.s.z]).alloc (.cells #[.int .i64 0, .int .i64 0, .int .i64 0, .int .i64 0, .int .i64 0, .int .i64 0] 27)).below hb1; have BO := (Blk.new ((w.alloc (.cells #[.int .i64 d.x, .int .i64 d.y, .int .i64 d.z] 23)).alloc (.cells #[.int .i64 b.b.x, .int .i64 b.b.y, .int .i64 b.b.z, .int .i64 b.s.x, .int .i64 b.s.y, .int .i64 b.s.z] 27)) 27 #[.int .i64 0, .int .i64 0, .int .i64 0, .int .i64 0, .int .i64 0, .int .i64 0]).below hb1; simp only [World.size_alloc] at BB BO; have HB := below_then (show Below w.heap.size w (((w.alloc (.cells #[.int .i64 d.x, .int .i64 d.y, .int .i64 d.z] 23)).alloc (.cells #[.int .i64 b.b.x, .int .i64 b.b.y, .int .i64 b.b.z, .int .i64 b.s.x, .int .i64 b.s.y, .int .i64 b.s.z] 27)).alloc (.cells #[.int .i64 0, .int .i64 0, .int .i64 0, .int .i64 0, .int .i64 0, .int .i64 0] 27)) by (repeat (first | (with_reducible exact Below.refl _ _) | (with_reducible assumption) | (with_reducible refine below_alloc ?_ _) | (with_reducible refine below_drewN ?_ _) | (with_reducible refine Below.drew ?_) | (with_reducible refine below_then ?_ (by with_reducible assumption)) | (with_reducible refine Below.setCell ?_ (by go_size) _)))) hb1)
  have HR := Lib.hid (((((((BO).set 0 (.int .i64 0)).set 1 (.int .i64 0)).set 2 (.int .i64 0)).set 3 (.int .i64 0)).set 4 (.int .i64 0)).set 5 (.int .i64 0))
  have HE := Lib.hid ((((((((HB).setCell (p := ⟨(w.heap.size + 1 + 1), 0, none⟩) (show w.heap.size ≤ (w.heap.size + 1 + 1) by omega) (.int .i64 0)).setCell (p := ⟨(w.heap.size + 1 + 1), 1, none⟩) (show w.heap.size ≤ (w.heap.size + 1 + 1) by omega) (.int .i64 0)).setCell (p := ⟨(w.heap.size + 1 + 1), 2, none⟩) (show w.heap.size ≤ (w.heap.size + 1 + 1) by omega) (.int .i64 0)).setCell (p := ⟨(w.heap.size + 1 + 1), 3, none⟩) (show w.heap.size ≤ (w.heap.size + 1 + 1) by omega) (.int .i64 0)).setCell (p := ⟨(w.heap.size + 1 + 1), 4, none⟩) (show w.heap.size ≤ (w.heap.size + 1 + 1) by omega) (.int .i64 0)).setCell (p := ⟨(w.heap.size + 1 + 1), 5, none⟩) (show w.heap.size ≤ (w.heap.size + 1 + 1) by omega) (.int .i64 0)))
  (have o0 := (BO).cell 0 _ rfl; have o1 := (BO).cell 1 _ rfl; have o2 := (BO).cell 2 _ rfl; have o3 := (BO).cell 3 _ rfl; have o4 := (BO).cell 4 _ rfl; have o5 := (BO).cell 5 _ rfl; have f0 := (BO).frozen 0; have f1 := (BO).frozen 1; have f2 := (BO).frozen 2; have f3 := (BO).frozen 3; have f4 := (BO).frozen 4; have f5 := (BO).frozen 5; have ol := (BO).lt)
  clear BD BB BO HB hb1
  go_wp2_with fail
  (have r0 := (HR.out).cell 0 _ rfl; have r1 := (HR.out).cell 1 _ rfl; have r2 := (HR.out).cell 2 _ rfl; have r3 := (HR.out).cell 3 _ rfl; have r4 := (HR.out).cell 4 _ rfl; have r5 := (HR.out).cell 5 _ rfl; (try rw [Exit.noGoto_ret]); refine bodyPost_ret (by simp [results, Try.results18, go_sem, r0, r1, r2, r3, r4, r5]; try rfl) rfl ?_)
  exact ⟨rfl, HE.out⟩
set_option maxRecDepth 100000 in set_option maxHeartbeats 4000000 in
theorem grow_Grown_arg (d : V3) (b : Bx) (bs : Option Addr) (cs : Nat) (ms : List Nat) (w : World) (hs : SetIn w bs ms) (hz : growE d ms = 0) (hc : ¬ chk d b = 0) : Calls Try.prog 18 #[.agg #[.int .i64 d.x, .int .i64 d.y, .int .i64 d.z], .agg #[.int .i64 b.b.x, .int .i64 b.b.y, .int .i64 b.b.z, .int .i64 b.s.x, .int .i64 b.s.y, .int .i64 b.s.z], .slice bs ms.length cs] w (RB w (.tuple #[.agg #[.int .i64 0, .int .i64 0, .int .i64 0, .int .i64 0, .int .i64 0, .int .i64 0], .int .i64 (chk d b)])) := by
  have HC := Lib.hid (fun W (hw : Below w.heap.size w W) => by have h := grow_checked d bs cs ms W (hs.keep hw); rw [show growN d ms = d.n from if_pos hz, hz] at h; exact h)
  have HK := Lib.hid (fun W => by have h := box_Canon d b W; rw [show canV d b = Bx.zero from if_neg hc] at h; exact (show Calls Try.prog 13 #[.agg #[.int .i64 d.x, .int .i64 d.y, .int .i64 d.z], .agg #[.int .i64 b.b.x, .int .i64 b.b.y, .int .i64 b.b.z, .int .i64 b.s.x, .int .i64 b.s.y, .int .i64 b.s.z]] W (RB W (.tuple #[.agg #[.int .i64 0, .int .i64 0, .int .i64 0, .int .i64 0, .int .i64 0, .int .i64 0], .int .i64 (chk d b)])) from h))
  have hy : (chk d b != 0) = true := by simpa using hc
  generalize chk d b = x at *
  clear hs hz hc
  go_enter Try.func18, Try.ntmps18
  go_wp2
  go_step3
  go_wp2_with fail
  refine (HC.out _ (by (repeat (first | (with_reducible exact Below.refl _ _) | (with_reducible assumption) | (with_reducible refine below_alloc ?_ _) | (with_reducible refine below_drewN ?_ _) | (with_reducible refine Below.drew ?_) | (with_reducible refine below_then ?_ (by with_reducible assumption)) | (with_reducible refine Below.setCell ?_ (by go_size) _))))).mono ?_
  rintro e w1 ⟨rfl, hb1⟩
  (have BD := ((((Blk.new w 23 #[.int .i64 d.x, .int .i64 d.y, .int .i64 d.z]).alloc (.cells #[.int .i64 b.b.x, .int .i64 b.b.y, .int .i64 b.b.z, .int .i64 b.s.x, .int .i64 b.s.y, .int .i64 b.s.z] 27)).alloc (.cells #[.int .i64 0, .int .i64 0, .int .i64 0, .int .i64 0, .int .i64 0, .int .i64 0] 27)).below hb1); have BB := ((Blk.new (w.alloc (.cells #[.int .i64 d.x, .int .i64 d.y, .int .i64 d.z] 23)) 27 #[.int .i64 b.b.x, .int .i64 b.b.y, .int .i64 b.b.z, .int .i64 b.s.x, .int .i64 b.s.y, .int .i64 b.s.z]).alloc (.cells #[.int .i64 0, .int .i64 0, .int .i64 0, .int .i64 0, .int .i64 0, .int .i64 0] 27)).below hb1; have BO := (Blk.new ((w.alloc (.cells #[.int .i64 d.x, .int .i64 d.y, .int .i64 d.z] 23)).alloc (.cells #[.int .i64 b.b.x, .int .i64 b.b.y, .int .i64 b.b.z, .int .i64 b.s.x, .int .i64 b.s.y, .int .i64 b.s.z] 27)) 27 #[.int .i64 0, .int .i64 0, .int .i64 0, .int .i64 0, .int .i64 0, .int .i64 0]).below hb1; simp only [World.size_alloc] at BB BO; have HB := below_then (show Below w.heap.size w (((w.alloc (.cells #[.int .i64 d.x, .int .i64 d.y, .int .i64 d.z] 23)).alloc (.cells #[.int .i64 b.b.x, .int .i64 b.b.y, .int .i64 b.b.z, .int .i64 b.s.x, .int .i64 b.s.y, .int .i64 b.s.z] 27)).alloc (.cells #[.int .i64 0, .int .i64 0, .int .i64 0, .int .i64 0, .int .i64 0, .int .i64 0] 27)) by (repeat (first | (with_reducible exact Below.refl _ _) | (with_reducible assumption) | (with_reducible refine below_alloc ?_ _) | (with_reducible refine below_drewN ?_ _) | (with_reducible refine Below.drew ?_) | (with_reducible refine below_then ?_ (by with_reducible assumption)) | (with_reducible refine Below.setCell ?_ (by go_size) _)))) hb1)
  have HBD := Lib.hid BD
  have HBB := Lib.hid BB
  have HBO := Lib.hid BO
  have HHB := Lib.hid HB
  have d0 := BD.cell 0 _ rfl
  have d1 := BD.cell 1 _ rfl
  have d2 := BD.cell 2 _ rfl
  have dl := BD.lt
  (have p0 := (BB).cell 0 _ rfl; have p1 := (BB).cell 1 _ rfl; have p2 := (BB).cell 2 _ rfl; have p3 := (BB).cell 3 _ rfl; have p4 := (BB).cell 4 _ rfl; have p5 := (BB).cell 5 _ rfl; have q0 := (BB).frozen 0; have q1 := (BB).frozen 1; have q2 := (BB).frozen 2; have q3 := (BB).frozen 3; have q4 := (BB).frozen 4; have q5 := (BB).frozen 5; have pl := (BB).lt)
  clear BD BB BO HB hb1
  go_wp2_with fail
  refine (HK.out _).mono ?_
  rintro e w2 ⟨rfl, hb2⟩
  have hBB := HBB.out.below hb2
  have hBO := HBO.out.below hb2
  have hHB := below_then HHB.out hb2
  clear d0 d1 d2 dl p0 p1 p2 p3 p4 p5 q0 q1 q2 q3 q4 q5 pl
  (have p0 := (hBB).cell 0 _ rfl; have p1 := (hBB).cell 1 _ rfl; have p2 := (hBB).cell 2 _ rfl; have p3 := (hBB).cell 3 _ rfl; have p4 := (hBB).cell 4 _ rfl; have p5 := (hBB).cell 5 _ rfl; have q0 := (hBB).frozen 0; have q1 := (hBB).frozen 1; have q2 := (hBB).frozen 2; have q3 := (hBB).frozen 3; have q4 := (hBB).frozen 4; have q5 := (hBB).frozen 5; have pl := (hBB).lt)
  (have o0 := (hBO).cell 0 _ rfl; have o1 := (hBO).cell 1 _ rfl; have o2 := (hBO).cell 2 _ rfl; have o3 := (hBO).cell 3 _ rfl; have o4 := (hBO).cell 4 _ rfl; have o5 := (hBO).cell 5 _ rfl; have f0 := (hBO).frozen 0; have f1 := (hBO).frozen 1; have f2 := (hBO).frozen 2; have f3 := (hBO).frozen 3; have f4 := (hBO).frozen 4; have f5 := (hBO).frozen 5; have ol := (hBO).lt)
  have HR := Lib.hid ((((((((((((((hBO).other (w.heap.size + 1) 0 (.int .i64 0) (by omega)).other (w.heap.size + 1) 1 (.int .i64 0) (by omega)).other (w.heap.size + 1) 2 (.int .i64 0) (by omega)).other (w.heap.size + 1) 3 (.int .i64 0) (by omega)).other (w.heap.size + 1) 4 (.int .i64 0) (by omega)).other (w.heap.size + 1) 5 (.int .i64 0) (by omega))).set 0 (.int .i64 0)).set 1 (.int .i64 0)).set 2 (.int .i64 0)).set 3 (.int .i64 0)).set 4 (.int .i64 0)).set 5 (.int .i64 0))
  have HE := Lib.hid ((((((((((((((((hHB).setCell (p := ⟨(w.heap.size + 1), 0, none⟩) (show w.heap.size ≤ (w.heap.size + 1) by omega) (.int .i64 0)).setCell (p := ⟨(w.heap.size + 1), 1, none⟩) (show w.heap.size ≤ (w.heap.size + 1) by omega) (.int .i64 0)).setCell (p := ⟨(w.heap.size + 1), 2, none⟩) (show w.heap.size ≤ (w.heap.size + 1) by omega) (.int .i64 0)).setCell (p := ⟨(w.heap.size + 1), 3, none⟩) (show w.heap.size ≤ (w.heap.size + 1) by omega) (.int .i64 0)).setCell (p := ⟨(w.heap.size + 1), 4, none⟩) (show w.heap.size ≤ (w.heap.size + 1) by omega) (.int .i64 0)).setCell (p := ⟨(w.heap.size + 1), 5, none⟩) (show w.heap.size ≤ (w.heap.size + 1) by omega) (.int .i64 0)))).setCell (p := ⟨(w.heap.size + 1 + 1), 0, none⟩) (show w.heap.size ≤ (w.heap.size + 1 + 1) by omega) (.int .i64 0)).setCell (p := ⟨(w.heap.size + 1 + 1), 1, none⟩) (show w.heap.size ≤ (w.heap.size + 1 + 1) by omega) (.int .i64 0)).setCell (p := ⟨(w.heap.size + 1 + 1), 2, none⟩) (show w.heap.size ≤ (w.heap.size + 1 + 1) by omega) (.int .i64 0)).setCell (p := ⟨(w.heap.size + 1 + 1), 3, none⟩) (show w.heap.size ≤ (w.heap.size + 1 + 1) by omega) (.int .i64 0)).setCell (p := ⟨(w.heap.size + 1 + 1), 4, none⟩) (show w.heap.size ≤ (w.heap.size + 1 + 1) by omega) (.int .i64 0)).setCell (p := ⟨(w.heap.size + 1 + 1), 5, none⟩) (show w.heap.size ≤ (w.heap.size + 1 + 1) by omega) (.int .i64 0)))
  clear hBB hBO hHB hb2
  go_wp2_with fail
  (have r0 := (HR.out).cell 0 _ rfl; have r1 := (HR.out).cell 1 _ rfl; have r2 := (HR.out).cell 2 _ rfl; have r3 := (HR.out).cell 3 _ rfl; have r4 := (HR.out).cell 4 _ rfl; have r5 := (HR.out).cell 5 _ rfl; (try rw [Exit.noGoto_ret]); refine bodyPost_ret (by simp [results, Try.results18, go_sem, r0, r1, r2, r3, r4, r5]; try rfl) rfl ?_)
  exact ⟨rfl, HE.out⟩
set_option maxRecDepth 100000 in set_option maxHeartbeats 4000000 in
theorem grow_Grown_taken (d : V3) (b : Bx) (bs : Option Addr) (cs : Nat) (ms : List Nat) (w : World) (hs : SetIn w bs ms) (hz : growE d ms = 0) (hc : chk d b = 0) (hf : clearS d ms b = false) : Calls Try.prog 18 #[.agg #[.int .i64 d.x, .int .i64 d.y, .int .i64 d.z], .agg #[.int .i64 b.b.x, .int .i64 b.b.y, .int .i64 b.b.z, .int .i64 b.s.x, .int .i64 b.s.y, .int .i64 b.s.z], .slice bs ms.length cs] w (RB w (.tuple #[.agg #[.int .i64 0, .int .i64 0, .int .i64 0, .int .i64 0, .int .i64 0, .int .i64 0], .int .i64 80])) := by
  have HC := Lib.hid (fun W (hw : Below w.heap.size w W) => by have h := grow_checked d bs cs ms W (hs.keep hw); rw [show growN d ms = d.n from if_pos hz, hz] at h; exact h)
  have HK := Lib.hid (fun W => box_Canon_ok d b W hc)
  have HF := Lib.hid (fun W (hw : Below w.heap.size w W) => by have h := grow_free d (b.can d) bs cs ms W (hs.keep hw) (growE_0 hz).2; rw [freeB_ok (growE_0 hz).1 (Bx.can_may (chk_may hc).2), clear_can (growE_0 hz).1 (chk_may hc).2, hf] at h; exact h)
  generalize b.can d = c at *
  clear hs hz hc hf
  go_enter Try.func18, Try.ntmps18
  go_wp2
  go_step3
  go_wp2_with fail
  refine (HC.out _ (by (repeat (first | (with_reducible exact Below.refl _ _) | (with_reducible assumption) | (with_reducible refine below_alloc ?_ _) | (with_reducible refine below_drewN ?_ _) | (with_reducible refine Below.drew ?_) | (with_reducible refine below_then ?_ (by with_reducible assumption)) | (with_reducible refine Below.setCell ?_ (by go_size) _))))).mono ?_
  rintro e w1 ⟨rfl, hb1⟩
  (have BD := ((((Blk.new w 23 #[.int .i64 d.x, .int .i64 d.y, .int .i64 d.z]).alloc (.cells #[.int .i64 b.b.x, .int .i64 b.b.y, .int .i64 b.b.z, .int .i64 b.s.x, .int .i64 b.s.y, .int .i64 b.s.z] 27)).alloc (.cells #[.int .i64 0, .int .i64 0, .int .i64 0, .int .i64 0, .int .i64 0, .int .i64 0] 27)).below hb1); have BB := ((Blk.new (w.alloc (.cells #[.int .i64 d.x, .int .i64 d.y, .int .i64 d.z] 23)) 27 #[.int .i64 b.b.x, .int .i64 b.b.y, .int .i64 b.b.z, .int .i64 b.s.x, .int .i64 b.s.y, .int .i64 b.s.z]).alloc (.cells #[.int .i64 0, .int .i64 0, .int .i64 0, .int .i64 0, .int .i64 0, .int .i64 0] 27)).below hb1; have BO := (Blk.new ((w.alloc (.cells #[.int .i64 d.x, .int .i64 d.y, .int .i64 d.z] 23)).alloc (.cells #[.int .i64 b.b.x, .int .i64 b.b.y, .int .i64 b.b.z, .int .i64 b.s.x, .int .i64 b.s.y, .int .i64 b.s.z] 27)) 27 #[.int .i64 0, .int .i64 0, .int .i64 0, .int .i64 0, .int .i64 0, .int .i64 0]).below hb1; simp only [World.size_alloc] at BB BO; have HB := below_then (show Below w.heap.size w (((w.alloc (.cells #[.int .i64 d.x, .int .i64 d.y, .int .i64 d.z] 23)).alloc (.cells #[.int .i64 b.b.x, .int .i64 b.b.y, .int .i64 b.b.z, .int .i64 b.s.x, .int .i64 b.s.y, .int .i64 b.s.z] 27)).alloc (.cells #[.int .i64 0, .int .i64 0, .int .i64 0, .int .i64 0, .int .i64 0, .int .i64 0] 27)) by (repeat (first | (with_reducible exact Below.refl _ _) | (with_reducible assumption) | (with_reducible refine below_alloc ?_ _) | (with_reducible refine below_drewN ?_ _) | (with_reducible refine Below.drew ?_) | (with_reducible refine below_then ?_ (by with_reducible assumption)) | (with_reducible refine Below.setCell ?_ (by go_size) _)))) hb1)
  have HBD := Lib.hid BD
  have HBB := Lib.hid BB
  have HBO := Lib.hid BO
  have HHB := Lib.hid HB
  have d0 := BD.cell 0 _ rfl
  have d1 := BD.cell 1 _ rfl
  have d2 := BD.cell 2 _ rfl
  have dl := BD.lt
  (have p0 := (BB).cell 0 _ rfl; have p1 := (BB).cell 1 _ rfl; have p2 := (BB).cell 2 _ rfl; have p3 := (BB).cell 3 _ rfl; have p4 := (BB).cell 4 _ rfl; have p5 := (BB).cell 5 _ rfl; have q0 := (BB).frozen 0; have q1 := (BB).frozen 1; have q2 := (BB).frozen 2; have q3 := (BB).frozen 3; have q4 := (BB).frozen 4; have q5 := (BB).frozen 5; have pl := (BB).lt)
  clear BD BB BO HB hb1
  go_wp2_with fail
  refine (HK.out _).mono ?_
  rintro e w2 ⟨rfl, hb2⟩
  have hBD := HBD.out.below hb2
  have hBB := HBB.out.below hb2
  have hBO := HBO.out.below hb2
  have hHB := below_then HHB.out hb2
  clear d0 d1 d2 dl p0 p1 p2 p3 p4 p5 q0 q1 q2 q3 q4 q5 pl
  (have p0 := (hBB).cell 0 _ rfl; have p1 := (hBB).cell 1 _ rfl; have p2 := (hBB).cell 2 _ rfl; have p3 := (hBB).cell 3 _ rfl; have p4 := (hBB).cell 4 _ rfl; have p5 := (hBB).cell 5 _ rfl; have q0 := (hBB).frozen 0; have q1 := (hBB).frozen 1; have q2 := (hBB).frozen 2; have q3 := (hBB).frozen 3; have q4 := (hBB).frozen 4; have q5 := (hBB).frozen 5; have pl := (hBB).lt)
  have dl := hBD.lt
  have HBD2 := Lib.hid (((((((hBD).other (w.heap.size + 1) 0 (.int .i64 c.b.x) (by omega)).other (w.heap.size + 1) 1 (.int .i64 c.b.y) (by omega)).other (w.heap.size + 1) 2 (.int .i64 c.b.z) (by omega)).other (w.heap.size + 1) 3 (.int .i64 c.s.x) (by omega)).other (w.heap.size + 1) 4 (.int .i64 c.s.y) (by omega)).other (w.heap.size + 1) 5 (.int .i64 c.s.z) (by omega))
  have HBB2 := Lib.hid (((((((hBB).set 0 (.int .i64 c.b.x)).set 1 (.int .i64 c.b.y)).set 2 (.int .i64 c.b.z)).set 3 (.int .i64 c.s.x)).set 4 (.int .i64 c.s.y)).set 5 (.int .i64 c.s.z))
  have HBO2 := Lib.hid (((((((hBO).other (w.heap.size + 1) 0 (.int .i64 c.b.x) (by omega)).other (w.heap.size + 1) 1 (.int .i64 c.b.y) (by omega)).other (w.heap.size + 1) 2 (.int .i64 c.b.z) (by omega)).other (w.heap.size + 1) 3 (.int .i64 c.s.x) (by omega)).other (w.heap.size + 1) 4 (.int .i64 c.s.y) (by omega)).other (w.heap.size + 1) 5 (.int .i64 c.s.z) (by omega))
  have HE2 := Lib.hid ((((((((hHB).setCell (p := ⟨(w.heap.size + 1), 0, none⟩) (show w.heap.size ≤ (w.heap.size + 1) by omega) (.int .i64 c.b.x)).setCell (p := ⟨(w.heap.size + 1), 1, none⟩) (show w.heap.size ≤ (w.heap.size + 1) by omega) (.int .i64 c.b.y)).setCell (p := ⟨(w.heap.size + 1), 2, none⟩) (show w.heap.size ≤ (w.heap.size + 1) by omega) (.int .i64 c.b.z)).setCell (p := ⟨(w.heap.size + 1), 3, none⟩) (show w.heap.size ≤ (w.heap.size + 1) by omega) (.int .i64 c.s.x)).setCell (p := ⟨(w.heap.size + 1), 4, none⟩) (show w.heap.size ≤ (w.heap.size + 1) by omega) (.int .i64 c.s.y)).setCell (p := ⟨(w.heap.size + 1), 5, none⟩) (show w.heap.size ≤ (w.heap.size + 1) by omega) (.int .i64 c.s.z)))
  have d0 := hBD.cell 0 _ rfl
  have d1 := hBD.cell 1 _ rfl
  have d2 := hBD.cell 2 _ rfl
  clear hBD hBB hBO hHB hb2 HBD HBB HBO HHB
  go_wp2_with fail
  refine (HF.out _ HE2.out).mono ?_
  rintro e w3 ⟨rfl, hb3⟩
  have hBO := HBO2.out.below hb3
  have hE := below_then HE2.out hb3
  clear d0 d1 d2 p0 p1 p2 p3 p4 p5 q0 q1 q2 q3 q4 q5 pl dl
  (have o0 := (hBO).cell 0 _ rfl; have o1 := (hBO).cell 1 _ rfl; have o2 := (hBO).cell 2 _ rfl; have o3 := (hBO).cell 3 _ rfl; have o4 := (hBO).cell 4 _ rfl; have o5 := (hBO).cell 5 _ rfl; have f0 := (hBO).frozen 0; have f1 := (hBO).frozen 1; have f2 := (hBO).frozen 2; have f3 := (hBO).frozen 3; have f4 := (hBO).frozen 4; have f5 := (hBO).frozen 5; have ol := (hBO).lt)
  have HR := Lib.hid (((((((hBO).set 0 (.int .i64 0)).set 1 (.int .i64 0)).set 2 (.int .i64 0)).set 3 (.int .i64 0)).set 4 (.int .i64 0)).set 5 (.int .i64 0))
  have HE := Lib.hid ((((((((hE).setCell (p := ⟨(w.heap.size + 1 + 1), 0, none⟩) (show w.heap.size ≤ (w.heap.size + 1 + 1) by omega) (.int .i64 0)).setCell (p := ⟨(w.heap.size + 1 + 1), 1, none⟩) (show w.heap.size ≤ (w.heap.size + 1 + 1) by omega) (.int .i64 0)).setCell (p := ⟨(w.heap.size + 1 + 1), 2, none⟩) (show w.heap.size ≤ (w.heap.size + 1 + 1) by omega) (.int .i64 0)).setCell (p := ⟨(w.heap.size + 1 + 1), 3, none⟩) (show w.heap.size ≤ (w.heap.size + 1 + 1) by omega) (.int .i64 0)).setCell (p := ⟨(w.heap.size + 1 + 1), 4, none⟩) (show w.heap.size ≤ (w.heap.size + 1 + 1) by omega) (.int .i64 0)).setCell (p := ⟨(w.heap.size + 1 + 1), 5, none⟩) (show w.heap.size ≤ (w.heap.size + 1 + 1) by omega) (.int .i64 0)))
  clear hBO hE hb3
  go_wp2_with fail
  (have r0 := (HR.out).cell 0 _ rfl; have r1 := (HR.out).cell 1 _ rfl; have r2 := (HR.out).cell 2 _ rfl; have r3 := (HR.out).cell 3 _ rfl; have r4 := (HR.out).cell 4 _ rfl; have r5 := (HR.out).cell 5 _ rfl; (try rw [Exit.noGoto_ret]); refine bodyPost_ret (by simp [results, Try.results18, go_sem, r0, r1, r2, r3, r4, r5]; try rfl) rfl ?_)
  exact ⟨rfl, HE.out⟩
/-- What stays while a box grows. -/
structure GrW (w W : World) (d : V3) (c : Bx) : Prop where
  d : Blk W w.heap.size 23 #[.int .i64 d.x, .int .i64 d.y, .int .i64 d.z]
  b : Blk W (w.heap.size + 1) 27 #[.int .i64 c.b.x, .int .i64 c.b.y, .int .i64 c.b.z, .int .i64 c.s.x, .int .i64 c.s.y, .int .i64 c.s.z]
  o : Blk W (w.heap.size + 1 + 1) 27 #[.int .i64 0, .int .i64 0, .int .i64 0, .int .i64 0, .int .i64 0, .int .i64 0]
  hb : Below w.heap.size w W
theorem GrW.keep {w W W' : World} {d : V3} {c : Bx} (h : GrW w W d c) (hb : Below W.heap.size W W') : GrW w W' d c := ⟨h.d.below hb, h.b.below hb, h.o.below hb, below_then h.hb hb⟩
theorem steps_idx (N j : Nat) (hj : j < 6) : [stepF N 0, stepF N 1, stepF N 2, stepF N 3, stepF N 4, stepF N 5][j]'(by simpa using hj) = .func (.func 70) #[] #[.pointer (some ⟨N + 2 + 2 * j, 0, none⟩), .pointer (some ⟨N, 0, none⟩), .pointer (some ⟨N + 2 + 2 * j + 1, 0, none⟩)] := by
  match j, hj with
  | 0, _ => rfl
  | 1, _ => rfl
  | 2, _ => rfl
  | 3, _ => rfl
  | 4, _ => rfl
  | 5, _ => rfl
set_option maxRecDepth 100000 in set_option maxHeartbeats 4000000 in
theorem grow_Grown_ok (d : V3) (b : Bx) (bs : Option Addr) (cs : Nat) (ms : List Nat) (w : World) (R : Bx) (hs : SetIn w bs ms) (hz : growE d ms = 0) (hcb : chk d b = 0) (hf : clearS d ms b = true) (hR : growTo d ms 5000 (b.can d) = R) : Calls Try.prog 18 #[.agg #[.int .i64 d.x, .int .i64 d.y, .int .i64 d.z], .agg #[.int .i64 b.b.x, .int .i64 b.b.y, .int .i64 b.b.z, .int .i64 b.s.x, .int .i64 b.s.y, .int .i64 b.s.z], .slice bs ms.length cs] w (RB w (.tuple #[.agg #[.int .i64 R.b.x, .int .i64 R.b.y, .int .i64 R.b.z, .int .i64 R.s.x, .int .i64 R.s.y, .int .i64 R.s.z], .int .i64 0])) := by
  have HC := Lib.hid (fun W (hw : Below w.heap.size w W) => by have h := grow_checked d bs cs ms W (hs.keep hw); rw [show growN d ms = d.n from if_pos hz, hz] at h; exact h)
  have HK := Lib.hid (fun W => box_Canon_ok d b W hcb)
  have HFR := Lib.hid (fun (x : Bx) W (hw : Below w.heap.size w W) => grow_free d x bs cs ms W (hs.keep hw) (growE_0 hz).2)
  have HF := Lib.hid (fun W (hw : Below w.heap.size w W) => by have h := HFR.out (b.can d) W hw; rw [freeB_ok (growE_0 hz).1 (Bx.can_may (chk_may hcb).2), clear_can (growE_0 hz).1 (chk_may hcb).2, hf] at h; exact h)
  have hd := (growE_0 hz).1
  have hisC : (b.can d).isC d := can_isC (chk_may hcb).2
  have hcl : clearS d ms (b.can d) = true := by rw [clear_can hd (chk_may hcb).2]; exact hf
  have hvol := vol_le hd hisC.1
  generalize b.can d = c at *
  have HD := Lib.hid hd
  have HI := Lib.hid (And.intro hisC hcl)
  have HR := Lib.hid hR
  clear hs hz hcb hf hd hisC hcl hR
  go_enter Try.func18, Try.ntmps18
  go_wp2
  go_step3
  go_wp2_with fail
  refine (HC.out _ (by (repeat (first | (with_reducible exact Below.refl _ _) | (with_reducible assumption) | (with_reducible refine below_alloc ?_ _) | (with_reducible refine below_drewN ?_ _) | (with_reducible refine Below.drew ?_) | (with_reducible refine below_then ?_ (by with_reducible assumption)) | (with_reducible refine Below.setCell ?_ (by go_size) _))))).mono ?_
  rintro e w1 ⟨rfl, hb1⟩
  (have BD := ((((Blk.new w 23 #[.int .i64 d.x, .int .i64 d.y, .int .i64 d.z]).alloc (.cells #[.int .i64 b.b.x, .int .i64 b.b.y, .int .i64 b.b.z, .int .i64 b.s.x, .int .i64 b.s.y, .int .i64 b.s.z] 27)).alloc (.cells #[.int .i64 0, .int .i64 0, .int .i64 0, .int .i64 0, .int .i64 0, .int .i64 0] 27)).below hb1); have BB := ((Blk.new (w.alloc (.cells #[.int .i64 d.x, .int .i64 d.y, .int .i64 d.z] 23)) 27 #[.int .i64 b.b.x, .int .i64 b.b.y, .int .i64 b.b.z, .int .i64 b.s.x, .int .i64 b.s.y, .int .i64 b.s.z]).alloc (.cells #[.int .i64 0, .int .i64 0, .int .i64 0, .int .i64 0, .int .i64 0, .int .i64 0] 27)).below hb1; have BO := (Blk.new ((w.alloc (.cells #[.int .i64 d.x, .int .i64 d.y, .int .i64 d.z] 23)).alloc (.cells #[.int .i64 b.b.x, .int .i64 b.b.y, .int .i64 b.b.z, .int .i64 b.s.x, .int .i64 b.s.y, .int .i64 b.s.z] 27)) 27 #[.int .i64 0, .int .i64 0, .int .i64 0, .int .i64 0, .int .i64 0, .int .i64 0]).below hb1; simp only [World.size_alloc] at BB BO; have HB := below_then (show Below w.heap.size w (((w.alloc (.cells #[.int .i64 d.x, .int .i64 d.y, .int .i64 d.z] 23)).alloc (.cells #[.int .i64 b.b.x, .int .i64 b.b.y, .int .i64 b.b.z, .int .i64 b.s.x, .int .i64 b.s.y, .int .i64 b.s.z] 27)).alloc (.cells #[.int .i64 0, .int .i64 0, .int .i64 0, .int .i64 0, .int .i64 0, .int .i64 0] 27)) by (repeat (first | (with_reducible exact Below.refl _ _) | (with_reducible assumption) | (with_reducible refine below_alloc ?_ _) | (with_reducible refine below_drewN ?_ _) | (with_reducible refine Below.drew ?_) | (with_reducible refine below_then ?_ (by with_reducible assumption)) | (with_reducible refine Below.setCell ?_ (by go_size) _)))) hb1)
  have HBD := Lib.hid BD
  have HBB := Lib.hid BB
  have HBO := Lib.hid BO
  have HHB := Lib.hid HB
  have d0 := BD.cell 0 _ rfl
  have d1 := BD.cell 1 _ rfl
  have d2 := BD.cell 2 _ rfl
  have dl := BD.lt
  (have p0 := (BB).cell 0 _ rfl; have p1 := (BB).cell 1 _ rfl; have p2 := (BB).cell 2 _ rfl; have p3 := (BB).cell 3 _ rfl; have p4 := (BB).cell 4 _ rfl; have p5 := (BB).cell 5 _ rfl; have q0 := (BB).frozen 0; have q1 := (BB).frozen 1; have q2 := (BB).frozen 2; have q3 := (BB).frozen 3; have q4 := (BB).frozen 4; have q5 := (BB).frozen 5; have pl := (BB).lt)
  clear BD BB BO HB hb1
  go_wp2_with fail
  refine (HK.out _).mono ?_
  rintro e w2 ⟨rfl, hb2⟩
  have hBD := HBD.out.below hb2
  have hBB := HBB.out.below hb2
  have hBO := HBO.out.below hb2
  have hHB := below_then HHB.out hb2
  clear d0 d1 d2 dl p0 p1 p2 p3 p4 p5 q0 q1 q2 q3 q4 q5 pl
  (have p0 := (hBB).cell 0 _ rfl; have p1 := (hBB).cell 1 _ rfl; have p2 := (hBB).cell 2 _ rfl; have p3 := (hBB).cell 3 _ rfl; have p4 := (hBB).cell 4 _ rfl; have p5 := (hBB).cell 5 _ rfl; have q0 := (hBB).frozen 0; have q1 := (hBB).frozen 1; have q2 := (hBB).frozen 2; have q3 := (hBB).frozen 3; have q4 := (hBB).frozen 4; have q5 := (hBB).frozen 5; have pl := (hBB).lt)
  have dl := hBD.lt
  have HBD2 := Lib.hid (((((((hBD).other (w.heap.size + 1) 0 (.int .i64 c.b.x) (by omega)).other (w.heap.size + 1) 1 (.int .i64 c.b.y) (by omega)).other (w.heap.size + 1) 2 (.int .i64 c.b.z) (by omega)).other (w.heap.size + 1) 3 (.int .i64 c.s.x) (by omega)).other (w.heap.size + 1) 4 (.int .i64 c.s.y) (by omega)).other (w.heap.size + 1) 5 (.int .i64 c.s.z) (by omega))
  have HBB2 := Lib.hid (((((((hBB).set 0 (.int .i64 c.b.x)).set 1 (.int .i64 c.b.y)).set 2 (.int .i64 c.b.z)).set 3 (.int .i64 c.s.x)).set 4 (.int .i64 c.s.y)).set 5 (.int .i64 c.s.z))
  have HBO2 := Lib.hid (((((((hBO).other (w.heap.size + 1) 0 (.int .i64 c.b.x) (by omega)).other (w.heap.size + 1) 1 (.int .i64 c.b.y) (by omega)).other (w.heap.size + 1) 2 (.int .i64 c.b.z) (by omega)).other (w.heap.size + 1) 3 (.int .i64 c.s.x) (by omega)).other (w.heap.size + 1) 4 (.int .i64 c.s.y) (by omega)).other (w.heap.size + 1) 5 (.int .i64 c.s.z) (by omega))
  have HE2 := Lib.hid ((((((((hHB).setCell (p := ⟨(w.heap.size + 1), 0, none⟩) (show w.heap.size ≤ (w.heap.size + 1) by omega) (.int .i64 c.b.x)).setCell (p := ⟨(w.heap.size + 1), 1, none⟩) (show w.heap.size ≤ (w.heap.size + 1) by omega) (.int .i64 c.b.y)).setCell (p := ⟨(w.heap.size + 1), 2, none⟩) (show w.heap.size ≤ (w.heap.size + 1) by omega) (.int .i64 c.b.z)).setCell (p := ⟨(w.heap.size + 1), 3, none⟩) (show w.heap.size ≤ (w.heap.size + 1) by omega) (.int .i64 c.s.x)).setCell (p := ⟨(w.heap.size + 1), 4, none⟩) (show w.heap.size ≤ (w.heap.size + 1) by omega) (.int .i64 c.s.y)).setCell (p := ⟨(w.heap.size + 1), 5, none⟩) (show w.heap.size ≤ (w.heap.size + 1) by omega) (.int .i64 c.s.z)))
  have d0 := hBD.cell 0 _ rfl
  have d1 := hBD.cell 1 _ rfl
  have d2 := hBD.cell 2 _ rfl
  clear hBD hBB hBO hHB hb2 HBD HBB HBO HHB
  go_wp2_with fail
  refine (HF.out _ HE2.out).mono ?_
  rintro e w3 ⟨rfl, hb3⟩
  have HG := Lib.hid (show GrW w w3 d c from ⟨HBD2.out.below hb3, HBB2.out.below hb3, HBO2.out.below hb3, below_then HE2.out hb3⟩)
  clear d0 d1 d2 p0 p1 p2 p3 p4 p5 q0 q1 q2 q3 q4 q5 pl dl HBD2 HBB2 HBO2 HE2 hb3 HF HK HC
  go_wp2_with fail
  go_step3
  go_wp2_with fail
  go_loopg [] 4096 (fun gg wr => ∃ (x : Bx) (f : Nat), (x.isC d ∧ clearS d ms x = true) ∧ growTo d ms f x = R ∧ 4098 ≤ (f : Int) + x.vol ∧ 4096 - x.vol.toNat ≤ gg ∧ GrW w wr d x)
  case atStart => exact ⟨c, 5000, HI.out, HR.out, by omega, by omega, HG.out⟩
  case round =>
    clear HG HI HR hvol
    obtain ⟨x, f, hx, hgt, hfv, hgg, hG⟩ := hrel
    have HX := Lib.hid hx
    have HT := Lib.hid hgt
    have HG := Lib.hid hG
    have hV := vol_le HD.out hx.1.1
    have d0 := hG.d.cell 0 _ rfl
    have d1 := hG.d.cell 1 _ rfl
    have d2 := hG.d.cell 2 _ rfl
    clear hx hgt hG
    go_wp2_with fail
    refine (grow_steps d wr).mono ?_
    rintro e w4 ⟨rfl, hst, hb4⟩
    obtain ⟨N, hN⟩ : ∃ N, N = wr.heap.size := ⟨_, rfl⟩
    rw [← hN] at hst ⊢
    have HS4 := Lib.hid hst
    have HG4 := Lib.hid (HG.out.keep hb4)
    clear d0 d1 d2 hst hb4 HG hN
    go_wp2_with fail
    go_loopg [45] 6 (fun gi i wx => ∃ j : Nat, j ≤ 6 ∧ i = .int .i64 j ∧ 6 - j ≤ gi ∧ (∀ k, k < j → okJ d ms x k = false) ∧ GrW w wx d x ∧ StepsAt wx N d 6)
    case atStart => exact ⟨0, by omega, rfl, by omega, fun k hk => absurd hk (Nat.not_lt_zero _), HG4.out, HS4.out⟩
    case round =>
      clear HS4 HG4
      obtain ⟨j, hj, rfl, hgi, hno, hG, hst⟩ := hrel
      by_cases hlt : j < 6
      · have hj2 : j / 2 < 3 := by omega
        have hidx := steps_idx N j hlt
        have HStep := Lib.hid (fun W (hW : Below wr.heap.size wr W) => show Calls Try.prog 70 #[.agg #[.int .i64 x.b.x, .int .i64 x.b.y, .int .i64 x.b.z, .int .i64 x.s.x, .int .i64 x.s.y, .int .i64 x.s.z], .pointer (some ⟨N + 2 + 2 * j, 0, none⟩), .pointer (some ⟨N, 0, none⟩), .pointer (some ⟨N + 2 + 2 * j + 1, 0, none⟩)] W (RB W (.agg #[.int .i64 (stepJ d x j).b.x, .int .i64 (stepJ d x j).b.y, .int .i64 (stepJ d x j).b.z, .int .i64 (stepJ d x j).s.x, .int .i64 (stepJ d x j).s.y, .int .i64 (stepJ d x j).s.z])) from
          grow_step d x (j / 2) ((j : Int) % 2) (N + 2 + 2 * j) N (N + 2 + 2 * j + 1) W HD.out HX.out.1.1 hj2 (back_01 j) (by rw [show (((j / 2 : Nat) : Int)) = (j : Int) / 2 by omega]; exact (hst.keep hW).a j hlt) (hst.keep hW).d ((hst.keep hW).b j hlt))
        have HCan := Lib.hid (fun W => box_Canon d (stepJ d x j) W)
        have eg : ∀ args w, (callFunc 70 args).run Try.prog w = .ok (.enter 70 args) w := enters_of Try.func70 (by kernel_rfl) rfl
        have HOK := Lib.hid (show okJ d ms x j = (decide ((stepJ d x j).may d) && clearS d ms ((stepJ d x j).can d)) from rfl)
        have HNX := Lib.hid (fun h => nextJ_here (d := d) (s := ms) (b := x) hlt hno h)
        have HVL := Lib.hid (fun h => okJ_vol (s := ms) HD.out HX.out.1.1 hlt h)
        obtain ⟨y, hy⟩ : ∃ y, y = stepJ d x j := ⟨_, rfl⟩
        rw [← hy] at HStep HCan HOK HNX HVL
        have hcv : canV d y = if chk d y = 0 then y.can d else Bx.zero := rfl
        have HG := Lib.hid hG
        have HST := Lib.hid hst
        have HNO := Lib.hid hno
        have hd6 : decide ((j : Int) < 6) = true := decide_eq_true (by omega)
        have d0 := hG.d.cell 0 _ rfl
        have d1 := hG.d.cell 1 _ rfl
        have d2 := hG.d.cell 2 _ rfl
        have b0 := hG.b.cell 0 _ rfl
        have b1 := hG.b.cell 1 _ rfl
        have b2 := hG.b.cell 2 _ rfl
        have b3 := hG.b.cell 3 _ rfl
        have b4 := hG.b.cell 4 _ rfl
        have b5 := hG.b.cell 5 _ rfl
        have hdl := hG.d.lt
        have hbl := hG.b.lt
        generalize canV d y = cv at *
        generalize hce : chk d y = ce at *
        have HCV := Lib.hid hcv
        have HCE := Lib.hid hce
        clear hy hG hst hno hcv hce
        have nr0 : w.heap.size ≠ wr.heap.size := (by omega)
        have nr1 : w.heap.size + 1 ≠ wr.heap.size := (by omega)
        have nr2 : ¬ wr.heap.size = w.heap.size := (by omega)
        have nr3 : ¬ wr.heap.size = w.heap.size + 1 := (by omega)
        have mixed : Try.prog.follows .mixedOrders = true := by kernel_rfl
        go_upto_region 12 with fail
        go_cut [12, 13] (fun s12 s13 wx => ∃ cB, s12 = .pointer (some ⟨cB, 0, none⟩) ∧ s13 = .int .i64 ce ∧ Blk wx cB 27 #[.int .i64 cv.b.x, .int .i64 cv.b.y, .int .i64 cv.b.z, .int .i64 cv.s.x, .int .i64 cv.s.y, .int .i64 cv.s.z] ∧ Below wr.heap.size wr wx)
        case first =>
          go_region_held3 (fun W => W.cell? ⟨w.heap.size, 0, none⟩ = some (.int .i64 d.x) ∧ W.cell? ⟨w.heap.size, 1, none⟩ = some (.int .i64 d.y) ∧ W.cell? ⟨w.heap.size, 2, none⟩ = some (.int .i64 d.z) ∧ W.cell? ⟨w.heap.size + 1, 0, none⟩ = some (.int .i64 x.b.x) ∧ W.cell? ⟨w.heap.size + 1, 1, none⟩ = some (.int .i64 x.b.y) ∧ W.cell? ⟨w.heap.size + 1, 2, none⟩ = some (.int .i64 x.b.z) ∧ W.cell? ⟨w.heap.size + 1, 3, none⟩ = some (.int .i64 x.s.x) ∧ W.cell? ⟨w.heap.size + 1, 4, none⟩ = some (.int .i64 x.s.y) ∧ W.cell? ⟨w.heap.size + 1, 5, none⟩ = some (.int .i64 x.s.z)) (go_keep)
            (first
              | (go_at_call 70; (with_reducible refine (HStep.out _ (by (repeat (first | (with_reducible exact Below.refl _ _) | (with_reducible assumption) | (with_reducible refine below_alloc ?_ _) | (with_reducible refine below_drewN ?_ _) | (with_reducible refine Below.drew ?_) | (with_reducible refine below_then ?_ (by with_reducible assumption)) | (with_reducible refine Below.setCell ?_ (by go_size) _))))).mono ?_); rintro e wa ⟨rfl, hba⟩; have HBa := below_then (show Below wr.heap.size wr _ by (repeat (first | (with_reducible exact Below.refl _ _) | (with_reducible assumption) | (with_reducible refine below_alloc ?_ _) | (with_reducible refine below_drewN ?_ _) | (with_reducible refine Below.drew ?_) | (with_reducible refine below_then ?_ (by with_reducible assumption)) | (with_reducible refine Below.setCell ?_ (by go_size) _)))) hba; have GA := HG.out.keep HBa; have da0 := GA.d.cell 0 _ rfl; have da1 := GA.d.cell 1 _ rfl; have da2 := GA.d.cell 2 _ rfl; have ba0 := GA.b.cell 0 _ rfl; have ba1 := GA.b.cell 1 _ rfl; have ba2 := GA.b.cell 2 _ rfl; have ba3 := GA.b.cell 3 _ rfl; have ba4 := GA.b.cell 4 _ rfl; have ba5 := GA.b.cell 5 _ rfl; have hsa := HBa.size; have dal := GA.d.lt; have bal := GA.b.lt; have na0 : w.heap.size ≠ wa.heap.size := (by omega); have na1 : w.heap.size + 1 ≠ wa.heap.size := (by omega); have na2 : ¬ wa.heap.size = w.heap.size := (by omega); have na3 : ¬ wa.heap.size = w.heap.size + 1 := (by omega); (try have ZA := (show Blk wa wr.heap.size 27 #[.int .i64 0, .int .i64 0, .int .i64 0, .int .i64 0, .int .i64 0, .int .i64 0] from (by first | exact ((Blk.new wr _ _).drew).below hba | exact (Blk.new wr.drew _ _).below hba))))
              | (go_at_call 13; (with_reducible refine (HCan.out _).mono ?_); rintro e wb ⟨rfl, hbb⟩; have HBb := below_then (show Below wr.heap.size wr _ by (repeat (first | (with_reducible exact Below.refl _ _) | (with_reducible assumption) | (with_reducible refine below_alloc ?_ _) | (with_reducible refine below_drewN ?_ _) | (with_reducible refine Below.drew ?_) | (with_reducible refine below_then ?_ (by with_reducible assumption)) | (with_reducible refine Below.setCell ?_ (by go_size) _)))) hbb; have GB := HG.out.keep HBb; have db0 := GB.d.cell 0 _ rfl; have db1 := GB.d.cell 1 _ rfl; have db2 := GB.d.cell 2 _ rfl; have bb0 := GB.b.cell 0 _ rfl; have bb1 := GB.b.cell 1 _ rfl; have bb2 := GB.b.cell 2 _ rfl; have bb3 := GB.b.cell 3 _ rfl; have bb4 := GB.b.cell 4 _ rfl; have bb5 := GB.b.cell 5 _ rfl; have dbl := GB.d.lt; have bbl := GB.b.lt; have nb0 : w.heap.size ≠ wb.heap.size := (by omega); have nb1 : w.heap.size + 1 ≠ wb.heap.size := (by omega); have nb2 : ¬ wb.heap.size = w.heap.size := (by omega); have nb3 : ¬ wb.heap.size = w.heap.size + 1 := (by omega); (try (have ZB1 := (show Blk wb wr.heap.size 27 #[.int .i64 0, .int .i64 0, .int .i64 0, .int .i64 0, .int .i64 0, .int .i64 0] from ZA.below hbb); have zb0 := ZB1.cell 0 _ rfl; have zb1 := ZB1.cell 1 _ rfl; have zb2 := ZB1.cell 2 _ rfl; have zb3 := ZB1.cell 3 _ rfl; have zb4 := ZB1.cell 4 _ rfl; have zb5 := ZB1.cell 5 _ rfl; have zbf0 := ZB1.frozen 0; have zbf1 := ZB1.frozen 1; have zbf2 := ZB1.frozen 2; have zbf3 := ZB1.frozen 3; have zbf4 := ZB1.frozen 4; have zbf5 := ZB1.frozen 5; have zbl := ZB1.lt)); (try (have ZB2 := (show Blk wb wa.heap.size 27 #[.int .i64 0, .int .i64 0, .int .i64 0, .int .i64 0, .int .i64 0, .int .i64 0] from (Blk.new wa _ _).below hbb); have zc0 := ZB2.cell 0 _ rfl; have zc1 := ZB2.cell 1 _ rfl; have zc2 := ZB2.cell 2 _ rfl; have zc3 := ZB2.cell 3 _ rfl; have zc4 := ZB2.cell 4 _ rfl; have zc5 := ZB2.cell 5 _ rfl; have zcf0 := ZB2.frozen 0; have zcf1 := ZB2.frozen 1; have zcf2 := ZB2.frozen 2; have zcf3 := ZB2.frozen 3; have zcf4 := ZB2.frozen 4; have zcf5 := ZB2.frozen 5; have zcl := ZB2.lt))))
          all_goals
            go_wp2_with fail
            go_meet
            first
              | exact ⟨wr.heap.size, rfl, rfl, (((((((ZB1).set 0 (.int .i64 cv.b.x)).set 1 (.int .i64 cv.b.y)).set 2 (.int .i64 cv.b.z)).set 3 (.int .i64 cv.s.x)).set 4 (.int .i64 cv.s.y)).set 5 (.int .i64 cv.s.z)), ((((((((HBb).setCell (p := ⟨wr.heap.size, 0, none⟩) (show wr.heap.size ≤ wr.heap.size by omega) (.int .i64 cv.b.x)).setCell (p := ⟨wr.heap.size, 1, none⟩) (show wr.heap.size ≤ wr.heap.size by omega) (.int .i64 cv.b.y)).setCell (p := ⟨wr.heap.size, 2, none⟩) (show wr.heap.size ≤ wr.heap.size by omega) (.int .i64 cv.b.z)).setCell (p := ⟨wr.heap.size, 3, none⟩) (show wr.heap.size ≤ wr.heap.size by omega) (.int .i64 cv.s.x)).setCell (p := ⟨wr.heap.size, 4, none⟩) (show wr.heap.size ≤ wr.heap.size by omega) (.int .i64 cv.s.y)).setCell (p := ⟨wr.heap.size, 5, none⟩) (show wr.heap.size ≤ wr.heap.size by omega) (.int .i64 cv.s.z)))⟩
              | exact ⟨wa.heap.size, rfl, rfl, (((((((ZB2).set 0 (.int .i64 cv.b.x)).set 1 (.int .i64 cv.b.y)).set 2 (.int .i64 cv.b.z)).set 3 (.int .i64 cv.s.x)).set 4 (.int .i64 cv.s.y)).set 5 (.int .i64 cv.s.z)), ((((((((HBb).setCell (p := ⟨wa.heap.size, 0, none⟩) (show wr.heap.size ≤ wa.heap.size by omega) (.int .i64 cv.b.x)).setCell (p := ⟨wa.heap.size, 1, none⟩) (show wr.heap.size ≤ wa.heap.size by omega) (.int .i64 cv.b.y)).setCell (p := ⟨wa.heap.size, 2, none⟩) (show wr.heap.size ≤ wa.heap.size by omega) (.int .i64 cv.b.z)).setCell (p := ⟨wa.heap.size, 3, none⟩) (show wr.heap.size ≤ wa.heap.size by omega) (.int .i64 cv.s.x)).setCell (p := ⟨wa.heap.size, 4, none⟩) (show wr.heap.size ≤ wa.heap.size by omega) (.int .i64 cv.s.y)).setCell (p := ⟨wa.heap.size, 5, none⟩) (show wr.heap.size ≤ wa.heap.size by omega) (.int .i64 cv.s.z)))⟩
              | exact ⟨wb.heap.size, rfl, rfl, Blk.new wb _ _, below_alloc HBb _⟩
        case rest =>
          obtain ⟨cB, rfl, rfl, hcB, hwb⟩ := hcut
          have hGc := HG.out.keep hwb
          have HGc := Lib.hid hGc
          have HSc := Lib.hid (HST.out.keep hwb)
          clear d0 d1 d2 b0 b1 b2 b3 b4 b5 hdl hbl nr0 nr1 nr2 nr3 HG HST hwb HStep HCan
          have d0 := hGc.d.cell 0 _ rfl
          have d1 := hGc.d.cell 1 _ rfl
          have d2 := hGc.d.cell 2 _ rfl
          have c0 := hcB.cell 0 _ rfl
          have c1 := hcB.cell 1 _ rfl
          have c2 := hcB.cell 2 _ rfl
          have c3 := hcB.cell 3 _ rfl
          have c4 := hcB.cell 4 _ rfl
          have c5 := hcB.cell 5 _ rfl
          have HCB := Lib.hid hcB
          clear hGc hcB
          by_cases hm : y.may d
          · have h0 : ce = 0 := by rw [← HCE.out]; exact chk_of HD.out hm
            subst h0
            have hcv : cv = y.can d := by rw [HCV.out, if_pos rfl]
            have HFc := Lib.hid (fun W (hW : Below wc.heap.size wc W) => by have h := HFR.out cv W (below_then HGc.out.hb hW); rw [freeB_ok HD.out (by rw [hcv]; exact Bx.can_may hm)] at h; exact h)
            have hok : okJ d ms x j = clearS d ms cv := by rw [HOK.out, decide_eq_true hm, Bool.true_and, hcv]
            cases hfr : clearS d ms cv with
            | false =>
              have HN2 := Lib.hid (show ∀ k, k < j + 1 → okJ d ms x k = false from fun k hk => by
                by_cases e : k = j
                · subst e; rw [hok]; exact hfr
                · exact HNO.out k (by omega))
              rw [hfr] at HFc
              clear hok hcv hfr hm
              go_wp2_with fail
              refine (HFc.out _ (Below.refl _ _)).mono ?_
              rintro e w5 ⟨rfl, hb5⟩
              have HG5 := Lib.hid (HGc.out.keep hb5)
              have HS5 := Lib.hid (HSc.out.keep hb5)
              clear hb5 d0 d1 d2 c0 c1 c2 c3 c4 c5
              go_wp2_with fail
              go_roundg (6 - (j + 1))
              case measure => omega
              case rel => exact ⟨j + 1, by omega, by go_num, by omega, HN2.out, HG5.out, HS5.out⟩
            | true =>
              have hn := HNX.out (hok.trans hfr)
              obtain ⟨v1, v2, v3⟩ := HVL.out (hok.trans hfr)
              rw [← hcv] at hn v1 v2 v3
              have hv4 := vol_le HD.out v1.1
              obtain ⟨f', rfl⟩ : ∃ f', f = f' + 1 := ⟨f - 1, by omega⟩
              have HT2 := Lib.hid ((growTo_some hn f').symm.trans HT.out)
              have HV2 := Lib.hid (And.intro v1 v2)
              rw [hfr] at HFc
              clear hok hcv hfr hm hn v1 v2 HT
              go_wp2_with fail
              refine (HFc.out _ (Below.refl _ _)).mono ?_
              rintro e w5 ⟨rfl, hb5⟩
              have hG5 := HGc.out.keep hb5
              have hC5 := HCB.out.below hb5
              have HG5 := Lib.hid (show GrW w _ d cv from ⟨(((((((hG5.d).other (w.heap.size + 1) 0 (.int .i64 cv.b.x) (by omega)).other (w.heap.size + 1) 1 (.int .i64 cv.b.y) (by omega)).other (w.heap.size + 1) 2 (.int .i64 cv.b.z) (by omega)).other (w.heap.size + 1) 3 (.int .i64 cv.s.x) (by omega)).other (w.heap.size + 1) 4 (.int .i64 cv.s.y) (by omega)).other (w.heap.size + 1) 5 (.int .i64 cv.s.z) (by omega)), (((((((hG5.b).set 0 (.int .i64 cv.b.x)).set 1 (.int .i64 cv.b.y)).set 2 (.int .i64 cv.b.z)).set 3 (.int .i64 cv.s.x)).set 4 (.int .i64 cv.s.y)).set 5 (.int .i64 cv.s.z)), (((((((hG5.o).other (w.heap.size + 1) 0 (.int .i64 cv.b.x) (by omega)).other (w.heap.size + 1) 1 (.int .i64 cv.b.y) (by omega)).other (w.heap.size + 1) 2 (.int .i64 cv.b.z) (by omega)).other (w.heap.size + 1) 3 (.int .i64 cv.s.x) (by omega)).other (w.heap.size + 1) 4 (.int .i64 cv.s.y) (by omega)).other (w.heap.size + 1) 5 (.int .i64 cv.s.z) (by omega)), ((((((((hG5.hb).setCell (p := ⟨(w.heap.size + 1), 0, none⟩) (show w.heap.size ≤ (w.heap.size + 1) by omega) (.int .i64 cv.b.x)).setCell (p := ⟨(w.heap.size + 1), 1, none⟩) (show w.heap.size ≤ (w.heap.size + 1) by omega) (.int .i64 cv.b.y)).setCell (p := ⟨(w.heap.size + 1), 2, none⟩) (show w.heap.size ≤ (w.heap.size + 1) by omega) (.int .i64 cv.b.z)).setCell (p := ⟨(w.heap.size + 1), 3, none⟩) (show w.heap.size ≤ (w.heap.size + 1) by omega) (.int .i64 cv.s.x)).setCell (p := ⟨(w.heap.size + 1), 4, none⟩) (show w.heap.size ≤ (w.heap.size + 1) by omega) (.int .i64 cv.s.y)).setCell (p := ⟨(w.heap.size + 1), 5, none⟩) (show w.heap.size ≤ (w.heap.size + 1) by omega) (.int .i64 cv.s.z)))⟩)
              clear d0 d1 d2 c0 c1 c2 c3 c4 c5
              have c0 := hC5.cell 0 _ rfl
              have c1 := hC5.cell 1 _ rfl
              have c2 := hC5.cell 2 _ rfl
              have c3 := hC5.cell 3 _ rfl
              have c4 := hC5.cell 4 _ rfl
              have c5 := hC5.cell 5 _ rfl
              have cl := hC5.lt
              (have p0 := (hG5.b).cell 0 _ rfl; have p1 := (hG5.b).cell 1 _ rfl; have p2 := (hG5.b).cell 2 _ rfl; have p3 := (hG5.b).cell 3 _ rfl; have p4 := (hG5.b).cell 4 _ rfl; have p5 := (hG5.b).cell 5 _ rfl; have q0 := (hG5.b).frozen 0; have q1 := (hG5.b).frozen 1; have q2 := (hG5.b).frozen 2; have q3 := (hG5.b).frozen 3; have q4 := (hG5.b).frozen 4; have q5 := (hG5.b).frozen 5; have pl := (hG5.b).lt)
              clear hb5 hG5 hC5
              go_wp2_with fail
              go_roundg (4096 - cv.vol.toNat)
              case measure => omega
              case rel => exact ⟨cv, f', HV2.out, HT2.out, by omega, Nat.le_refl _, HG5.out⟩
          · have h2 : ¬ ce = 0 := fun h => hm (chk_may (HCE.out.trans h)).2
            have hy2 : (ce == 0) = false := by simpa using h2
            have hok : okJ d ms x j = false := by rw [HOK.out, decide_eq_false hm, Bool.false_and]
            have HN2 := Lib.hid (show ∀ k, k < j + 1 → okJ d ms x k = false from fun k hk => by
              by_cases e : k = j
              · subst e; exact hok
              · exact HNO.out k (by omega))
            clear hok hm h2
            go_wp2_with fail
            go_roundg (6 - (j + 1))
            case measure => omega
            case rel => exact ⟨j + 1, by omega, by go_num, by omega, HN2.out, HGc.out, HSc.out⟩
      · obtain rfl : j = 6 := by omega
        have HXR := Lib.hid ((growTo_none (nextJ_no hno) f).symm.trans HT.out)
        have HR2 := Lib.hid (((((((hG.o).set 0 (.int .i64 x.b.x)).set 1 (.int .i64 x.b.y)).set 2 (.int .i64 x.b.z)).set 3 (.int .i64 x.s.x)).set 4 (.int .i64 x.s.y)).set 5 (.int .i64 x.s.z))
        have HE2 := Lib.hid ((((((((hG.hb).setCell (p := ⟨(w.heap.size + 1 + 1), 0, none⟩) (show w.heap.size ≤ (w.heap.size + 1 + 1) by omega) (.int .i64 x.b.x)).setCell (p := ⟨(w.heap.size + 1 + 1), 1, none⟩) (show w.heap.size ≤ (w.heap.size + 1 + 1) by omega) (.int .i64 x.b.y)).setCell (p := ⟨(w.heap.size + 1 + 1), 2, none⟩) (show w.heap.size ≤ (w.heap.size + 1 + 1) by omega) (.int .i64 x.b.z)).setCell (p := ⟨(w.heap.size + 1 + 1), 3, none⟩) (show w.heap.size ≤ (w.heap.size + 1 + 1) by omega) (.int .i64 x.s.x)).setCell (p := ⟨(w.heap.size + 1 + 1), 4, none⟩) (show w.heap.size ≤ (w.heap.size + 1 + 1) by omega) (.int .i64 x.s.y)).setCell (p := ⟨(w.heap.size + 1 + 1), 5, none⟩) (show w.heap.size ≤ (w.heap.size + 1 + 1) by omega) (.int .i64 x.s.z)))
        have b0 := hG.b.cell 0 _ rfl
        have b1 := hG.b.cell 1 _ rfl
        have b2 := hG.b.cell 2 _ rfl
        have b3 := hG.b.cell 3 _ rfl
        have b4 := hG.b.cell 4 _ rfl
        have b5 := hG.b.cell 5 _ rfl
        (have o0 := (hG.o).cell 0 _ rfl; have o1 := (hG.o).cell 1 _ rfl; have o2 := (hG.o).cell 2 _ rfl; have o3 := (hG.o).cell 3 _ rfl; have o4 := (hG.o).cell 4 _ rfl; have o5 := (hG.o).cell 5 _ rfl; have q0 := (hG.o).frozen 0; have q1 := (hG.o).frozen 1; have q2 := (hG.o).frozen 2; have q3 := (hG.o).frozen 3; have q4 := (hG.o).frozen 4; have q5 := (hG.o).frozen 5; have ol := (hG.o).lt)
        clear hG hst hno
        go_wp2_with fail
        (have r0 := (HR2.out).cell 0 _ rfl; have r1 := (HR2.out).cell 1 _ rfl; have r2 := (HR2.out).cell 2 _ rfl; have r3 := (HR2.out).cell 3 _ rfl; have r4 := (HR2.out).cell 4 _ rfl; have r5 := (HR2.out).cell 5 _ rfl; (try rw [Exit.noGoto_ret]); refine bodyPost_ret (by simp [results, Try.results18, go_sem, r0, r1, r2, r3, r4, r5]; try rfl) rfl ?_)
        exact ⟨by rw [← HXR.out], HE2.out⟩
end
end Go.Proofs.Ytofoenlhbmammaa
