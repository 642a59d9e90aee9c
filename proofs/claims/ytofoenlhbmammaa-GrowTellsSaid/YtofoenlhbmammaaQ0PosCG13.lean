/- POS: coordinates of a midplane; the midplane at coordinates. -/
import Derived.RangeFuncFrom
import Derived.IntWalk
import Derived.Test.YtofoenlhbmammaaQ0BlkG13
import Derived.Test.YtofoenlhbmammaaQ0PosNG13
import Derived.Test.YtofoenlhbmammaaQ0RoundG13
set_option linter.unusedVariables false
set_option linter.unusedSimpArgs false
namespace Go.Proofs.Ytofoenlhbmammaa

section
section
open Go.RowKit Go.Shelf
attribute [local go_sem] Oper.semAt_some

theorem Keep2.setCell {n₀ B : Nat} {W : World} {b k : Nat} (v : Value) (h : n₀ ≤ b) (hne : B ≠ b) : Keep2 n₀ B W (W.setCell ⟨b, k, none⟩ v) :=
  ⟨(Below.refl n₀ W).setCell (p := ⟨b, k, none⟩) h v, Below.heap_setCell W ⟨b, k, none⟩ v B hne⟩
theorem Keep2.drew {n₀ B : Nat} {W W' : World} (h : Keep2 n₀ B W W') : Keep2 n₀ B W W'.drew := ⟨h.1.drew, h.2⟩
theorem Keep2.refl (n₀ B : Nat) (W : World) : Keep2 n₀ B W W := ⟨Below.refl _ _, rfl⟩

/-- One coordinate, as it is found. -/
def V3.co (d : V3) (m : Int) (k : Nat) : Int := m / d.by k % d.at k
/-- Those that have been found. -/
def V3.got (d : V3) (m : Int) (pre : List (Fin 3)) (k : Fin 3) : Int := if k ∈ pre then d.co m k.1 else 0
def V3.gots (d : V3) (m : Int) (pre : List (Fin 3)) : Array Value := #[.int .i64 (d.got m pre 0), .int .i64 (d.got m pre 1), .int .i64 (d.got m pre 2)]
theorem V3.gots_snoc (d : V3) (m : Int) (pre : List (Fin 3)) (x : Fin 3) : (d.gots m pre).setIfInBounds x.1 (.int .i64 (d.co m x.1)) = d.gots m (pre ++ [x]) := by
  have h0 : ∀ y : Fin 3, d.got m (pre ++ [x]) y = if y = x then d.co m x.1 else d.got m pre y := by
    intro y
    unfold V3.got
    by_cases e : y = x
    · subst e; simp
    · simp [e]
  unfold V3.gots
  rw [h0, h0, h0]
  match x with
  | ⟨0, _⟩ => rfl
  | ⟨1, _⟩ => rfl
  | ⟨2, _⟩ => rfl
theorem V3.gots_nil (d : V3) (m : Int) : d.gots m [] = #[.int .i64 0, .int .i64 0, .int .i64 0] := by simp [V3.gots, V3.got]
theorem V3.by_pos {d : V3} (h : d.may) (k : Nat) (hk : k < 3) : 1 ≤ d.by k := by
  have := V3.xy_le h
  unfold V3.may at h
  match k, hk with
  | 0, _ => simp [V3.by]
  | 1, _ => simp only [V3.by]; omega
  | 2, _ => simp only [V3.by]; omega
theorem V3.at_pos {d : V3} (h : d.may) (k : Nat) (hk : k < 3) : 1 ≤ d.at k ∧ d.at k ≤ 16 := by
  unfold V3.may at h
  match k, hk with
  | 0, _ => exact h.1
  | 1, _ => exact h.2.1
  | 2, _ => exact h.2.2
theorem V3.co_pos {d : V3} {m : Int} (h : d.may) (h0 : 0 ≤ m) (h1 : m < d.n) : d.co m 0 = (d.pos m).x ∧ d.co m 1 = (d.pos m).y ∧ d.co m 2 = (d.pos m).z := by
  have hxy := V3.xy_le h
  unfold V3.may at h
  unfold V3.n at h1
  unfold V3.co V3.pos
  simp only [V3.by, V3.at0, V3.at1, V3.at2, Int.ediv_one]
  refine ⟨trivial, trivial, ?_⟩
  rw [show m / (d.x * d.y) = m / d.x / d.y from by first | exact (Int.ediv_ediv_of_nonneg (by omega)).symm | exact (Int.ediv_ediv_eq_ediv_mul _ (by omega)).symm | (rw [Int.ediv_ediv, if_neg (by omega)]; omega)]
  refine Int.emod_eq_of_lt (Int.ediv_nonneg (Int.ediv_nonneg h0 (by omega)) (by omega)) (Int.ediv_lt_of_lt_mul (by omega) (Int.ediv_lt_of_lt_mul (by omega) ?_))
  rw [show d.z * d.y * d.x = d.x * d.y * d.z by simp only [Int.mul_comm, Int.mul_left_comm, Int.mul_assoc]]
  exact h1
theorem V3.gots_all {d : V3} {m : Int} (h : d.may) (h0 : 0 ≤ m) (h1 : m < d.n) : d.gots m (ways 3) = #[.int .i64 (d.pos m).x, .int .i64 (d.pos m).y, .int .i64 (d.pos m).z] := by
  obtain ⟨e0, e1, e2⟩ := V3.co_pos h h0 h1
  unfold V3.gots V3.got
  simp only [ways, ← e0, ← e1, ← e2]
  rfl
theorem V3.gots_at (d : V3) (m : Int) (pre : List (Fin 3)) (x : Fin 3) : (d.gots m pre)[x.1]? = some (.int .i64 (d.got m pre x)) := by
  match x with
  | ⟨0, _⟩ => rfl
  | ⟨1, _⟩ => rfl
  | ⟨2, _⟩ => rfl

set_option maxRecDepth 100000 in set_option maxHeartbeats 4000000 in
theorem pos_Of_ok (d : V3) (m : Int) (w : World) (hd : d.may) (h0 : 0 ≤ m) (h1 : m < d.n) :
    Calls Try.prog 58 #[.agg #[.int .i64 d.x, .int .i64 d.y, .int .i64 d.z], .int .i64 m] w (RB w (.tuple #[.agg #[.int .i64 (d.pos m).x, .int .i64 (d.pos m).y, .int .i64 (d.pos m).z], .int .i64 0])) := by
  have HM := Lib.hid (fun W => by have := pos_Many d W; rw [V3.many_ok hd, V3.err_ok hd] at this; exact this)
  have HD := Lib.hid hd
  have hn := V3.n_le hd
  have HG := Lib.hid (V3.gots_all hd h0 h1)
  clear hd
  refine (callsIn_wide (n := 12)).1 ?_
  refine callsIn_of_wp_marks Try.func58 rfl trivial ?_ rfl
  simp only [Try.ntmps58, List.size_toArray, List.length_cons, List.length_nil, Nat.reduceAdd, Nat.reduceSub, Array.replicate_succ, Array.replicate_zero, List.push_toArray, List.append_toArray, List.nil_append, List.cons_append]
  have hm0 : decide (m < 0) = false := by rw [decide_eq_false_iff_not]; omega
  have hm1 : decide (d.n ≤ m) = false := by rw [decide_eq_false_iff_not]; omega
  gi_wp2_with (refine ⟨trivial, ?_⟩; (with_reducible refine (callsIn_wide.2 (HM.out _)).mono ?_); rintro e w1 ⟨rfl, hb1⟩; (obtain ⟨hc1, hf1⟩ := bcell hb1; have hz1 := hb1.size; (try simp at hz1); have hB : Below w.heap.size w w1 := (by (repeat (first | (with_reducible exact Below.refl _ _) | (with_reducible assumption) | (with_reducible refine below_alloc ?_ _) | (with_reducible refine below_drewN ?_ _) | (with_reducible refine Below.drew ?_) | (with_reducible refine below_then ?_ (by with_reducible assumption)) | (with_reducible refine Below.setCell ?_ (by go_size) _)))); obtain ⟨hcB, hfB⟩ := bcell hB; (try have z0 : w.heap.size < w1.heap.size := by omega); (try have z1 : w.heap.size + 1 < w1.heap.size := by omega); (try have z2 : w.heap.size + 2 < w1.heap.size := by omega); (try have z3 : w.heap.size + 3 < w1.heap.size := by omega)))
  have HB := Lib.hid hB
  have BD : Blk w1 w.heap.size 23 #[.int .i64 d.x, .int .i64 d.y, .int .i64 d.z] := (((Blk.new w _ _).alloc _).alloc _).below hb1
  have BM : Blk w1 (w.heap.size + 1) 3 #[.int .i64 m] := by
    have := ((Blk.new (w.alloc (.cells #[.int .i64 d.x, .int .i64 d.y, .int .i64 d.z] 23)) 3 #[.int .i64 m]).alloc (.cells #[.int .i64 0, .int .i64 0, .int .i64 0] 22)).below hb1
    simpa using this
  have BP : Blk w1 (w.heap.size + 1 + 1) 22 (d.gots m []) := by
    have := (Blk.new ((w.alloc (.cells #[.int .i64 d.x, .int .i64 d.y, .int .i64 d.z] 23)).alloc (.cells #[.int .i64 m] 3)) 22 #[.int .i64 0, .int .i64 0, .int .i64 0]).below hb1
    rw [V3.gots_nil]
    simpa using this
  have hs1 : w.heap.size + 1 + 1 < w1.heap.size := by have := BP.lt; omega
  have BD := Lib.hid BD
  have BM := Lib.hid BM
  have BP := Lib.hid BP
  clear hB hcB hfB hc1 hf1 hb1
  gi_wp2_with (refine ⟨trivial, ?_⟩; refine (strides_in _ _ trivial rfl d _).mono ?_; rintro e w2 ⟨rfl, rfl⟩)
  have hbS : DimsAt (w1.alloc (.cells #[.int .i64 d.x, .int .i64 d.y, .int .i64 d.z] 23)) w1.heap.size d := (Blk.new w1 _ _).dims
  refine wpIn_rangeFunc_ownF rfl (by omega) (gf := 80) (lb := #[.pointer (some ⟨w1.heap.size, 0, none⟩)]) rfl trivial (enters_of Try.func80 (by kernel_rfl) rfl)
    (strides_stops Fence.wide _ trivial rfl (by omega) w1.heap.size w.heap.size d HD.out _ (by simp) hbS) keep2_t (keep2_b (by simp; omega) (by simp)) (Below.refl _ _) (fun _ => rfl)
    (fun pre W => (Blk W (w.heap.size + 1 + 1) 22 (d.gots m pre) ∧ Blk W w.heap.size 23 #[.int .i64 d.x, .int .i64 d.y, .int .i64 d.z] ∧ Blk W (w.heap.size + 1) 3 #[.int .i64 m]) ∧ Below w.heap.size w W)
    (fun _ _ _ => False)
    (OwnFrom.and (Own.from (fun s A B row hs hg hr => ⟨hs.1.own hg hr, hs.2.1.own hg hr, hs.2.2.own hg hr⟩) _) (ownFrom_below (Nat.le_refl _) (by simp; omega)))
    (fun _ _ _ _ _ hs _ _ => hs)
    ⟨⟨BP.out.alloc _, BD.out.alloc _, BM.out.alloc _⟩, below_alloc HB.out _⟩
    (fun x => { tmps := #[.agg #[.int .i64 d.x, .int .i64 d.y, .int .i64 d.z], .int .i64 m, .pointer (some ⟨w.heap.size, 0, none⟩), .pointer (some ⟨w.heap.size + 1, 0, none⟩), .pointer (some ⟨w.heap.size + 1 + 1, 0, none⟩), .int .i64 0, .int .i64 d.n, .int .i64 (x.1 : Int), .int .i64 (d.by x.1),
      .tuple #[.int .i64 d.n, .int .i64 0], .agg #[.int .i64 d.x, .int .i64 d.y, .int .i64 d.z], .tuple #[.int .i64 d.n, .int .i64 0], .int .i64 d.n, .int .i64 0, .bool false, .int .i64 0, .bool false, undef, undef, .bool false, .int .i64 m, .bool false, .bool false, .int .i64 m, .int .i64 d.n, .bool false, .bool false, undef,
      .agg #[.int .i64 d.x, .int .i64 d.y, .int .i64 d.z], .func (.func 80) #[] #[.pointer (some ⟨w1.heap.size, 0, none⟩)], .int .i64 (x.1 : Int), .int .i64 (d.by x.1), undef, undef, undef, undef, undef, undef, undef, undef, undef, undef], defers := [] }) ?assign ?body ?done ?stop
  case assign =>
    intro l x W K hK
    gi_wp2
    exact hK
  case body =>
    rintro l pre x W ⟨⟨hP, hD, hM⟩, hB⟩ hlen
    have hmx : Try.prog.follows .mixedOrders = true := by kernel_rfl
    have c1 := hM.cell 0 _ rfl
    have HP := Lib.hid hP
    have HB2 := Lib.hid hB
    have HDD := Lib.hid hD
    have HMM := Lib.hid hM
    obtain ⟨c00, c01, c02⟩ := hD.dims
    have p0 := V3.by_pos HD.out
    have p1 := V3.at_pos HD.out
    obtain ⟨b0, b1⟩ := And.intro (p0 1 (by omega)) (p0 2 (by omega))
    obtain ⟨a0, a1, a2⟩ := And.intro (p1 0 (by omega)) (And.intro (p1 1 (by omega)) (p1 2 (by omega)))
    simp only [V3.by, V3.at0, V3.at1, V3.at2] at b0 b1 a0 a1 a2
    have q1 : 0 ≤ m / d.x := Int.ediv_nonneg h0 (by omega)
    have q2 : 0 ≤ m / (d.x * d.y) := Int.ediv_nonneg h0 (by omega)
    clear p0 p1 hP hB hD hM hbS HG hm0 hm1
    have HV := Lib.hid (show d.co m 0 = m % d.x ∧ d.co m 1 = m / d.x % d.y ∧ d.co m 2 = m / (d.x * d.y) % d.z from ⟨by simp [V3.co, V3.by], by simp [V3.co, V3.by], by simp [V3.co, V3.by]⟩)
    have g1 : m / d.x ≤ 4096 := Int.le_trans (Int.ediv_le_self _ h0) (by omega)
    have g2 : m / (d.x * d.y) ≤ 4096 := Int.le_trans (Int.ediv_le_self _ h0) (by omega)
    match x with
    | ⟨0, _⟩ =>
      have c2 := HP.out.cell 0 _ rfl
      have f2 := HP.out.frozen 0
      have r0 := Int.emod_nonneg (m) (b := d.x) (by omega)
      have r1 := Int.emod_lt_of_pos (m) (b := d.x) (by omega)
      have t1 : m.tdiv 1 = m := Int.tdiv_one m
      have t2 : IntKind.i64.wrap (m) = m := IntWalk.i64_in _ (by omega)
      have t3 : (m).tmod d.x = (m) % d.x := Int.tmod_eq_emod_of_nonneg h0
      have t4 : IntKind.i64.wrap ((m) % d.x) = (m) % d.x := IntWalk.i64_in _ (by omega)
      have t5 : ¬ d.x = 0 := by omega
      simp only [V3.by]
      gi_wp2
      (refine wpIn_round_tail 9 (by kernel_rfl) (by kernel_rfl) (by kernel_rfl) (fun ⟨_, _, h⟩ => h) ?_; simp only [List.take_succ_cons, List.take_zero, List.drop_succ_cons, List.drop_zero]; (repeat still_step); refine wpStill_nil ?_)
      go_wp2
      refine ⟨(KeepsOthers.setCell _ _ _).trans (KeepsOthers.drew _), (Keep2.setCell _ (by omega) (by omega)).drew, ⟨?_, (HDD.out.other _ _ _ (by omega)).drew, (HMM.out.other _ _ _ (by omega)).drew⟩, (HB2.out.setCell (p := ⟨w.heap.size + 1 + 1, 0, none⟩) (by simp; omega) _).drew⟩
      have hz := (HP.out.set 0 (.int .i64 (d.co m 0))).drew
      rw [V3.gots_snoc d m pre ⟨0, by omega⟩] at hz
      have hv : d.co m 0 = _ := HV.out.1
      rw [hv] at hz
      exact hz
    | ⟨1, _⟩ =>
      have c2 := HP.out.cell 1 _ rfl
      have f2 := HP.out.frozen 1
      have r0 := Int.emod_nonneg (m / d.x) (b := d.y) (by omega)
      have r1 := Int.emod_lt_of_pos (m / d.x) (b := d.y) (by omega)
      have t1 : m.tdiv d.x = m / d.x := Int.tdiv_eq_ediv_of_nonneg h0
      have t2 : IntKind.i64.wrap (m / d.x) = m / d.x := IntWalk.i64_in _ (by omega)
      have t3 : (m / d.x).tmod d.y = (m / d.x) % d.y := Int.tmod_eq_emod_of_nonneg q1
      have t4 : IntKind.i64.wrap ((m / d.x) % d.y) = (m / d.x) % d.y := IntWalk.i64_in _ (by omega)
      have t5 : ¬ d.y = 0 := by omega
      have t6 : ¬ d.x = 0 := by omega
      simp only [V3.by]
      gi_wp2
      (refine wpIn_round_tail 9 (by kernel_rfl) (by kernel_rfl) (by kernel_rfl) (fun ⟨_, _, h⟩ => h) ?_; simp only [List.take_succ_cons, List.take_zero, List.drop_succ_cons, List.drop_zero]; (repeat still_step); refine wpStill_nil ?_)
      go_wp2
      refine ⟨(KeepsOthers.setCell _ _ _).trans (KeepsOthers.drew _), (Keep2.setCell _ (by omega) (by omega)).drew, ⟨?_, (HDD.out.other _ _ _ (by omega)).drew, (HMM.out.other _ _ _ (by omega)).drew⟩, (HB2.out.setCell (p := ⟨w.heap.size + 1 + 1, 1, none⟩) (by simp; omega) _).drew⟩
      have hz := (HP.out.set 1 (.int .i64 (d.co m 1))).drew
      rw [V3.gots_snoc d m pre ⟨1, by omega⟩] at hz
      have hv : d.co m 1 = _ := HV.out.2.1
      rw [hv] at hz
      exact hz
    | ⟨2, _⟩ =>
      have c2 := HP.out.cell 2 _ rfl
      have f2 := HP.out.frozen 2
      have r0 := Int.emod_nonneg (m / (d.x * d.y)) (b := d.z) (by omega)
      have r1 := Int.emod_lt_of_pos (m / (d.x * d.y)) (b := d.z) (by omega)
      have t1 : m.tdiv (d.x * d.y) = m / (d.x * d.y) := Int.tdiv_eq_ediv_of_nonneg h0
      have t2 : IntKind.i64.wrap (m / (d.x * d.y)) = m / (d.x * d.y) := IntWalk.i64_in _ (by omega)
      have t3 : (m / (d.x * d.y)).tmod d.z = (m / (d.x * d.y)) % d.z := Int.tmod_eq_emod_of_nonneg q2
      have t4 : IntKind.i64.wrap ((m / (d.x * d.y)) % d.z) = (m / (d.x * d.y)) % d.z := IntWalk.i64_in _ (by omega)
      have t5 : ¬ d.z = 0 := by omega
      have t6 : ¬ (d.x * d.y) = 0 := by omega
      simp only [V3.by]
      gi_wp2
      (refine wpIn_round_tail 9 (by kernel_rfl) (by kernel_rfl) (by kernel_rfl) (fun ⟨_, _, h⟩ => h) ?_; simp only [List.take_succ_cons, List.take_zero, List.drop_succ_cons, List.drop_zero]; (repeat still_step); refine wpStill_nil ?_)
      go_wp2
      refine ⟨(KeepsOthers.setCell _ _ _).trans (KeepsOthers.drew _), (Keep2.setCell _ (by omega) (by omega)).drew, ⟨?_, (HDD.out.other _ _ _ (by omega)).drew, (HMM.out.other _ _ _ (by omega)).drew⟩, (HB2.out.setCell (p := ⟨w.heap.size + 1 + 1, 2, none⟩) (by simp; omega) _).drew⟩
      have hz := (HP.out.set 2 (.int .i64 (d.co m 2))).drew
      rw [V3.gots_snoc d m pre ⟨2, by omega⟩] at hz
      have hv : d.co m 2 = _ := HV.out.2.2
      rw [hv] at hz
      exact hz
  case done =>
    rintro D ys W hD rfl ⟨⟨hP, _, _⟩, hB⟩ hK
    rw [HG.out] at hP
    obtain ⟨c0, c1, c2⟩ := hP.dims
    have f0 := hP.frozen
    have HP := Lib.hid hP
    have HB2 := Lib.hid hB
    have HK := Lib.hid hK
    have hDD : w1.heap.size < D := by simp at hD; omega
    clear hP hB hD
    gi_wp2
    have hP := HP.out
    have hX := ((hP.set 0 (.int .i64 (d.pos m).x)).set 1 (.int .i64 (d.pos m).y)).set 2 (.int .i64 (d.pos m).z)
    have hY : Blk _ _ _ #[.int .i64 (d.pos m).x, .int .i64 (d.pos m).y, .int .i64 (d.pos m).z] := hX
    have hK1 := (Below.heap_setCell _ ⟨w.heap.size + 1 + 1, 2, none⟩ (.int .i64 (d.pos m).z) D (by simp; omega)).trans ((Below.heap_setCell _ ⟨w.heap.size + 1 + 1, 1, none⟩ (.int .i64 (d.pos m).y) D (by simp; omega)).trans ((Below.heap_setCell _ ⟨w.heap.size + 1 + 1, 0, none⟩ (.int .i64 (d.pos m).x) D (by simp; omega)).trans HK.out))
    have hB3 := ((HB2.out.setCell (p := ⟨w.heap.size + 1 + 1, 0, none⟩) (by simp; omega) (.int .i64 (d.pos m).x)).setCell (p := ⟨w.heap.size + 1 + 1, 1, none⟩) (by simp; omega) (.int .i64 (d.pos m).y)).setCell (p := ⟨w.heap.size + 1 + 1, 2, none⟩) (by simp; omega) (.int .i64 (d.pos m).z)
    generalize (((W.setCell _ _).setCell _ _).setCell _ _) = X at *
    refine ⟨by simp, .inl ⟨_, _, rfl, run_takeDeferred hK1, ?_⟩⟩
    have hZ := hY.putObj (.deferred none) hK1 rfl
    obtain ⟨z0, z1, z2⟩ := hZ.dims
    refine ⟨.tuple #[.agg #[.int .i64 (d.pos m).x, .int .i64 (d.pos m).y, .int .i64 (d.pos m).z], .int .i64 0], ?_, rfl, hB3.trans (belowK_b (w := w) (Nat.le_refl _) _ D _ _ (by omega) hK1 rfl rfl)⟩
    clear hX hY hZ hP c0 c1 c2 f0
    simp [results, Try.f58, go_sem, z0, z1, z2]
  case stop =>
    rintro D c pre W _ _ h _
    exact h.elim

set_option maxRecDepth 100000 in set_option maxHeartbeats 4000000 in
theorem pos_Of_no (d : V3) (m : Int) (w : World) (hd : d.may) (h : ¬ (0 ≤ m ∧ m < d.n)) :
    Calls Try.prog 58 #[.agg #[.int .i64 d.x, .int .i64 d.y, .int .i64 d.z], .int .i64 m] w (RB w (.tuple #[.agg #[.int .i64 0, .int .i64 0, .int .i64 0], .int .i64 2])) := by
  have HM := Lib.hid (fun W => by have := pos_Many d W; rw [V3.many_ok hd, V3.err_ok hd] at this; exact this)
  have hn := V3.n_le hd
  clear hd
  by_cases h0 : m < 0
  · have hm0 : decide (m < 0) = true := decide_eq_true h0
    clear h
    go_enter Try.func58, Try.ntmps58
    go_wp2_with ((with_reducible refine (HM.out _).mono ?_); rintro e w1 ⟨rfl, hb1⟩; (obtain ⟨hc1, hf1⟩ := bcell hb1; have hz1 := hb1.size; (try simp at hz1); have hB : Below w.heap.size w w1 := (by (repeat (first | (with_reducible exact Below.refl _ _) | (with_reducible assumption) | (with_reducible refine below_alloc ?_ _) | (with_reducible refine below_drewN ?_ _) | (with_reducible refine Below.drew ?_) | (with_reducible refine below_then ?_ (by with_reducible assumption)) | (with_reducible refine Below.setCell ?_ (by go_size) _)))); obtain ⟨hcB, hfB⟩ := bcell hB; (try have z0 : w.heap.size < w1.heap.size := by omega); (try have z1 : w.heap.size + 1 < w1.heap.size := by omega); (try have z2 : w.heap.size + 2 < w1.heap.size := by omega); (try have z3 : w.heap.size + 3 < w1.heap.size := by omega)))
    exact bodyPost_ret (v := .tuple #[.agg #[.int .i64 0, .int .i64 0, .int .i64 0], .int .i64 2]) (by simp [results, Try.f58, go_sem, hc1]) rfl ⟨rfl, by (repeat (first | (with_reducible exact Below.refl _ _) | (with_reducible assumption) | (with_reducible refine below_alloc ?_ _) | (with_reducible refine below_drewN ?_ _) | (with_reducible refine Below.drew ?_) | (with_reducible refine below_then ?_ (by with_reducible assumption)) | (with_reducible refine Below.setCell ?_ (by go_size) _)))⟩
  · have hm0 : decide (m < 0) = false := decide_eq_false h0
    have hm1 : decide (d.n ≤ m) = true := decide_eq_true (by omega)
    clear h
    go_enter Try.func58, Try.ntmps58
    go_wp2_with ((with_reducible refine (HM.out _).mono ?_); rintro e w1 ⟨rfl, hb1⟩; (obtain ⟨hc1, hf1⟩ := bcell hb1; have hz1 := hb1.size; (try simp at hz1); have hB : Below w.heap.size w w1 := (by (repeat (first | (with_reducible exact Below.refl _ _) | (with_reducible assumption) | (with_reducible refine below_alloc ?_ _) | (with_reducible refine below_drewN ?_ _) | (with_reducible refine Below.drew ?_) | (with_reducible refine below_then ?_ (by with_reducible assumption)) | (with_reducible refine Below.setCell ?_ (by go_size) _)))); obtain ⟨hcB, hfB⟩ := bcell hB; (try have z0 : w.heap.size < w1.heap.size := by omega); (try have z1 : w.heap.size + 1 < w1.heap.size := by omega); (try have z2 : w.heap.size + 2 < w1.heap.size := by omega); (try have z3 : w.heap.size + 3 < w1.heap.size := by omega)))
    exact bodyPost_ret (v := .tuple #[.agg #[.int .i64 0, .int .i64 0, .int .i64 0], .int .i64 2]) (by simp [results, Try.f58, go_sem, hc1]) rfl ⟨rfl, by (repeat (first | (with_reducible exact Below.refl _ _) | (with_reducible assumption) | (with_reducible refine below_alloc ?_ _) | (with_reducible refine below_drewN ?_ _) | (with_reducible refine Below.drew ?_) | (with_reducible refine below_then ?_ (by with_reducible assumption)) | (with_reducible refine Below.setCell ?_ (by go_size) _)))⟩

set_option maxRecDepth 100000 in set_option maxHeartbeats 4000000 in
theorem pos_Of_bad (d : V3) (m : Int) (w : World) (hd : ¬ d.may) :
    Calls Try.prog 58 #[.agg #[.int .i64 d.x, .int .i64 d.y, .int .i64 d.z], .int .i64 m] w (RB w (.tuple #[.agg #[.int .i64 0, .int .i64 0, .int .i64 0], .int .i64 8])) := by
  have HM := Lib.hid (fun W => by have := pos_Many d W; rw [V3.many_no hd, V3.err_no hd] at this; exact this)
  clear hd
  go_enter Try.func58, Try.ntmps58
  go_wp2_with ((with_reducible refine (HM.out _).mono ?_); rintro e w1 ⟨rfl, hb1⟩; (obtain ⟨hc1, hf1⟩ := bcell hb1; have hz1 := hb1.size; (try simp at hz1); have hB : Below w.heap.size w w1 := (by (repeat (first | (with_reducible exact Below.refl _ _) | (with_reducible assumption) | (with_reducible refine below_alloc ?_ _) | (with_reducible refine below_drewN ?_ _) | (with_reducible refine Below.drew ?_) | (with_reducible refine below_then ?_ (by with_reducible assumption)) | (with_reducible refine Below.setCell ?_ (by go_size) _)))); obtain ⟨hcB, hfB⟩ := bcell hB; (try have z0 : w.heap.size < w1.heap.size := by omega); (try have z1 : w.heap.size + 1 < w1.heap.size := by omega); (try have z2 : w.heap.size + 2 < w1.heap.size := by omega); (try have z3 : w.heap.size + 3 < w1.heap.size := by omega)))
  exact bodyPost_ret (v := .tuple #[.agg #[.int .i64 0, .int .i64 0, .int .i64 0], .int .i64 8]) (by simp [results, Try.f58, go_sem, hc1]) rfl ⟨rfl, by (repeat (first | (with_reducible exact Below.refl _ _) | (with_reducible assumption) | (with_reducible refine below_alloc ?_ _) | (with_reducible refine below_drewN ?_ _) | (with_reducible refine Below.drew ?_) | (with_reducible refine below_then ?_ (by with_reducible assumption)) | (with_reducible refine Below.setCell ?_ (by go_size) _)))⟩
end

section
open Go.RowKit Go.Shelf
attribute [local go_sem] Oper.semAt_some

/-- What has been added up. -/
def V3.sums (d p : V3) (pre : List (Fin 3)) : Int := (pre.map fun x => d.by x.1 * p.at x.1).sum
theorem V3.sums_snoc (d p : V3) (pre : List (Fin 3)) (x : Fin 3) : d.sums p (pre ++ [x]) = d.sums p pre + d.by x.1 * p.at x.1 := by simp [V3.sums]
theorem V3.at_inside {d p : V3} (hp : d.inside p) (k : Nat) (hk : k < 3) : 0 ≤ p.at k ∧ p.at k < d.at k := by
  obtain ⟨h1, h2, h3⟩ := hp
  match k, hk with
  | 0, _ => exact h1
  | 1, _ => exact h2
  | 2, _ => exact h3
theorem V3.term_le {d p : V3} (h : d.may) (hp : d.inside p) (x : Fin 3) : 0 ≤ d.by x.1 * p.at x.1 ∧ d.by x.1 * p.at x.1 ≤ 4096 := by
  have h1 := V3.by_pos h x.1 x.2
  have h2 := V3.at_inside hp x.1 x.2
  have h3 := (V3.by_mul d h x.1 x.2).2.2
  have := mul_le_of (a := d.by x.1) (A := d.by x.1) (b := p.at x.1) (B := d.at x.1) (by omega) (Int.le_refl _) h2.1 (by omega)
  omega
theorem V3.sums_le {d p : V3} (h : d.may) (hp : d.inside p) (pre : List (Fin 3)) : 0 ≤ d.sums p pre ∧ d.sums p pre ≤ 4096 * pre.length := by
  induction pre with
  | nil => simp [V3.sums]
  | cons x pre ih =>
    have := V3.term_le h hp x
    simp only [V3.sums, List.map_cons, List.sum_cons, List.length_cons] at *
    omega
theorem V3.sums_all (d p : V3) : d.sums p (ways 3) = d.num p := by
  simp only [V3.sums, ways, V3.num, List.map_cons, List.map_nil, List.sum_cons, List.sum_nil, V3.by]
  show 1 * p.x + (d.x * p.y + (d.x * d.y * p.z + 0)) = _
  rw [Int.mul_add, Int.mul_assoc]; omega

set_option maxRecDepth 100000 in set_option maxHeartbeats 4000000 in
theorem pos_At_ok (d p : V3) (w : World) (hd : d.may) (hp : d.inside p) :
    Calls Try.prog 33 #[.agg #[.int .i64 d.x, .int .i64 d.y, .int .i64 d.z], .agg #[.int .i64 p.x, .int .i64 p.y, .int .i64 p.z]] w (RB w (.tuple #[.int .i64 (d.num p), .int .i64 0])) := by
  have HC := Lib.hid (fun W => by have := pos_Check d W; rw [okIf_yes hd] at this; exact this)
  have HD := Lib.hid hd
  have HI := Lib.hid hp
  have HS := Lib.hid (V3.sums_all d p)
  clear hd hp
  refine (callsIn_wide (n := 12)).1 ?_
  refine callsIn_of_wp_marks Try.func33 rfl trivial ?_ rfl
  simp only [Try.ntmps33, List.size_toArray, List.length_cons, List.length_nil, Nat.reduceAdd, Nat.reduceSub, Array.replicate_succ, Array.replicate_zero, List.push_toArray, List.append_toArray, List.nil_append, List.cons_append]
  gi_wp2_with (refine ⟨trivial, ?_⟩; (with_reducible refine (callsIn_wide.2 (HC.out _)).mono ?_); rintro e w1 ⟨rfl, hb1⟩; (obtain ⟨hc1, hf1⟩ := bcell hb1; have hz1 := hb1.size; (try simp at hz1); have hB : Below w.heap.size w w1 := (by (repeat (first | (with_reducible exact Below.refl _ _) | (with_reducible assumption) | (with_reducible refine below_alloc ?_ _) | (with_reducible refine below_drewN ?_ _) | (with_reducible refine Below.drew ?_) | (with_reducible refine below_then ?_ (by with_reducible assumption)) | (with_reducible refine Below.setCell ?_ (by go_size) _)))); obtain ⟨hcB, hfB⟩ := bcell hB; (try have z0 : w.heap.size < w1.heap.size := by omega); (try have z1 : w.heap.size + 1 < w1.heap.size := by omega); (try have z2 : w.heap.size + 2 < w1.heap.size := by omega); (try have z3 : w.heap.size + 3 < w1.heap.size := by omega)))
  have HB := Lib.hid hB
  have BD : Blk w1 w.heap.size 23 #[.int .i64 d.x, .int .i64 d.y, .int .i64 d.z] := ((((Blk.new w _ _).alloc _).alloc _).alloc _).below hb1
  have BP : Blk w1 (w.heap.size + 1) 22 #[.int .i64 p.x, .int .i64 p.y, .int .i64 p.z] := by
    have := (((Blk.new (w.alloc (.cells #[.int .i64 d.x, .int .i64 d.y, .int .i64 d.z] 23)) 22 #[.int .i64 p.x, .int .i64 p.y, .int .i64 p.z]).alloc (.cells #[.int .i64 0] 3)).alloc (.cells #[.int .i64 0] 31)).below hb1
    simpa using this
  have BM : Blk w1 (w.heap.size + 1 + 1) 3 #[.int .i64 0] := by
    have := ((Blk.new ((w.alloc (.cells #[.int .i64 d.x, .int .i64 d.y, .int .i64 d.z] 23)).alloc (.cells #[.int .i64 p.x, .int .i64 p.y, .int .i64 p.z] 22)) 3 #[.int .i64 0]).alloc (.cells #[.int .i64 0] 31)).below hb1
    simpa using this
  have BE : Blk w1 (w.heap.size + 1 + 1 + 1) 31 #[.int .i64 0] := by
    have := (Blk.new (((w.alloc (.cells #[.int .i64 d.x, .int .i64 d.y, .int .i64 d.z] 23)).alloc (.cells #[.int .i64 p.x, .int .i64 p.y, .int .i64 p.z] 22)).alloc (.cells #[.int .i64 0] 3)) 31 #[.int .i64 0]).below hb1
    simpa using this
  have hs0 := BE.lt
  have BD2 := Lib.hid (BD.other (w.heap.size + 1 + 1 + 1) 0 (.int .i64 0) (by omega))
  have BP2 := Lib.hid (BP.other (w.heap.size + 1 + 1 + 1) 0 (.int .i64 0) (by omega))
  have BM2 := Lib.hid (BM.other (w.heap.size + 1 + 1 + 1) 0 (.int .i64 0) (by omega))
  have BE2 := Lib.hid (show Blk _ _ _ #[.int .i64 0] from BE.set 0 (.int .i64 0))
  have HB := Lib.hid (HB.out.setCell (p := ⟨w.heap.size + 1 + 1 + 1, 0, none⟩) (by simp; omega) (.int .i64 0))
  clear hB hcB hfB hc1 hf1 hb1 BD BP BM BE
  have hsw : w.heap.size + 1 + 1 + 1 < (w1.setCell ⟨w.heap.size + 1 + 1 + 1, 0, none⟩ (.int .i64 0)).heap.size := by simp; omega
  clear hz1 z0 z1 z2
  generalize w1.setCell ⟨w.heap.size + 1 + 1 + 1, 0, none⟩ (.int .i64 0) = w2 at *
  gi_wp2_with (refine ⟨trivial, ?_⟩; refine (strides_in _ _ trivial rfl d _).mono ?_; rintro e w3 ⟨rfl, rfl⟩)
  have hbS : DimsAt (w2.alloc (.cells #[.int .i64 d.x, .int .i64 d.y, .int .i64 d.z] 23)) w2.heap.size d := (Blk.new w2 _ _).dims
  refine wpIn_rangeFunc_ownF rfl (by omega) (gf := 80) (lb := #[.pointer (some ⟨w2.heap.size, 0, none⟩)]) rfl trivial (enters_of Try.func80 (by kernel_rfl) rfl)
    (strides_stops Fence.wide _ trivial rfl (by omega) w2.heap.size w.heap.size d HD.out _ (by simp) hbS) keep2_t (keep2_b (by simp; omega) (by simp)) (Below.refl _ _) (fun _ => rfl)
    (fun pre W => (Blk W (w.heap.size + 1 + 1) 3 #[.int .i64 (d.sums p pre)] ∧ Blk W w.heap.size 23 #[.int .i64 d.x, .int .i64 d.y, .int .i64 d.z] ∧ Blk W (w.heap.size + 1) 22 #[.int .i64 p.x, .int .i64 p.y, .int .i64 p.z] ∧ Blk W (w.heap.size + 1 + 1 + 1) 31 #[.int .i64 0]) ∧ Below w.heap.size w W)
    (fun _ _ _ => False)
    (OwnFrom.and (Own.from (fun s A B row hs hg hr => ⟨hs.1.own hg hr, hs.2.1.own hg hr, hs.2.2.1.own hg hr, hs.2.2.2.own hg hr⟩) _) (ownFrom_below (Nat.le_refl _) (by simp; omega)))
    (fun _ _ _ _ _ hs _ _ => hs)
    ⟨⟨BM2.out.alloc _, BD2.out.alloc _, BP2.out.alloc _, BE2.out.alloc _⟩, below_alloc HB.out _⟩
    (fun x => { tmps := #[.agg #[.int .i64 d.x, .int .i64 d.y, .int .i64 d.z], .agg #[.int .i64 p.x, .int .i64 p.y, .int .i64 p.z], .pointer (some ⟨w.heap.size, 0, none⟩), .pointer (some ⟨w.heap.size + 1, 0, none⟩), .pointer (some ⟨w.heap.size + 1 + 1, 0, none⟩), .pointer (some ⟨w.heap.size + 1 + 1 + 1, 0, none⟩), .int .i64 (x.1 : Int), .int .i64 (d.by x.1),
      .agg #[.int .i64 d.x, .int .i64 d.y, .int .i64 d.z], .int .i64 0, .int .i64 0, .bool false, .agg #[.int .i64 d.x, .int .i64 d.y, .int .i64 d.z], .func (.func 80) #[] #[.pointer (some ⟨w2.heap.size, 0, none⟩)], .int .i64 (x.1 : Int), .int .i64 (d.by x.1), undef, undef, undef, undef, undef, undef, undef, undef, undef, undef, undef, undef, undef, undef, undef, undef, undef, undef, undef, undef, undef], defers := [] }) ?assign ?body ?done ?stop
  case assign =>
    intro l x W K hK
    gi_wp2
    exact hK
  case body =>
    rintro l pre x W ⟨⟨hM, hD, hP, hE⟩, hB⟩ hlen
    have hx3 := x.2
    have b1 := V3.sums_le HD.out HI.out pre
    have b2 := V3.term_le HD.out HI.out x
    have b3 := V3.at_inside HI.out x.1 hx3
    have b4 := V3.by_pos HD.out x.1 hx3
    have b5 := V3.by_mul d HD.out x.1 hx3
    have b6 := V3.at_pos HD.out x.1 hx3
    have c0 := hD.dims.at x.1 hx3
    have c1 := hP.dims.at x.1 hx3
    have c2 := hM.cell 0 _ rfl
    have f2 := hM.frozen 0
    have HM := Lib.hid hM
    have HP := Lib.hid hP
    have HDD := Lib.hid hD
    have HE := Lib.hid hE
    have HB2 := Lib.hid hB
    have i0 : (0 : Int) ≤ ((x.1 : Nat) : Int) := by omega
    have i1 : ((x.1 : Nat) : Int) < 3 := by omega
    have d1 : decide (p.at x.1 < 0) = false := by rw [decide_eq_false_iff_not]; omega
    have d2 : decide (d.at x.1 ≤ p.at x.1) = false := by rw [decide_eq_false_iff_not]; omega
    have hsn := Lib.hid (V3.sums_snoc d p pre x)
    clear hM hP hD hE hB hbS
    obtain ⟨b5a, b5b⟩ := b5
    clear b5a
    have t1 : IntKind.i64.wrap (d.by x.1 * p.at x.1) = d.by x.1 * p.at x.1 := IntWalk.i64_in _ (by omega)
    have t2 : IntKind.i64.wrap (d.sums p pre + d.by x.1 * p.at x.1) = d.sums p pre + d.by x.1 * p.at x.1 := IntWalk.i64_in _ (by omega)
    gi_wp2_with fail
    (refine wpIn_round_quiet (by kernel_rfl) (by kernel_rfl) (by kernel_rfl) (fun ⟨_, _, h⟩ => h) ?_; (repeat (any_goals (first | go_big_quiet_step (fail) | quiet_step (fail) | (refine wpQuiet_step (fun K hK => ?_); go_simp; split <;> (refine hK _ ?_; clear hK K))))); all_goals (refine wpQuiet_nil ?_; intro _ hw'; obtain ⟨nq, hw''⟩ := hw'; subst hw''))
    gi_wp2
    (refine wpIn_round_tail 7 (by kernel_rfl) (by kernel_rfl) (by kernel_rfl) (fun ⟨_, _, h⟩ => h) ?_; simp only [List.take_succ_cons, List.take_zero, List.drop_succ_cons, List.drop_zero]; (repeat still_step); refine wpStill_nil ?_)
    go_wp2
    have hz := (HM.out.drewN (nq + 1)).set 0 (.int .i64 (d.sums p pre + d.by x.1 * p.at x.1))
    rw [← hsn.out] at hz ⊢
    refine ⟨(show KeepsOthers W (W.drewN (nq + 1)) from ⟨Nat.le_refl _, fun _ _ h _ => h⟩).trans (KeepsOthers.setCell _ _ _), ⟨(below_drewN (Below.refl _ W) _).setCell (p := ⟨w.heap.size + 1 + 1, 0, none⟩) (by simp; omega) _, Below.heap_setCell (W.drewN (nq + 1)) ⟨w.heap.size + 1 + 1, 0, none⟩ _ _ (by simp; omega)⟩,
      ⟨hz, (HDD.out.drewN _).other (w.heap.size + 1 + 1) 0 _ (by omega), (HP.out.drewN _).other (w.heap.size + 1 + 1) 0 _ (by omega), (HE.out.drewN _).other (w.heap.size + 1 + 1) 0 _ (by omega)⟩, (below_drewN HB2.out _).setCell (p := ⟨w.heap.size + 1 + 1, 0, none⟩) (by simp; omega) _⟩
  case done =>
    rintro D ys W hD rfl ⟨⟨hM, _, _, hE⟩, hB⟩ hK
    rw [HS.out] at hM
    have c0 := hM.cell 0 _ rfl
    have f0 := hM.frozen 0
    have c1 := hE.cell 0 _ rfl
    have f1 := hE.frozen 0
    have HM := Lib.hid hM
    have HE := Lib.hid hE
    have HB2 := Lib.hid hB
    have HK := Lib.hid hK
    have hDD : w2.heap.size < D := by simp at hD; omega
    clear hM hB hD hE
    gi_wp2
    have hX := (HM.out.set 0 (.int .i64 (d.num p))).other (w.heap.size + 1 + 1 + 1) 0 (.int .i64 0) (by omega)
    have hX : Blk _ _ _ #[.int .i64 (d.num p)] := hX
    have hY := (HE.out.other (w.heap.size + 1 + 1) 0 (.int .i64 (d.num p)) (by omega)).set 0 (.int .i64 0)
    have hY : Blk _ _ _ #[.int .i64 0] := hY
    have hK1 := (Below.heap_setCell _ ⟨w.heap.size + 1 + 1 + 1, 0, none⟩ (.int .i64 0) D (by simp; omega)).trans ((Below.heap_setCell _ ⟨w.heap.size + 1 + 1, 0, none⟩ (.int .i64 (d.num p)) D (by simp; omega)).trans HK.out)
    have hB3 := (HB2.out.setCell (p := ⟨w.heap.size + 1 + 1, 0, none⟩) (by simp; omega) (.int .i64 (d.num p))).setCell (p := ⟨w.heap.size + 1 + 1 + 1, 0, none⟩) (by simp; omega) (.int .i64 0)
    generalize ((W.setCell _ _).setCell _ _) = X at *
    refine ⟨by simp, .inl ⟨_, _, rfl, run_takeDeferred hK1, ?_⟩⟩
    have z0 := (hX.putObj (.deferred none) hK1 rfl).cell 0 _ rfl
    have z1 := (hY.putObj (.deferred none) hK1 rfl).cell 0 _ rfl
    refine ⟨.tuple #[.int .i64 (d.num p), .int .i64 0], ?_, rfl, hB3.trans (belowK_b (w := w) (Nat.le_refl _) _ D _ _ (by omega) hK1 rfl rfl)⟩
    clear hX hY c0 c1 f0 f1
    simp [results, Try.f33, go_sem, z0, z1]
  case stop =>
    rintro D c pre W _ _ h _
    exact h.elim
end
end
end Go.Proofs.Ytofoenlhbmammaa
