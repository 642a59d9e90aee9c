/- BOX: its midplanes, one after another; sorted they are those that the document lists. -/
import Derived.IntWalk
import Derived.Lib.SliceRun
import Derived.Shelf.Sort.Plain
import Derived.Lib.SortBridge
import Derived.Test.YtofoenlhbmammaaGreatQ2F11
import Derived.Test.YtofoenlhbmammaaGreatQ4F11
import Derived.Test.YtofoenlhbmammaaGreatQ0BoxAxF11
import Derived.Test.YtofoenlhbmammaaGreatQ5F11
import Derived.Test.YtofoenlhbmammaaGreatShelfSort
set_option linter.unusedVariables false
set_option linter.unusedSimpArgs false
namespace Go.Proofs.YtofoenlhbmammaaGreat

section
section
open Go.RowKit Go.Shelf

def ic (l : List Int) : List Value := l.map (Value.int .i64)
theorem ic_len (l : List Int) : (ic l).length = l.length := by simp [ic]
theorem ic_app (a b : List Int) : ic (a ++ b) = ic a ++ ic b := by simp [ic]
theorem ic_one (l : List Int) : ∀ u ∈ ic l, u.oneCell' = true := by
  intro u hu
  obtain ⟨x, _, rfl⟩ := List.mem_map.1 hu
  rfl
/-- A new list is handed back; nothing that was there has turned. -/
def RL (w : World) (l : List Int) : Ending → World → Prop := fun e w' => ∃ v, e = .returned v ∧ w'.ownsRow w.heap.size 3 1 v l.length (ic l) ∧ Below w.heap.size w w'
end

section
open Go.RowKit Go.Shelf

/-- A list of integers that came in. -/
structure LIn (w : World) (base : Option Addr) (l : List Int) : Prop where
  rd : Rd w base (l.map (Value.int .i64))
  len : l.length ≤ 4611686018427387904
theorem LIn.keep {w W : World} {base : Option Addr} {l : List Int} (h : LIn w base l) (hb : Below w.heap.size w W) : LIn W base l := ⟨h.rd.keep hb, h.len⟩

/-- A new list of integers, and an error. -/
def RIE (w : World) (l : List Int) (x : Int) : Ending → World → Prop := fun e w' =>
  ∃ v, e = .returned (.tuple #[v, .int .i64 x]) ∧ w'.ownsRow w.heap.size 3 1 v l.length (l.map (Value.int .i64)) ∧ Below w.heap.size w w'


theorem list_of_own {W : World} {B : Nat} {v : Value} {l : List Int} (h : W.ownsRow B 3 1 v l.length (l.map (Value.int .i64))) (hl : l.length ≤ 4611686018427387904) :
    ∃ base cap, v = .slice base l.length cap ∧ LIn W base l ∧ l.length ≤ cap := by
  obtain ⟨base, cap, rfl, rd, hc⟩ := own_rd h
  exact ⟨base, cap, rfl, ⟨rd, hl⟩, hc⟩
end
end

section
open Go.RowKit Go.Shelf

set_option maxRecDepth 100000 in set_option maxHeartbeats 4000000 in
theorem ref02_Told (d : V3) (b : Bx) (w : World) : Calls Tryz.prog 96 #[.agg #[.int .i64 d.x, .int .i64 d.y, .int .i64 d.z], .agg #[.int .i64 b.b.x, .int .i64 b.b.y, .int .i64 b.b.z, .int .i64 b.s.x, .int .i64 b.s.y, .int .i64 b.s.z]] w (RB w (.agg #[.int .i64 (b.can d).b.x, .int .i64 (b.can d).b.y, .int .i64 (b.can d).b.z, .int .i64 (b.can d).s.x, .int .i64 (b.can d).s.y, .int .i64 (b.can d).s.z])) := by
  cases g0 : b.s.x == d.x <;> cases g1 : b.s.y == d.y <;> cases g2 : b.s.z == d.z
  all_goals
    have hq := Lib.hid (show b.can d = _ by simp only [Bx.can, g0, g1, g2, cond_true, cond_false]; rfl)
    rw [hq.out]
    go_enter Tryz.func96, Tryz.ntmps96
    go_wp2_with fail
    refine wp_loop_rounds 4 ?_
    go_wp2_with (first | (rw [rounds_succ]) | (refine wp_region_quiet_lit (by kernel_rfl) (by kernel_rfl) ?_; (repeat (any_goals (first | go_big_quiet_step (fail) | quiet_step (fail) | (refine wpQuiet_step (fun K hK => ?_); go_simp; split <;> (refine hK _ ?_; clear hK K))))); all_goals (refine wpQuiet_nil ?_; intro _ hw'; obtain ⟨nq, hw''⟩ := hw'; subst hw'')))
    refine bodyPost_ret ?_ rfl ⟨rfl, ?_⟩
    · simp [results, Tryz.f96, go_sem]
    · (repeat (first | (with_reducible exact Below.refl _ _) | (with_reducible assumption) | (with_reducible refine below_alloc ?_ _) | (with_reducible refine below_drewN ?_ _) | (with_reducible refine Below.drew ?_) | (with_reducible refine below_then ?_ (by with_reducible assumption)) | (with_reducible refine Below.setCell ?_ (by go_size) _)))

/-- All midplanes of a box that may be; none of one that may not. -/
def nodesV (d : V3) (b : Bx) : List Int := if chk d b = 0 then b.all d else []
/-- The error of a box and a midplane; whether the box has it. -/
def hasE (d : V3) (b : Bx) (m : Int) : Int := if chk d b = 0 then if 0 ≤ m ∧ m < d.n then 0 else 2 else chk d b
def hasB (d : V3) (b : Bx) (m : Int) : Bool := if hasE d b m = 0 then b.has d m else false
theorem hasE_0 {d : V3} {b : Bx} {m : Int} (h : hasE d b m = 0) : chk d b = 0 ∧ 0 ≤ m ∧ m < d.n := by
  unfold hasE at h
  by_cases hc : chk d b = 0
  · rw [if_pos hc] at h
    by_cases hm : 0 ≤ m ∧ m < d.n
    · exact ⟨hc, hm⟩
    · rw [if_neg hm] at h; omega
  · rw [if_neg hc] at h; exact absurd h hc
end

section
section
open Go.RowKit Go.Shelf Go.Sort

theorem own_setCells {base e g cap n : Nat} : ∀ (vs : List Value) (o : Nat) (w : World) (xs : List Value), w.ownsRow base e 1 (.slice (some ⟨g, 0, none⟩) n cap) n xs → o + vs.length ≤ n →
    (w.setCells g o vs).ownsRow base e 1 (.slice (some ⟨g, 0, none⟩) n cap) n (xs.take o ++ vs ++ xs.drop (o + vs.length))
  | [], o, w, xs, h, _ => by simpa [World.setCells] using h
  | v :: r, o, w, xs, h, hl => by
    have hlen := h.1
    simp only [List.length_cons] at hl
    have h1 := (h.stored o v).1
    have h2 := own_setCells r (o + 1) _ _ h1 (by omega)
    have e : (xs.set o v).take (o + 1) ++ r ++ (xs.set o v).drop (o + 1 + r.length) = xs.take o ++ (v :: r) ++ xs.drop (o + (v :: r).length) := by
      rw [List.take_succ_eq_append_getElem (by simp; omega), List.take_set_of_le (Nat.le_refl _), List.drop_set_of_lt (by omega)]
      simp [show o + 1 + r.length = o + (r.length + 1) by omega]
    rw [e] at h2
    exact h2
theorem below_setCells {B g : Nat} (hg : B ≤ g) : ∀ (vs : List Value) (o : Nat) (W w : World), Below B W w → Below B W (w.setCells g o vs)
  | [], _, _, _, h => h
  | v :: r, o, W, w, h => below_setCells hg r (o + 1) W _ (h.setCell (p := ⟨g, o, none⟩) hg v)
theorem below_grow {B : Nat} {W w : World} (h : Below B W w) (os : Array Obj) (hB : B ≤ W.heap.size) : Below B W (grow w os) :=
  ⟨h.os, h.tape, h.output, Nat.le_trans h.size (by simp [grow]), fun k hk => (heap_grow_old w os (Nat.lt_of_lt_of_le (Nat.lt_of_lt_of_le hk hB) h.size)).trans (h.block k hk)⟩
theorem own_grow {w : World} {base e size n : Nat} {v : Value} {xs : List Value} (h : w.ownsRow base e size v n xs) (os : Array Obj) : (grow w os).ownsRow base e size v n xs := by
  refine ⟨h.1, ?_⟩
  rcases h.2 with hn | ⟨g, cap, cur, rfl, hbg, hg, rest⟩
  · exact .inl hn
  · exact .inr ⟨g, cap, cur, rfl, hbg, (heap_grow_old w os (Array.getElem?_eq_some_iff.1 hg).1).trans hg, rest⟩

/-- The numbers, rising. -/
def sorted (l : List Int) : List Int := l.mergeSort fun x y => decide (x ≤ y)
theorem sorted_len (l : List Int) : (sorted l).length = l.length := by unfold sorted; exact List.length_mergeSort l

set_option maxRecDepth 100000 in set_option maxHeartbeats 4000000 in
theorem sort_own {B g cap : Nat} {l : List Int} {W : World} (h : W.ownsRow B 3 1 (.slice (some ⟨g, 0, none⟩) l.length cap) l.length (l.map (Value.int .i64))) (hB : B ≤ W.heap.size) (hl : l.length ≤ 1000000) :
    Calls Tryz.prog 112 #[.slice (some ⟨g, 0, none⟩) l.length cap] W fun e w' => e = .returned (.tuple #[]) ∧ w'.ownsRow B 3 1 (.slice (some ⟨g, 0, none⟩) l.length cap) l.length ((sorted l).map (Value.int .i64)) ∧ Below B W w' := by
  rcases h.2 with ⟨e, _⟩ | ⟨g', cap', cur, e, hbg, hg, _⟩
  · cases e
  cases e
  have hH : Holds (Value.int .i64) W g 0 l.toArray := by
    intro j hj
    have hj' : j < l.length := by simpa using hj
    refine ⟨?_, ?_⟩
    · rw [Nat.zero_add, h.cellAt j (by omega)]
      simp [hj']
    · rw [Nat.zero_add]; exact h.frozenAt j
  refine (Any.slices_Sort_int Tryz.laysSort g 0 cap l W hH (Array.getElem?_eq_some_iff.1 hg).1 (by omega)).mono ?_
  rintro e w' ⟨rfl, q, os, rfl⟩
  rw [show (l.mergeSort fun x y => decide (x ≤ y)) = sorted l from rfl]
  rw [Lib.sorted_world (Value.int .i64) W g 0 q l.toArray (sorted l) os hH (by simp [sorted_len])]
  refine ⟨rfl, own_grow ?_ os, below_grow (below_setCells hbg _ _ _ _ (below_drewN (Below.refl _ _) q)) os hB⟩
  have h0 : (W.drewN q).ownsRow B 3 1 (.slice (some ⟨g, 0, none⟩) l.length cap) l.length (l.map (Value.int .i64)) := h
  have h1 := own_setCells ((sorted l).map (Value.int .i64)) 0 _ _ h0 (by simp [sorted_len])
  rw [List.drop_of_length_le (by simp [sorted_len])] at h1
  simpa using h1
end

section
theorem rise_ext : ∀ {a b : List Int}, a.Pairwise (· < ·) → b.Pairwise (· < ·) → (∀ x, x ∈ a ↔ x ∈ b) → a = b
  | [], [], _, _, _ => rfl
  | [], y :: b, _, _, h => absurd ((h y).2 (List.mem_cons_self ..)) (by simp)
  | x :: a, [], _, _, h => absurd ((h x).1 (List.mem_cons_self ..)) (by simp)
  | x :: a, y :: b, ha, hb, h => by
    rw [List.pairwise_cons] at ha hb
    have hxy : x = y := by
      rcases List.mem_cons.1 ((h x).1 (List.mem_cons_self ..)) with e | e
      · exact e
      · rcases List.mem_cons.1 ((h y).2 (List.mem_cons_self ..)) with e2 | e2
        · exact e2.symm
        · have := hb.1 x e; have := ha.1 y e2; omega
    subst hxy
    rw [rise_ext ha.2 hb.2 (fun z => ?_)]
    constructor
    · intro hz
      rcases List.mem_cons.1 ((h z).1 (List.mem_cons_of_mem _ hz)) with e | e
      · have := ha.1 z hz; omega
      · exact e
    · intro hz
      rcases List.mem_cons.1 ((h z).2 (List.mem_cons_of_mem _ hz)) with e | e
      · have := hb.1 z hz; omega
      · exact e
theorem sorted_rise {l : List Int} (h : l.Nodup) : (sorted l).Pairwise (· < ·) := by
  have h1 : (sorted l).Pairwise (fun a b => decide (a ≤ b) = true) := List.pairwise_mergeSort (fun a b c h1 h2 => by simp at *; omega) (fun a b => by simp; omega) l
  have h2 : (sorted l).Nodup := (List.mergeSort_perm l _).nodup_iff.2 h
  exact (h1.and h2).imp (fun ⟨h3, h4⟩ => by simp at h3; omega)
end
end

section
/-- Some steps on. -/
def Bx.at (d : V3) (b : Bx) (x y z : Nat) : V3 := ⟨(b.b.x + x) % d.x, (b.b.y + y) % d.y, (b.b.z + z) % d.z⟩
def Bx.nX (d : V3) (b : Bx) (y z k : Nat) : List Int := (List.range k).map fun x => d.num (b.at d x y z)
def Bx.nY (d : V3) (b : Bx) (z k : Nat) : List Int := (List.range k).flatMap fun y => b.nX d y z b.s.x.toNat
def Bx.nZ (d : V3) (b : Bx) (k : Nat) : List Int := (List.range k).flatMap fun z => b.nY d z b.s.y.toNat
theorem Bx.nX_succ (d : V3) (b : Bx) (y z k : Nat) : b.nX d y z (k + 1) = b.nX d y z k ++ [d.num (b.at d k y z)] := by simp [Bx.nX, List.range_succ]
theorem Bx.nY_succ (d : V3) (b : Bx) (z k : Nat) : b.nY d z (k + 1) = b.nY d z k ++ b.nX d k z b.s.x.toNat := by simp [Bx.nY, List.range_succ]
theorem Bx.nZ_succ (d : V3) (b : Bx) (k : Nat) : b.nZ d (k + 1) = b.nZ d k ++ b.nY d k b.s.y.toNat := by simp [Bx.nZ, List.range_succ]
theorem Bx.nX_len (d : V3) (b : Bx) (y z k : Nat) : (b.nX d y z k).length = k := by simp [Bx.nX]
theorem Bx.nY_len (d : V3) (b : Bx) (z k : Nat) : (b.nY d z k).length = k * b.s.x.toNat := by
  induction k with
  | zero => simp [Bx.nY]
  | succ k ih => rw [Bx.nY_succ, List.length_append, ih, Bx.nX_len, Nat.succ_mul]
theorem Bx.nZ_len (d : V3) (b : Bx) (k : Nat) : (b.nZ d k).length = k * (b.s.y.toNat * b.s.x.toNat) := by
  induction k with
  | zero => simp [Bx.nZ]
  | succ k ih => rw [Bx.nZ_succ, List.length_append, ih, Bx.nY_len, Nat.succ_mul]
theorem Bx.part_len {d : V3} {b : Bx} (hd : d.may) (hb : b.may d) {x y z : Nat} (hx : x ≤ b.s.x.toNat) (hy : y ≤ b.s.y.toNat) (hz : z ≤ b.s.z.toNat) : (b.nZ d z ++ b.nY d z y ++ b.nX d y z x).length ≤ 5000 := by
  unfold V3.may at hd
  unfold Bx.may at hb
  rw [List.length_append, List.length_append, Bx.nZ_len, Bx.nY_len, Bx.nX_len]
  have h1 : b.s.y.toNat * b.s.x.toNat ≤ 16 * 16 := Nat.mul_le_mul (by omega) (by omega)
  have h2 : z * (b.s.y.toNat * b.s.x.toNat) ≤ 16 * 256 := Nat.mul_le_mul (by omega) h1
  have h3 : y * b.s.x.toNat ≤ 16 * 16 := Nat.mul_le_mul (by omega) (by omega)
  omega
theorem Bx.at_inside {d : V3} {b : Bx} (hd : d.may) (x y z : Nat) : d.inside (b.at d x y z) := by
  unfold V3.may at hd
  exact ⟨⟨Int.emod_nonneg _ (by omega), Int.emod_lt_of_pos _ (by omega)⟩, ⟨Int.emod_nonneg _ (by omega), Int.emod_lt_of_pos _ (by omega)⟩, Int.emod_nonneg _ (by omega), Int.emod_lt_of_pos _ (by omega)⟩

theorem Bx.mem_nZ {d : V3} {b : Bx} {k : Nat} {m : Int} : m ∈ b.nZ d k ↔ ∃ z y x, z < k ∧ y < b.s.y.toNat ∧ x < b.s.x.toNat ∧ m = d.num (b.at d x y z) := by
  simp only [Bx.nZ, Bx.nY, Bx.nX, List.mem_flatMap, List.mem_map, List.mem_range]
  constructor
  · rintro ⟨z, hz, y, hy, x, hx, rfl⟩; exact ⟨z, y, x, hz, hy, hx, rfl⟩
  · rintro ⟨z, y, x, hz, hy, hx, rfl⟩; exact ⟨z, hz, y, hy, x, hx, rfl⟩

/-- A coordinate is among a run's just if it is few enough steps on. -/
theorem run_iff {b s n p : Int} (h1 : 0 ≤ b) (h2 : b < n) (h3 : 1 ≤ s) (h4 : s ≤ n) (h5 : 0 ≤ p) (h6 : p < n) : (∃ k : Nat, k < s.toNat ∧ p = (b + k) % n) ↔ stepsOn b p n < s := by
  have h := inRun_eq h1 h2 h3 h4 h5 h6
  rw [Bool.eq_iff_iff, decide_eq_true_iff] at h
  rw [← h]
  simp only [inRun, List.any_eq_true, List.mem_range, decide_eq_true_eq]
  constructor
  · rintro ⟨k, hk, e⟩; exact ⟨k, hk, e.symm⟩
  · rintro ⟨k, hk, e⟩; exact ⟨k, hk, e.symm⟩
theorem run_one {b n : Int} {i j : Nat} (h1 : 0 ≤ b) (h2 : b < n) (hi : (i : Int) < n) (hj : (j : Int) < n) (e : (b + i) % n = (b + j) % n) : i = j := by
  rw [emod2 (by omega) (by omega), emod2 (by omega) (by omega)] at e
  split at e <;> split at e <;> omega

theorem V3.num_one {d p q : V3} (hd : d.may) (hp : d.inside p) (hq : d.inside q) (h : d.num p = d.num q) : p = q := by
  rw [← V3.pos_num hd hp, ← V3.pos_num hd hq, h]

theorem Bx.nZ_all {d : V3} {b : Bx} (hd : d.may) (hb : b.may d) (m : Int) : m ∈ b.nZ d b.s.z.toNat ↔ m ∈ b.all d := by
  have hb' := hb
  unfold Bx.may at hb'
  have hd' := hd
  unfold V3.may at hd'
  rw [Bx.mem_nZ, Bx.mem_all]
  constructor
  · rintro ⟨z, y, x, hz, hy, hx, rfl⟩
    have hin := Bx.at_inside (b := b) hd x y z
    have hlt := V3.num_lt hd hin
    refine ⟨hlt, (Bx.has_iff hd hb hlt.1 hlt.2).2 ?_⟩
    rw [V3.pos_num hd hin]
    obtain ⟨i1, i2, i3⟩ := hin
    exact ⟨(run_iff (by omega) (by omega) (by omega) (by omega) i1.1 i1.2).1 ⟨x, hx, rfl⟩, (run_iff (by omega) (by omega) (by omega) (by omega) i2.1 i2.2).1 ⟨y, hy, rfl⟩, (run_iff (by omega) (by omega) (by omega) (by omega) i3.1 i3.2).1 ⟨z, hz, rfl⟩⟩
  · rintro ⟨⟨h0, h1⟩, hh⟩
    obtain ⟨i1, i2, i3⟩ := V3.pos_inside hd h0 h1
    obtain ⟨a1, a2, a3⟩ := (Bx.has_iff hd hb h0 h1).1 hh
    obtain ⟨x, hx, ex⟩ := (run_iff (by omega) (by omega) (by omega) (by omega) i1.1 i1.2).2 a1
    obtain ⟨y, hy, ey⟩ := (run_iff (by omega) (by omega) (by omega) (by omega) i2.1 i2.2).2 a2
    obtain ⟨z, hz, ez⟩ := (run_iff (by omega) (by omega) (by omega) (by omega) i3.1 i3.2).2 a3
    refine ⟨z, y, x, hz, hy, hx, ?_⟩
    have e : b.at d x y z = d.pos m := by unfold Bx.at; rw [← ex, ← ey, ← ez]
    rw [e]
    unfold V3.num V3.pos
    simp only []
    rw [Int.emod_add_mul_ediv, Int.emod_add_mul_ediv]

theorem pairwise_range_map {f : Nat → Int} {k : Nat} (h : ∀ i j, i < k → j < k → f i = f j → i = j) : ((List.range k).map f).Nodup := by
  rw [List.Nodup, List.pairwise_map]
  refine List.Pairwise.imp_of_mem ?_ (List.pairwise_lt_range (n := k))
  intro i j hi hj hlt e
  have := h i j (List.mem_range.1 hi) (List.mem_range.1 hj) e
  omega
theorem nodup_flatMap_range {f : Nat → List Int} {k : Nat} (h1 : ∀ i, i < k → (f i).Nodup) (h2 : ∀ i j x, i < k → j < k → x ∈ f i → x ∈ f j → i = j) : ((List.range k).flatMap f).Nodup := by
  induction k with
  | zero => simp
  | succ k ih =>
    rw [List.range_succ, List.flatMap_append, List.nodup_append]
    refine ⟨ih (fun i hi => h1 i (by omega)) (fun i j x hi hj => h2 i j x (by omega) (by omega)), by simpa using h1 k (by omega), ?_⟩
    intro a ha c hc e
    subst e
    simp only [List.mem_flatMap, List.mem_range] at ha
    obtain ⟨i, hi, ha⟩ := ha
    have := h2 i k a (by omega) (by omega) ha (by simpa using hc)
    omega
theorem Bx.nZ_nodup {d : V3} {b : Bx} (hd : d.may) (hb : b.may d) : (b.nZ d b.s.z.toNat).Nodup := by
  have hb' := hb
  unfold Bx.may at hb'
  have key : ∀ x y z x' y' z', x < b.s.x.toNat → y < b.s.y.toNat → z < b.s.z.toNat → x' < b.s.x.toNat → y' < b.s.y.toNat → z' < b.s.z.toNat → d.num (b.at d x y z) = d.num (b.at d x' y' z') → x = x' ∧ y = y' ∧ z = z' := by
    intro x y z x' y' z' h1 h2 h3 h4 h5 h6 e
    have e2 := V3.num_one hd (Bx.at_inside hd x y z) (Bx.at_inside hd x' y' z') e
    unfold Bx.at at e2
    injection e2 with e3 e4 e5
    exact ⟨run_one (by omega) (by omega) (by omega) (by omega) e3, run_one (by omega) (by omega) (by omega) (by omega) e4, run_one (by omega) (by omega) (by omega) (by omega) e5⟩
  unfold Bx.nZ
  refine nodup_flatMap_range (fun z hz => ?_) (fun z z' m hz hz' hm hm' => ?_)
  · unfold Bx.nY
    refine nodup_flatMap_range (fun y hy => ?_) (fun y y' m hy hy' hm hm' => ?_)
    · exact pairwise_range_map (fun i j hi hj e => (key _ _ _ _ _ _ hi hy hz hj hy hz e).1)
    · simp only [Bx.nX, List.mem_map, List.mem_range] at hm hm'
      obtain ⟨x, hx, rfl⟩ := hm
      obtain ⟨x', hx', e⟩ := hm'
      exact (key _ _ _ _ _ _ hx hy hz hx' hy' hz e.symm).2.1
  · simp only [Bx.nY, Bx.nX, List.mem_flatMap, List.mem_map, List.mem_range] at hm hm'
    obtain ⟨y, hy, x, hx, rfl⟩ := hm
    obtain ⟨y', hy', x', hx', e⟩ := hm'
    exact (key _ _ _ _ _ _ hx hy hz hx' hy' hz' e.symm).2.2

theorem Bx.all_rise (d : V3) (b : Bx) : (b.all d).Pairwise (· < ·) := by
  unfold Bx.all Bx.upto
  refine List.Pairwise.filter _ ?_
  rw [List.pairwise_map]
  exact (List.pairwise_lt_range).imp (fun h => by omega)
theorem Bx.nodes_eq {d : V3} {b : Bx} (hd : d.may) (hb : b.may d) : sorted (b.nZ d b.s.z.toNat) = b.all d :=
  rise_ext (sorted_rise (Bx.nZ_nodup hd hb)) (Bx.all_rise d b) (fun x => ((List.mergeSort_perm _ _).mem_iff).trans (Bx.nZ_all hd hb x))
end
end Go.Proofs.YtofoenlhbmammaaGreat
