/- POS: the strides, one axis after another; how many midplanes. -/
import Derived.RangeFuncNested
import Derived.RangeFuncBound
import Derived.RangeFuncCalls
import Derived.RangeFuncLeaves
import Derived.RangeFuncBox
import Derived.Shelf.Abstract
import Derived.Shelf.RegionOpen
import Derived.WalkKit
import Derived.OwnWalkIn
import Derived.TacticsInMore
import Derived.LoopNIn
import Derived.LoopIn
import Derived.Test.YtofoenlhbmammaaProg
import Derived.Test.YtofoenlhbmammaaQ0Pos1G13
import Derived.Test.YtofoenlhbmammaaQ0OwnG13
import Derived.Test.YtofoenlhbmammaaQ0V3G13
set_option linter.unusedVariables false
set_option linter.unusedSimpArgs false
namespace Go.Proofs.Ytofoenlhbmammaa

section
section
open Go.RowKit Go.Shelf
attribute [local go_sem] Oper.semAt_some

/-- How far one step of an axis is. -/
def V3.by (d : V3) : Nat → Int
  | 0 => 1
  | 1 => d.x
  | 2 => d.x * d.y
  | _ => d.n
/-- The axes that came first. -/
def ways : Nat → List (Fin 3)
  | 0 => []
  | 1 => [0]
  | 2 => [0, 1]
  | _ => [0, 1, 2]
theorem ways_succ (k : Nat) (h : k < 3) : ways (k + 1) = ways k ++ [⟨k, h⟩] := by
  match k, h with
  | 0, _ => rfl
  | 1, _ => rfl
  | 2, _ => rfl
theorem ways_length (k : Nat) (h : k ≤ 3) : (ways k).length = k := by
  match k, h with
  | 0, _ => rfl
  | 1, _ => rfl
  | 2, _ => rfl
  | 3, _ => rfl
theorem V3.by_mul (d : V3) (h : d.may) (k : Nat) (hk : k < 3) : d.by k * d.at k = d.by (k + 1) ∧ 1 ≤ d.by k * d.at k ∧ d.by k * d.at k ≤ 4096 := by
  have hxy := V3.xy_le h
  have hnn := V3.n_le h
  unfold V3.n at hnn
  unfold V3.may at h
  match k, hk with
  | 0, _ => simp only [V3.by, V3.at0, Int.one_mul]; exact ⟨trivial, by omega, by omega⟩
  | 1, _ => simp only [V3.by, V3.at1]; exact ⟨trivial, by omega, by omega⟩
  | 2, _ => simp only [V3.by, V3.at2, V3.n]; exact ⟨trivial, by omega, by omega⟩
theorem DimsAt.at {w : World} {B : Nat} {d : V3} (h : DimsAt w B d) (k : Nat) (hk : k < 3) : w.cell? ⟨B, k, none⟩ = some (.int .i64 (d.at k)) := by
  match k, hk with
  | 0, _ => exact h.c0
  | 1, _ => exact h.c1
  | 2, _ => exact h.c2

theorem DimsAt.same {w W : World} {B : Nat} {d : V3} (h : DimsAt w B d) (e : W.heap[B]? = w.heap[B]?) : DimsAt W B d :=
  ⟨(World.cell?_of_block (a := ⟨B, 0, none⟩) (w := w) e).trans h.c0, (World.cell?_of_block (a := ⟨B, 1, none⟩) (w := w) e).trans h.c1, (World.cell?_of_block (a := ⟨B, 2, none⟩) (w := w) e).trans h.c2⟩

set_option maxRecDepth 100000 in set_option maxHeartbeats 4000000 in
theorem strides1_in (F : Fence) (n : Nat) (hf : F.fn 80) (hro : F.round = none) (hn : 1 ≤ n) (l Bd : Nat) (d : V3) (hm : d.may) (Kp : World → World → Prop) (hKp : ∀ W W', Kp W W' → W'.heap[Bd]? = W.heap[Bd]?) (J Jx : List (Fin 3) → World → Prop)
    (hY : ∀ pre x W, J pre W → pre.length < 3 → YieldAt F (n - 1) Try.prog l #[.int .i64 (x.1 : Int), .int .i64 (d.by x.1)] W fun e W' =>
      (e = .returned (.bool true) ∧ J (pre ++ [x]) W' ∧ Kp W W') ∨ (e = .returned (.bool false) ∧ Jx (pre ++ [x]) W'))
    (W : World) (hd : DimsAt W Bd d) (h0 : J [] W) :
    CallsIn F n Try.prog 80 #[.func (.yield l) #[] #[], .pointer (some ⟨Bd, 0, none⟩)] W fun e W' => (∃ v, e = .returned v) ∧
      ((∃ ys, ys = ways 3 ∧ J ys W') ∨ (∃ pre, (∃ k, k ≤ 3 ∧ pre = ways k) ∧ Jx pre W')) := by
  have hm0 := hm
  clear hm
  refine callsIn_of_wp Try.func80 rfl hf ?_ hro
  simp only [Try.ntmps80, List.size_toArray, List.length_cons, List.length_nil, Nat.reduceAdd, Nat.reduceSub, Array.replicate_succ, Array.replicate_zero, List.push_toArray, List.append_toArray, List.nil_append, List.cons_append]
  gi_wp2
  gi_loopw [3, 4] (fun a b wr => ∃ k : Nat, k ≤ 3 ∧ a = .int .i64 k ∧ b = .int .i64 (d.by k) ∧ J (ways k) wr ∧ DimsAt wr Bd d) (fun a _ _ => 3 - (intOf a).toNat)
  case atStart => exact ⟨0, by omega, rfl, rfl, h0, hd⟩
  case round =>
    obtain ⟨k, hk, rfl, rfl, hJ, hdd⟩ := hrel
    by_cases hlt : k < 3
    · obtain ⟨fn, tmps, assign, body, hy, hR⟩ := hY _ ⟨k, hlt⟩ wr hJ (by rw [ways_length k hk]; exact hlt)
      dsimp only at hy
      obtain ⟨hm1, hm2, hm3⟩ := d.by_mul hm0 k hlt
      have hM := Lib.hid hm1
      have hKd := Lib.hid (fun (W' : World) (h : Kp wr W') => hdd.same (hKp _ _ h))
      have hAt := Lib.hid (fun (W' : World) (h : DimsAt W' Bd d) => h.at k hlt)
      clear hm1
      gi_wp2
      refine hR.mono ?_
      rintro e W3 (⟨rfl, hJ3, hk3⟩ | ⟨rfl, hJx3⟩)
      · have hd3 := hKd.out W3 hk3
        have hcx := hAt.out W3 hd3
        gi_wp2
        go_roundw
        case rel => exact ⟨k + 1, by omega, by go_num, by rw [hM.out], by rw [ways_succ k hlt]; exact hJ3, hd3⟩
        case measure => simp [intOf]; omega
      · gi_wp2
        go_end0
        exact ⟨⟨_, rfl⟩, .inr ⟨_, ⟨k + 1, by omega, (ways_succ k hlt).symm⟩, hJx3⟩⟩
    · obtain rfl : k = 3 := by omega
      gi_wp2
      refine ⟨fun _ h => (by cases h), ?_⟩
      gi_wp2
      go_end0
      exact ⟨⟨_, rfl⟩, .inl ⟨_, rfl, hJ⟩⟩

/-- What a round keeps: all below a block, and one block more. -/
def Keep2 (n₀ B : Nat) (W W' : World) : Prop := Below n₀ W W' ∧ W'.heap[B]? = W.heap[B]?
theorem keep2_t {n₀ B : Nat} {X Y Z : World} (h : Keep2 n₀ B X Y) (k : Keep2 n₀ B Y Z) : Keep2 n₀ B X Z := ⟨h.1.trans k.1, k.2.trans h.2⟩
theorem keep2_b {w : World} {n₀ B : Nat} (hn : n₀ ≤ w.heap.size) (hB : B < w.heap.size) (W : World) (l : Nat) (o o' : Obj) (hl : w.heap.size ≤ l) (he : W.heap[l]? = some o) (h1 : o.isCells = false) (h2 : o.isWalk = false) : Keep2 n₀ B W (W.putObj l o') :=
  ⟨belowK_b hn W l o o' hl he h1 h2, World.putObj_heap_other (by omega)⟩

set_option maxRecDepth 100000 in set_option maxHeartbeats 4000000 in
theorem strides_in (F : Fence) (n : Nat) (hf : F.fn 62) (hro : F.round = none) (d : V3) (w : World) :
    CallsIn F n Try.prog 62 #[.agg #[.int .i64 d.x, .int .i64 d.y, .int .i64 d.z]] w fun e w' => e = .returned (.func (.func 80) #[] #[.pointer (some ⟨w.heap.size, 0, none⟩)]) ∧ w' = w.alloc (.cells #[.int .i64 d.x, .int .i64 d.y, .int .i64 d.z] 23) := by
  refine callsIn_of_wp Try.func62 rfl hf ?_ hro
  simp only [Try.ntmps62, List.size_toArray, List.length_cons, List.length_nil, Nat.reduceAdd, Nat.reduceSub, Array.replicate_succ, Array.replicate_zero, List.push_toArray, List.append_toArray, List.nil_append, List.cons_append]
  gi_wp2
  go_ret
  exact ⟨rfl, rfl⟩

theorem strides_stops (F : Fence) (n : Nat) (hf : F.fn 80) (hro : F.round = none) (hn : 1 ≤ n) (Bd n₀ : Nat) (d : V3) (hm : d.may) (w : World) (hBd : Bd < w.heap.size) (hd : DimsAt w Bd d) :
    SeqStopsK F n Try.prog 80 #[.pointer (some ⟨Bd, 0, none⟩)] (fun x : Fin 3 => #[Value.int .i64 (x.1 : Int), Value.int .i64 (d.by x.1)]) (Keep2 n₀ Bd) (fun ys => ys = ways 3)
      (fun pre => ∃ k, k ≤ 3 ∧ pre = ways k) 3 w := fun l J Jx W hW _ _ hY h0 =>
  strides1_in F n hf hro hn l Bd d hm (Keep2 n₀ Bd) (fun _ _ h => h.2) J Jx hY W (hd.keep hW hBd) h0
end

section
open Go.RowKit Go.Shelf

set_option maxRecDepth 100000 in set_option maxHeartbeats 4000000 in
theorem pos_Many (d : V3) (w : World) : Calls Try.prog 56 #[.agg #[.int .i64 d.x, .int .i64 d.y, .int .i64 d.z]] w (RB w (.tuple #[.int .i64 d.many, .int .i64 d.err])) := by
  by_cases h : d.may
  · rw [V3.many_ok h, V3.err_ok h]
    have hxy := V3.xy_le h
    have hnn := V3.n_le h
    have HC := Lib.hid (fun W => by have := pos_Check d W; rw [okIf_yes h] at this; exact this)
    have hq := Lib.hid (show d.n = d.x * d.y * d.z from rfl)
    rw [hq.out] at hnn
    clear h
    go_enter Try.func56, Try.ntmps56
    go_wp2_with fail
    refine (HC.out _).mono ?_
    rintro e w1 ⟨rfl, hb1⟩
    (obtain ⟨hc1, hf1⟩ := bcell hb1; have hz1 := hb1.size; (try simp at hz1); have hB : Below w.heap.size w w1 := (by (repeat (first | (with_reducible exact Below.refl _ _) | (with_reducible assumption) | (with_reducible refine below_alloc ?_ _) | (with_reducible refine below_drewN ?_ _) | (with_reducible refine Below.drew ?_) | (with_reducible refine below_then ?_ (by with_reducible assumption)) | (with_reducible refine Below.setCell ?_ (by go_size) _)))); obtain ⟨hcB, hfB⟩ := bcell hB; (try have z0 : w.heap.size < w1.heap.size := by omega); (try have z1 : w.heap.size + 1 < w1.heap.size := by omega); (try have z2 : w.heap.size + 2 < w1.heap.size := by omega); (try have z3 : w.heap.size + 3 < w1.heap.size := by omega))
    go_wp2_with (refine wp_region_quiet_lit (by kernel_rfl) (by kernel_rfl) ?_; (repeat (any_goals (first | go_big_quiet_step (fail) | quiet_step (fail) | (refine wpQuiet_step (fun K hK => ?_); go_simp; split <;> (refine hK _ ?_; clear hK K))))); all_goals (refine wpQuiet_nil ?_; intro _ hw'; obtain ⟨nq, hw''⟩ := hw'; subst hw''))
    all_goals
      go_returns
      exact ⟨by rw [hq.out]; rfl, by (repeat (first | (with_reducible exact Below.refl _ _) | (with_reducible assumption) | (with_reducible refine below_alloc ?_ _) | (with_reducible refine below_drewN ?_ _) | (with_reducible refine Below.drew ?_) | (with_reducible refine below_then ?_ (by with_reducible assumption)) | (with_reducible refine Below.setCell ?_ (by go_size) _)))⟩
  · rw [V3.many_no h, V3.err_no h]
    have HC := Lib.hid (fun W => by have := pos_Check d W; rw [okIf_no h] at this; exact this)
    clear h
    go_enter Try.func56, Try.ntmps56
    go_wp2_with fail
    refine (HC.out _).mono ?_
    rintro e w1 ⟨rfl, hb1⟩
    (obtain ⟨hc1, hf1⟩ := bcell hb1; have hz1 := hb1.size; (try simp at hz1); have hB : Below w.heap.size w w1 := (by (repeat (first | (with_reducible exact Below.refl _ _) | (with_reducible assumption) | (with_reducible refine below_alloc ?_ _) | (with_reducible refine below_drewN ?_ _) | (with_reducible refine Below.drew ?_) | (with_reducible refine below_then ?_ (by with_reducible assumption)) | (with_reducible refine Below.setCell ?_ (by go_size) _)))); obtain ⟨hcB, hfB⟩ := bcell hB; (try have z0 : w.heap.size < w1.heap.size := by omega); (try have z1 : w.heap.size + 1 < w1.heap.size := by omega); (try have z2 : w.heap.size + 2 < w1.heap.size := by omega); (try have z3 : w.heap.size + 3 < w1.heap.size := by omega))
    go_wp2_with (refine wp_region_quiet_lit (by kernel_rfl) (by kernel_rfl) ?_; (repeat (any_goals (first | go_big_quiet_step (fail) | quiet_step (fail) | (refine wpQuiet_step (fun K hK => ?_); go_simp; split <;> (refine hK _ ?_; clear hK K))))); all_goals (refine wpQuiet_nil ?_; intro _ hw'; obtain ⟨nq, hw''⟩ := hw'; subst hw''))
    all_goals
      go_returns
      exact ⟨rfl, by (repeat (first | (with_reducible exact Below.refl _ _) | (with_reducible assumption) | (with_reducible refine below_alloc ?_ _) | (with_reducible refine below_drewN ?_ _) | (with_reducible refine Below.drew ?_) | (with_reducible refine below_then ?_ (by with_reducible assumption)) | (with_reducible refine Below.setCell ?_ (by go_size) _)))⟩
end
end
end Go.Proofs.Ytofoenlhbmammaa
