/- POS: one step back; what a round keeps; SCORE: the sides of a midplane. -/
import Derived.RangeFuncNested
import Derived.RangeFuncBound
import Derived.RangeFuncCalls
import Derived.RangeFuncLeaves
import Derived.RangeFuncBox
import Derived.RangeFuncWrites
import Derived.Shelf.Abstract
import Derived.Shelf.RegionOpen
import Derived.WalkKit
import Derived.OwnWalkIn
import Derived.TacticsInMore
import Derived.LoopNIn
import Derived.LoopIn
import Derived.Test.YthabpiphfaedaaaDoorQ2ScoreTells
import Derived.Test.YthabpiphfaedaaaDoorQ0PosN
import Derived.Test.YthabpiphfaedaaaDoorQ0Wire3
import Derived.Test.YthabpiphfaedaaaDoorQ0ScoreA
namespace Go.Proofs.YthabpiphfaedaaaDoor

section
section
open Go.RowKit Go.Shelf

set_option maxRecDepth 100000 in set_option maxHeartbeats 4000000 in
theorem pos_Back0 (d p : V3) (m r : Int) (w : World) (hn : 2 ≤ d.x ∧ d.x ≤ 16) (px : 0 ≤ p.x ∧ p.x < d.x)
    (HO : RowKit.Hid (∀ W, Calls Tryd.prog 82 #[.agg #[.int .i64 d.x, .int .i64 d.y, .int .i64 d.z], .int .i64 m] W (RB W (.tuple #[.agg #[.int .i64 p.x, .int .i64 p.y, .int .i64 p.z], .int .i64 0]))))
    (HA : RowKit.Hid (∀ W, Calls Tryd.prog 47 #[.agg #[.int .i64 d.x, .int .i64 d.y, .int .i64 d.z], .agg #[.int .i64 ((p.x + -1) % d.x), .int .i64 p.y, .int .i64 p.z]] W (RB W (.tuple #[.int .i64 r, .int .i64 0])))) :
    Calls Tryd.prog 55 #[.agg #[.int .i64 d.x, .int .i64 d.y, .int .i64 d.z], .int .i64 m, .int .i64 0, .int .i64 (-1)] w (RB w (.tuple #[.int .i64 r, .int .i64 0])) := by
  have hm : Int.tmod (-1) d.x = -1 := by rw [Int.neg_tmod, Int.tmod_eq_of_lt (by omega) (by omega)]
  have hz : d.x ≠ 0 := by omega
  go_enter Tryd.func55, Tryd.ntmps55
  go_wp2_with fail
  refine (HO.out _).mono ?_
  rintro e w1 ⟨rfl, hb1⟩
  (obtain ⟨hc1, hf1⟩ := bcell hb1; have hz1 := hb1.size; (try simp at hz1); have hB : Below w.heap.size w w1 := (by (repeat (first | (with_reducible exact Below.refl _ _) | (with_reducible assumption) | (with_reducible refine below_alloc ?_ _) | (with_reducible refine below_drewN ?_ _) | (with_reducible refine Below.drew ?_) | (with_reducible refine below_then ?_ (by with_reducible assumption)) | (with_reducible refine Below.setCell ?_ (by go_size) _)))); obtain ⟨hcB, hfB⟩ := bcell hB; (try have z0 : w.heap.size < w1.heap.size := by omega); (try have z1 : w.heap.size + 1 < w1.heap.size := by omega); (try have z2 : w.heap.size + 2 < w1.heap.size := by omega); (try have z3 : w.heap.size + 3 < w1.heap.size := by omega))
  go_wp2_with fail
  go_region
  all_goals
    go_wp2_with fail
    refine (HA.out _).mono ?_
    rintro e w2 ⟨rfl, hb2⟩
    have hBB := below_then (show Below w.heap.size w _ by (repeat (first | (with_reducible exact Below.refl _ _) | (with_reducible assumption) | (with_reducible refine below_alloc ?_ _) | (with_reducible refine below_drewN ?_ _) | (with_reducible refine Below.drew ?_) | (with_reducible refine below_then ?_ (by with_reducible assumption)) | (with_reducible refine Below.setCell ?_ (by go_size) _)))) hb2
    go_wp2_with fail
    go_returns
    exact ⟨rfl, hBB⟩
set_option maxRecDepth 100000 in set_option maxHeartbeats 4000000 in
theorem pos_Back1 (d p : V3) (m r : Int) (w : World) (hn : 2 ≤ d.y ∧ d.y ≤ 16) (px : 0 ≤ p.y ∧ p.y < d.y)
    (HO : RowKit.Hid (∀ W, Calls Tryd.prog 82 #[.agg #[.int .i64 d.x, .int .i64 d.y, .int .i64 d.z], .int .i64 m] W (RB W (.tuple #[.agg #[.int .i64 p.x, .int .i64 p.y, .int .i64 p.z], .int .i64 0]))))
    (HA : RowKit.Hid (∀ W, Calls Tryd.prog 47 #[.agg #[.int .i64 d.x, .int .i64 d.y, .int .i64 d.z], .agg #[.int .i64 p.x, .int .i64 ((p.y + -1) % d.y), .int .i64 p.z]] W (RB W (.tuple #[.int .i64 r, .int .i64 0])))) :
    Calls Tryd.prog 55 #[.agg #[.int .i64 d.x, .int .i64 d.y, .int .i64 d.z], .int .i64 m, .int .i64 1, .int .i64 (-1)] w (RB w (.tuple #[.int .i64 r, .int .i64 0])) := by
  have hm : Int.tmod (-1) d.y = -1 := by rw [Int.neg_tmod, Int.tmod_eq_of_lt (by omega) (by omega)]
  have hz : d.y ≠ 0 := by omega
  go_enter Tryd.func55, Tryd.ntmps55
  go_wp2_with fail
  refine (HO.out _).mono ?_
  rintro e w1 ⟨rfl, hb1⟩
  (obtain ⟨hc1, hf1⟩ := bcell hb1; have hz1 := hb1.size; (try simp at hz1); have hB : Below w.heap.size w w1 := (by (repeat (first | (with_reducible exact Below.refl _ _) | (with_reducible assumption) | (with_reducible refine below_alloc ?_ _) | (with_reducible refine below_drewN ?_ _) | (with_reducible refine Below.drew ?_) | (with_reducible refine below_then ?_ (by with_reducible assumption)) | (with_reducible refine Below.setCell ?_ (by go_size) _)))); obtain ⟨hcB, hfB⟩ := bcell hB; (try have z0 : w.heap.size < w1.heap.size := by omega); (try have z1 : w.heap.size + 1 < w1.heap.size := by omega); (try have z2 : w.heap.size + 2 < w1.heap.size := by omega); (try have z3 : w.heap.size + 3 < w1.heap.size := by omega))
  go_wp2_with fail
  go_region
  all_goals
    go_wp2_with fail
    refine (HA.out _).mono ?_
    rintro e w2 ⟨rfl, hb2⟩
    have hBB := below_then (show Below w.heap.size w _ by (repeat (first | (with_reducible exact Below.refl _ _) | (with_reducible assumption) | (with_reducible refine below_alloc ?_ _) | (with_reducible refine below_drewN ?_ _) | (with_reducible refine Below.drew ?_) | (with_reducible refine below_then ?_ (by with_reducible assumption)) | (with_reducible refine Below.setCell ?_ (by go_size) _)))) hb2
    go_wp2_with fail
    go_returns
    exact ⟨rfl, hBB⟩
set_option maxRecDepth 100000 in set_option maxHeartbeats 4000000 in
theorem pos_Back2 (d p : V3) (m r : Int) (w : World) (hn : 2 ≤ d.z ∧ d.z ≤ 16) (px : 0 ≤ p.z ∧ p.z < d.z)
    (HO : RowKit.Hid (∀ W, Calls Tryd.prog 82 #[.agg #[.int .i64 d.x, .int .i64 d.y, .int .i64 d.z], .int .i64 m] W (RB W (.tuple #[.agg #[.int .i64 p.x, .int .i64 p.y, .int .i64 p.z], .int .i64 0]))))
    (HA : RowKit.Hid (∀ W, Calls Tryd.prog 47 #[.agg #[.int .i64 d.x, .int .i64 d.y, .int .i64 d.z], .agg #[.int .i64 p.x, .int .i64 p.y, .int .i64 ((p.z + -1) % d.z)]] W (RB W (.tuple #[.int .i64 r, .int .i64 0])))) :
    Calls Tryd.prog 55 #[.agg #[.int .i64 d.x, .int .i64 d.y, .int .i64 d.z], .int .i64 m, .int .i64 2, .int .i64 (-1)] w (RB w (.tuple #[.int .i64 r, .int .i64 0])) := by
  have hm : Int.tmod (-1) d.z = -1 := by rw [Int.neg_tmod, Int.tmod_eq_of_lt (by omega) (by omega)]
  have hz : d.z ≠ 0 := by omega
  go_enter Tryd.func55, Tryd.ntmps55
  go_wp2_with fail
  refine (HO.out _).mono ?_
  rintro e w1 ⟨rfl, hb1⟩
  (obtain ⟨hc1, hf1⟩ := bcell hb1; have hz1 := hb1.size; (try simp at hz1); have hB : Below w.heap.size w w1 := (by (repeat (first | (with_reducible exact Below.refl _ _) | (with_reducible assumption) | (with_reducible refine below_alloc ?_ _) | (with_reducible refine below_drewN ?_ _) | (with_reducible refine Below.drew ?_) | (with_reducible refine below_then ?_ (by with_reducible assumption)) | (with_reducible refine Below.setCell ?_ (by go_size) _)))); obtain ⟨hcB, hfB⟩ := bcell hB; (try have z0 : w.heap.size < w1.heap.size := by omega); (try have z1 : w.heap.size + 1 < w1.heap.size := by omega); (try have z2 : w.heap.size + 2 < w1.heap.size := by omega); (try have z3 : w.heap.size + 3 < w1.heap.size := by omega))
  go_wp2_with fail
  go_region
  all_goals
    go_wp2_with fail
    refine (HA.out _).mono ?_
    rintro e w2 ⟨rfl, hb2⟩
    have hBB := below_then (show Below w.heap.size w _ by (repeat (first | (with_reducible exact Below.refl _ _) | (with_reducible assumption) | (with_reducible refine below_alloc ?_ _) | (with_reducible refine below_drewN ?_ _) | (with_reducible refine Below.drew ?_) | (with_reducible refine below_then ?_ (by with_reducible assumption)) | (with_reducible refine Below.setCell ?_ (by go_size) _)))) hb2
    go_wp2_with fail
    go_returns
    exact ⟨rfl, hBB⟩

theorem pos_Back (d : V3) (m : Int) (k : Nat) (w : World) (hd : d.may) (h0 : 0 ≤ m) (h1 : m < d.n) (hk : k < 3) (hn : d.at k ≠ 1) :
    Calls Tryd.prog 55 #[.agg #[.int .i64 d.x, .int .i64 d.y, .int .i64 d.z], .int .i64 m, .int .i64 k, .int .i64 (-1)] w (RB w (.tuple #[.int .i64 (d.step m k (-1)), .int .i64 0])) := by
  have HO := Lib.hid (fun W => pos_Of_ok d m W hd h0 h1)
  have HA := fun W => pos_At_ok d (d.stepped m k (-1)) W hd (V3.stepped_inside hd h0 h1 hk (-1))
  obtain ⟨px, py, pz⟩ := V3.pos_inside hd h0 h1
  obtain ⟨hx, hy, hz⟩ := hd
  match k, hk with
  | 0, _ => exact pos_Back0 d (d.pos m) m _ w ⟨by have : d.x ≠ 1 := hn; omega, hx.2⟩ px HO (Lib.hid HA)
  | 1, _ => exact pos_Back1 d (d.pos m) m _ w ⟨by have : d.y ≠ 1 := hn; omega, hy.2⟩ py HO (Lib.hid HA)
  | 2, _ => exact pos_Back2 d (d.pos m) m _ w ⟨by have : d.z ≠ 1 := hn; omega, hz.2⟩ pz HO (Lib.hid HA)
end

section
open Go.RowKit Go.Shelf

structure KpD (n₀ B : Nat) (W W' : World) : Prop where
  below : Below n₀ W W'
  cells : ∀ b o, b ≠ B → W.heap[b]? = some o → o.isCells = true → W'.heap[b]? = some o
theorem kpD_t {n₀ B : Nat} {X Y Z : World} (h : KpD n₀ B X Y) (k : KpD n₀ B Y Z) : KpD n₀ B X Z := ⟨h.below.trans k.below, fun b o hb ho hc => k.cells b o hb (h.cells b o hb ho hc) hc⟩
theorem kpD_b {w : World} {n₀ B : Nat} (hn : n₀ ≤ w.heap.size) (W : World) (l : Nat) (o o' : Obj) (hl : w.heap.size ≤ l) (he : W.heap[l]? = some o) (h1 : o.isCells = false) (h2 : o.isWalk = false) : KpD n₀ B W (W.putObj l o') :=
  ⟨belowK_b hn W l o o' hl he h1 h2, fun b p hb hp hc => by
    by_cases e : b = l
    · subst e; rw [he] at hp; cases hp; rw [h1] at hc; cases hc
    · exact (World.putObj_heap_other (by omega)).trans hp⟩
theorem KpD.blk {n₀ B b : Nat} {W W' : World} {t : TypeId} {cs : Array Value} (h : KpD n₀ B W W') (hb : Blk W b t cs) (hne : b ≠ B) : Blk W' b t cs := h.cells b _ hne hb rfl
theorem kd_own {W W' : World} {B Bx : Nat} {t : TypeId} {cs : Array Value} {row : Option Nat} (h : Blk W Bx t cs) (hg : W.grownBy W' row) (hr : ∀ r, row = some r → B ≤ r ∧ ∃ o : Obj, W.heap[r]? = some o ∧ o.isCells = false) : Blk W' Bx t cs := h.own hg (fun r e => (hr r e).2)
theorem kpD_alloc {n₀ B : Nat} {W : World} (o : Obj) (h : n₀ ≤ W.heap.size) : KpD n₀ B W (W.alloc o) := ⟨(Below.refl _ _).alloc h _, fun b p _ hb _ => (Below.heap_alloc _ _ _ (Array.getElem?_eq_some_iff.1 hb).1).trans hb⟩
theorem kpD_below {n₀ B : Nat} {W W' : World} (h : n₀ ≤ W.heap.size) (hb : Below W.heap.size W W') : KpD n₀ B W W' := ⟨hb.mono h, fun b p _ hp _ => (hb.block b (Array.getElem?_eq_some_iff.1 hp).1).trans hp⟩
theorem kpD_set {n₀ B k : Nat} {W : World} (v : Value) (h : n₀ ≤ B) : KpD n₀ B W (W.setCell ⟨B, k, none⟩ v) :=
  ⟨(Below.refl n₀ W).setCell (p := ⟨B, k, none⟩) h v, fun b o hb ho _ => (Below.heap_setCell W ⟨B, k, none⟩ v b hb).trans ho⟩
theorem kd_keeps {W W' : World} (hb : Below W.heap.size W W') : KeepsOthers W W' := ⟨hb.size, fun k o hk _ => (hb.block k (Array.getElem?_eq_some_iff.1 hk).1).trans hk⟩
/-- A function's deferred list, where its loops over functions have laid nothing. -/
def kdRec (D : Nat) : Deferred := { target := .collected D, args := #[] }
structure KdAll (W : World) (n₀ : Nat) (ds : List Nat) : Prop where
  lo : ∀ D ∈ ds, n₀ ≤ D
  nd : ds.Nodup
  at' : ∀ D ∈ ds, W.heap[D]? = some (.deferred (some []))
theorem KdAll.lt {W : World} {n₀ : Nat} {ds : List Nat} (h : KdAll W n₀ ds) : ∀ D ∈ ds, D < W.heap.size := fun D hD => (Array.getElem?_eq_some_iff.1 (h.at' D hD)).1
theorem KdAll.below {W W' : World} {n₀ : Nat} {ds : List Nat} (h : KdAll W n₀ ds) (hb : Below W.heap.size W W') : KdAll W' n₀ ds := ⟨h.lo, h.nd, fun D hD => (hb.block D (h.lt D hD)).trans (h.at' D hD)⟩
theorem KdAll.nil (W : World) (n₀ : Nat) : KdAll W n₀ [] := ⟨fun D h => (by cases h), List.nodup_nil, fun D h => (by cases h)⟩
theorem kd_leaves {F : Fence} {n : Nat} {P : Program} {fn : Func} {tmps : Array Value} {R : Ending → World → Prop} {u : FrameMode} (hu : u ≠ .run) {n₀ : Nat} : ∀ (ds : List Nat) (W : World), KdAll W n₀ ds → n₀ ≤ W.heap.size →
    (∀ W', Below n₀ W W' → (∀ (b : Nat) (o : Obj), W.heap[b]? = some o → o.isCells = true → W'.heap[b]? = some o) → LeavesIn F n P fn tmps R [] u W') → LeavesInM F n P fn tmps R (ds.map kdRec) u W
  | [], W, _, _, h => h W (Below.refl _ _) (fun _ _ h _ => h)
  | D :: ds, W, hd, hn, h => by
    have hD := hd.at' D (List.mem_cons_self ..)
    have hlo := hd.lo D (List.mem_cons_self ..)
    have hnd := List.nodup_cons.1 hd.nd
    have hb : Below n₀ W (W.putObj D (.deferred none)) := (Below.refl n₀ W).grown (grownBy_putObj' W D _) hn (fun k e => by cases e; exact hlo)
    have hne : ∀ b, b ≠ D → (W.putObj D (.deferred none)).heap[b]? = W.heap[b]? := fun b e => World.putObj_heap_other (by omega)
    refine ⟨hu, .inl ⟨D, _, rfl, run_takeDeferred hD, kd_leaves hu ds _ ⟨fun E hE => hd.lo E (List.mem_cons_of_mem _ hE), hnd.2, fun E hE => ?_⟩ (by have := hb.size; omega) (fun W' hb' hc' => h W' (hb.trans hb') (fun b o ho hc => hc' b o ?_ hc))⟩⟩
    · exact (hne E (fun e => hnd.1 (e ▸ hE))).trans (hd.at' E (List.mem_cons_of_mem _ hE))
    · refine (hne b (fun e => ?_)).trans ho
      subst e
      rw [hD] at ho
      cases ho
      cases hc
end

section
open Go.RowKit Go.Shelf
attribute [local go_sem] Oper.semAt_some

/-- What is still to come where an axis is begun. -/
def V3.remS (d : V3) (m : Int) : Nat → List Int
  | 0 => sidesV d m
  | 1 => sidesOf d m 1 ++ sidesOf d m 2
  | 2 => sidesOf d m 2
  | _ => []
theorem V3.remS_succ (d : V3) (m : Int) {k : Nat} (hk : k < 3) : d.remS m k = sidesOf d m k ++ d.remS m (k + 1) := by
  match k, hk with
  | 0, _ => rfl
  | 1, _ => rfl
  | 2, _ => exact (List.append_nil _).symm
theorem grown_of_below {W W' : World} (hb : Below W.heap.size W W') : W.grownBy W' none := ⟨hb.os, hb.tape, hb.output, hb.size, fun k hk _ => hb.block k hk⟩
theorem sidesV_le (d : V3) (m : Int) : (sidesV d m).length ≤ 6 := by
  have h : ∀ k, (sidesOf d m k).length ≤ 2 := fun k => by unfold sidesOf; split <;> simp
  unfold sidesV
  rw [List.length_append, List.length_append]
  have := h 0; have := h 1; have := h 2
  omega
def encS (x : Int) : Array Value := #[.int .i64 x]
theorem sides_split {d : V3} {m : Int} {pre rest R : List Int} (hx : sidesV d m = pre ++ rest) {x : Int} (hr : rest = x :: R) : pre.length < 6 ∧ sidesV d m = (pre ++ [x]) ++ R := by
  subst hr
  refine ⟨?_, by rw [hx]; simp⟩
  have := sidesV_le d m
  rw [hx, List.length_append, List.length_cons] at this
  omega
theorem dims_idx (d : V3) (k : Nat) (hk : k < 3) : [Value.int IntKind.i64 d.x, Value.int IntKind.i64 d.y, Value.int IntKind.i64 d.z][k]'(by simpa using hk) = .int .i64 (d.at k) := by
  match k, hk with
  | 0, _ => rfl
  | 1, _ => rfl
  | 2, _ => rfl
theorem by_idx {j : Nat} (hj : j < 2) (b : Int) (hb : b = if j = 0 then 1 else -1) : [Value.int IntKind.i64 1, Value.int IntKind.i64 (-1)][j]'(by simpa using hj) = .int .i64 b := by
  subst hb
  match j, hj with
  | 0, _ => rfl
  | 1, _ => rfl
theorem side_at {d : V3} {m : Int} {R : List Int} (HF : ∀ (k : Nat) (_ : k < 3) W, Calls Tryd.prog 55 #[.agg #[.int .i64 d.x, .int .i64 d.y, .int .i64 d.z], .int .i64 m, .int .i64 k, .int .i64 1] W (RB W (.tuple #[.int .i64 (d.step m k 1), .int .i64 0])))
    (HB : ∀ (k : Nat) (_ : k < 3) (_ : d.at k ≠ 1) W, Calls Tryd.prog 55 #[.agg #[.int .i64 d.x, .int .i64 d.y, .int .i64 d.z], .int .i64 m, .int .i64 k, .int .i64 (-1)] W (RB W (.tuple #[.int .i64 (d.step m k (-1)), .int .i64 0])))
    {k j : Nat} (hk : k < 3) (hd : d.at k ≠ 1) (hj : j < 2) : ∃ b x, b = (if j = 0 then 1 else -1) ∧ (∀ W, Calls Tryd.prog 55 #[.agg #[.int .i64 d.x, .int .i64 d.y, .int .i64 d.z], .int .i64 m, .int .i64 k, .int .i64 b] W (RB W (.tuple #[.int .i64 x, .int .i64 0]))) ∧
      (sidesOf d m k).drop j ++ R = x :: ((sidesOf d m k).drop (j + 1) ++ R) := by
  have hs : sidesOf d m k = [d.step m k 1, d.step m k (-1)] := if_neg hd
  rw [hs]
  match j, hj with
  | 0, _ => exact ⟨1, _, rfl, HF k hk, rfl⟩
  | 1, _ => exact ⟨-1, _, rfl, HB k hk hd, rfl⟩
set_option maxRecDepth 100000 in set_option maxHeartbeats 4000000 in
theorem sides1_in (n : Nat) (hn : 1 ≤ n) (l Bd Bm B n₀ : Nat) (d : V3) (m : Int) (hm : d.may) (h0 : 0 ≤ m) (h1 : m < d.n) (hBd : Bd ≠ B) (hBm : Bm ≠ B) (J Jx : List Int → World → Prop)
    (hY : ∀ pre x W, J pre W → pre.length < 6 → YieldAt Fence.wide (n - 1) Tryd.prog l (encS x) W fun e W' =>
      (e = .returned (.bool true) ∧ J (pre ++ [x]) W' ∧ KpD n₀ B W W') ∨ (e = .returned (.bool false) ∧ Jx (pre ++ [x]) W'))
    (W : World) (hd : Blk W Bd 23 #[.int .i64 d.x, .int .i64 d.y, .int .i64 d.z]) (hbm : Blk W Bm 3 #[.int .i64 m]) (hJ : AbidesFrom W.heap.size J) (hj0 : J [] W) :
    CallsIn Fence.wide n Tryd.prog 118 #[.func (.yield l) #[] #[], .pointer (some ⟨Bd, 0, none⟩), .pointer (some ⟨Bm, 0, none⟩)] W fun e W' => (∃ v, e = .returned v) ∧
      ((∃ ys, ys = sidesV d m ∧ J ys W') ∨ (∃ pre, pre <+: sidesV d m ∧ Jx pre W')) := by
  have HJ := Lib.hid (fun s X Y (h : J s X) (hb : Below X.heap.size X Y) => hJ s X Y none h (grown_of_below hb) (fun r e => by cases e))
  have HY := Lib.hid hY
  have HF := Lib.hid (fun (k : Nat) (hk : k < 3) W => pos_Step d m k 1 W hm h0 h1 hk (by omega) (by omega))
  have HB := Lib.hid (fun (k : Nat) (hk : k < 3) (hne : d.at k ≠ 1) W => pos_Back d m k W hm h0 h1 hk hne)
  have d0 := hd.cell 0 _ rfl
  have d1 := hd.cell 1 _ rfl
  have d2 := hd.cell 2 _ rfl
  have HD := Lib.hid hd
  have HM := Lib.hid hbm
  clear hJ hY hm h0 h1 hd hbm
  refine callsIn_of_wp Tryd.func118 rfl trivial ?_ rfl
  simp only [Tryd.ntmps118, List.size_toArray, List.length_cons, List.length_nil, Nat.reduceAdd, Nat.reduceSub, Array.replicate_succ, Array.replicate_zero, List.push_toArray, List.append_toArray, List.nil_append, List.cons_append]
  gi_wp2
  clear d0 d1 d2
  gi_loopw [11] (fun i wr => ∃ (k : Nat) (pre rest : List Int), k ≤ 3 ∧ i = .int .i64 k ∧ sidesV d m = pre ++ rest ∧ rest = d.remS m k ∧ J pre wr ∧ Blk wr Bd 23 #[.int .i64 d.x, .int .i64 d.y, .int .i64 d.z] ∧ Blk wr Bm 3 #[.int .i64 m]) (fun i _ => 3 - (intOf i).toNat)
  case atStart => exact ⟨0, [], _, by omega, rfl, rfl, rfl, hj0, HD.out, HM.out⟩
  case round =>
    clear HD HM hj0
    obtain ⟨k, pre, rest, hk, rfl, hx, hr, hJs, hbd, hbm⟩ := hrel
    by_cases hlt : k < 3
    · obtain ⟨R, hR0⟩ : ∃ R, R = d.remS m (k + 1) := ⟨_, rfl⟩
      rw [d.remS_succ m hlt, ← hR0] at hr
      have HJs := Lib.hid hJs
      have HX := Lib.hid hx
      have HD := Lib.hid hbd
      have HM := Lib.hid hbm
      have HR0 := Lib.hid hR0
      have HR := Lib.hid hr
      clear hJs hx hbd hbm hR0 hr
      have hidx := dims_idx d k hlt
      have hd3 : decide ((k : Int) < 3) = true := decide_eq_true (by omega)
      gi_wp2
      clear hidx
      gi_loopw [16] (fun i wr => ∃ (j : Nat) (pre rest : List Int), j ≤ 2 ∧ i = .int .i64 j ∧ sidesV d m = pre ++ rest ∧ rest = (sidesOf d m k).drop j ++ R ∧ J pre wr ∧ Blk wr Bd 23 #[.int .i64 d.x, .int .i64 d.y, .int .i64 d.z] ∧ Blk wr Bm 3 #[.int .i64 m]) (fun i _ => 2 - (intOf i).toNat)
      case atStart => exact ⟨0, pre, rest, Nat.zero_le _, rfl, HX.out, HR.out, HJs.out, HD.out, HM.out⟩
      case round =>
        clear HJs HX HD HM HR
        obtain ⟨j, pre, rest, hj, rfl, hx, hr, hJs, hbd, hbm⟩ := hrel
        have HX := Lib.hid hx
        have HD := Lib.hid hbd
        have HM := Lib.hid hbm
        have HJs := Lib.hid hJs
        by_cases hlj : j < 2
        · by_cases hd1 : d.at k = 1
          · have hr' : rest = (sidesOf d m k).drop (j + 1) ++ R := by rw [hr]; unfold sidesOf; rw [if_pos hd1]; simp
            have HR := Lib.hid hr'
            clear hr hr' hx hbd hbm hJs
            have hidx := by_idx hlj (if j = 0 then 1 else -1) rfl
            gi_wp2
            go_roundw
            case rel => exact ⟨j + 1, pre, rest, by omega, by go_num, HX.out, HR.out, HJs.out, HD.out, HM.out⟩
            case measure => (simp [intOf] <;> omega)
          · obtain ⟨b, x, hbx, hS, hdr⟩ := side_at HF.out HB.out hlt hd1 hlj
            have hidx := by_idx hlj b hbx
            rw [hdr] at hr
            obtain ⟨hp6, hx'⟩ := sides_split hx hr
            have HX' := Lib.hid hx'
            have HS := Lib.hid hS
            have HH := Lib.hid hbx
            clear hr hx hx' hS hbx hdr HX HF HB
            have d0 := hbd.cell 0 _ rfl
            have d1 := hbd.cell 1 _ rfl
            have d2 := hbd.cell 2 _ rfl
            have m0 := hbm.cell 0 _ rfl
            clear hbd hbm hJs
            gi_wp2
            refine ⟨trivial, ?_⟩
            refine (callsIn_wide.2 (HS.out _)).mono ?_
            rintro e w1 ⟨rfl, hb1⟩
            have HJ1 := HJ.out _ _ _ HJs.out hb1
            obtain ⟨fn, tmps, assign, body, hyy, hRd⟩ := HY.out pre x w1 HJ1 hp6
            dsimp only [encS] at hyy
            have HD1 := Lib.hid (HD.out.below hb1)
            have HM1 := Lib.hid (HM.out.below hb1)
            clear d0 d1 d2 m0 hb1 HJ1 HD HM HJs hidx
            gi_wp2
            refine hRd.mono ?_
            rintro e W3 (⟨rfl, hJ3, hk3⟩ | ⟨rfl, hJx3⟩)
            · have HJ3 := Lib.hid hJ3
              have HD3 := Lib.hid (hk3.blk HD1.out hBd)
              have HM3 := Lib.hid (hk3.blk HM1.out hBm)
              clear hJ3 hk3 hRd hyy
              gi_wp2
              go_roundw
              case rel => exact ⟨j + 1, pre ++ [x], _, by omega, by go_num, HX'.out, rfl, HJ3.out, HD3.out, HM3.out⟩
              case measure => (simp [intOf] <;> omega)
            · gi_wp2
              refine bodyPost_ret (results_none rfl _ _ _) rfl ?_
              exact ⟨⟨_, rfl⟩, .inr ⟨pre ++ [x], ⟨_, HX'.out.symm⟩, hJx3⟩⟩
        · obtain rfl : j = 2 := by omega
          have hr' : rest = d.remS m (k + 1) := by
            rw [hr, HR0.out]
            unfold sidesOf
            split <;> rfl
          have HR' := Lib.hid hr'
          clear hr hr' hx hbd hbm hJs
          gi_wp2
          go_roundw
          case rel => exact ⟨k + 1, pre, rest, by omega, by go_num, HX.out, HR'.out, HJs.out, HD.out, HM.out⟩
          case measure => (simp [intOf] <;> omega)
    · obtain rfl : k = 3 := by omega
      have hx2 : pre = sidesV d m := by rw [hx, hr]; exact (List.append_nil _).symm
      have HJs := Lib.hid hJs
      clear hr hx hbd hbm hJs
      gi_wp2
      go_end0
      exact ⟨⟨_, rfl⟩, .inl ⟨pre, hx2, HJs.out⟩⟩
theorem sides_in (n : Nat) (d : V3) (m : Int) (w : World) :
    CallsIn Fence.wide n Tryd.prog 83 #[.agg #[.int .i64 d.x, .int .i64 d.y, .int .i64 d.z], .int .i64 m] w fun e w' => e = .returned (.func (.func 118) #[] #[.pointer (some ⟨w.heap.size, 0, none⟩), .pointer (some ⟨w.heap.size + 1, 0, none⟩)]) ∧
      w' = (w.alloc (.cells #[.int .i64 d.x, .int .i64 d.y, .int .i64 d.z] 23)).alloc (.cells #[.int .i64 m] 3) := by
  refine callsIn_of_wp Tryd.func83 rfl trivial ?_ rfl
  simp only [Tryd.ntmps83, List.size_toArray, List.length_cons, List.length_nil, Nat.reduceAdd, Nat.reduceSub, Array.replicate_succ, Array.replicate_zero, List.push_toArray, List.append_toArray, List.nil_append, List.cons_append]
  gi_wp2
  go_ret
  exact ⟨rfl, rfl⟩
theorem sides_stops (n : Nat) (hn : 1 ≤ n) (Bd Bm B n₀ : Nat) (d : V3) (m : Int) (hm : d.may) (h0 : 0 ≤ m) (h1 : m < d.n) (hBd : Bd ≠ B) (hBm : Bm ≠ B) (w : World) (hd : Blk w Bd 23 #[.int .i64 d.x, .int .i64 d.y, .int .i64 d.z]) (hbm : Blk w Bm 3 #[.int .i64 m]) :
    SeqStopsK Fence.wide n Tryd.prog 118 #[.pointer (some ⟨Bd, 0, none⟩), .pointer (some ⟨Bm, 0, none⟩)] encS (KpD n₀ B) (fun ys => ys = sidesV d m) (fun pre => pre <+: sidesV d m) 6 w := fun l J Jx W hW hJ _ hY hj0 =>
  sides1_in n hn l Bd Bm B n₀ d m hm h0 h1 hBd hBm J Jx hY W (hd.below hW) (hbm.below hW) hJ hj0
end
end
end Go.Proofs.YthabpiphfaedaaaDoor
