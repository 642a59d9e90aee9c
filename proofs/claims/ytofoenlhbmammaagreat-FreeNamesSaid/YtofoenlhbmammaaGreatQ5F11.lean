/- BOX: the canonical box; how many midplanes. -/
import Derived.RangeFuncBox
import Derived.Laws.Rows
import Derived.IntWalk
import Derived.Test.YtofoenlhbmammaaGreatQ2F11
import Derived.Test.YtofoenlhbmammaaGreatQ3F11
import Derived.Test.YtofoenlhbmammaaGreatQ4F11
import Derived.Test.YtofoenlhbmammaaGreatQ0Cal1F11
set_option linter.unusedVariables false
set_option linter.unusedSimpArgs false
namespace Go.Proofs.YtofoenlhbmammaaGreat

section
open Go.RowKit Go.Shelf

/-- A block of cells, known whole. -/
def Blk (W : World) (B : Nat) (t : TypeId) (cs : Array Value) : Prop := W.heap[B]? = some (.cells cs t (0, 0))
theorem Blk.lt {W : World} {B : Nat} {t : TypeId} {cs : Array Value} (h : Blk W B t cs) : B < W.heap.size := (Array.getElem?_eq_some_iff.1 h).1
theorem Blk.cell {W : World} {B : Nat} {t : TypeId} {cs : Array Value} (h : Blk W B t cs) (k : Nat) (v : Value) (hk : cs[k]? = some v) : W.cell? ⟨B, k, none⟩ = some v := by
  simp [World.cell?, show W.heap[B]? = _ from h, hk]
theorem Blk.frozen {W : World} {B : Nat} {t : TypeId} {cs : Array Value} (h : Blk W B t cs) (k : Nat) : W.frozen? ⟨B, k, none⟩ = false := by simp [World.frozen?, show W.heap[B]? = _ from h]
theorem Blk.new (W : World) (t : TypeId) (cs : Array Value) : Blk (W.alloc (.cells cs t)) W.heap.size t cs := World.alloc_heap_new W _
theorem Blk.kept {W W' : World} {row : Option Nat} {B : Nat} {t : TypeId} {cs : Array Value} (h : Blk W B t cs) (hg : W.grownBy W' row) (hne : some B ≠ row) : Blk W' B t cs := (hg.block B h.lt hne).trans h
theorem Blk.own {W W' : World} {row : Option Nat} {B : Nat} {t : TypeId} {cs : Array Value} (h : Blk W B t cs) (hg : W.grownBy W' row) (hr : ∀ r, row = some r → ∃ o : Obj, W.heap[r]? = some o ∧ o.isCells = false) : Blk W' B t cs :=
  h.kept hg (fun e => by obtain ⟨o, ho, hc⟩ := hr B e.symm; rw [show W.heap[B]? = _ from h] at ho; cases ho; cases hc)
theorem Blk.alloc {W : World} {B : Nat} {t : TypeId} {cs : Array Value} (h : Blk W B t cs) (o : Obj) : Blk (W.alloc o) B t cs := h.kept (World.grownBy_alloc W o none) (by simp)
theorem Blk.keep {W W' : World} {N B : Nat} {t : TypeId} {cs : Array Value} (h : Blk W B t cs) (hb : Below N W W') (hB : B < N) : Blk W' B t cs := (hb.block B hB).trans h
theorem Blk.below {W W' : World} {B : Nat} {t : TypeId} {cs : Array Value} (h : Blk W B t cs) (hb : Below W.heap.size W W') : Blk W' B t cs := h.keep hb h.lt
theorem Blk.drew {W : World} {B : Nat} {t : TypeId} {cs : Array Value} (h : Blk W B t cs) : Blk W.drew B t cs := h
theorem Blk.drewN {W : World} {B : Nat} {t : TypeId} {cs : Array Value} (h : Blk W B t cs) (n : Nat) : Blk (W.drewN n) B t cs := h
theorem Blk.other {W : World} {B : Nat} {t : TypeId} {cs : Array Value} (h : Blk W B t cs) (b k : Nat) (v : Value) (hne : B ≠ b) : Blk (W.setCell ⟨b, k, none⟩ v) B t cs := (Below.heap_setCell W ⟨b, k, none⟩ v B hne).trans h
theorem Blk.set {W : World} {B : Nat} {t : TypeId} {cs : Array Value} (h : Blk W B t cs) (k : Nat) (v : Value) : Blk (W.setCell ⟨B, k, none⟩ v) B t (cs.setIfInBounds k v) := heap_setCell_same W B k cs t v h
theorem Blk.dims {W : World} {B : Nat} {t : TypeId} {d : V3} (h : Blk W B t #[.int .i64 d.x, .int .i64 d.y, .int .i64 d.z]) : DimsAt W B d := ⟨h.cell 0 _ rfl, h.cell 1 _ rfl, h.cell 2 _ rfl⟩
theorem Blk.box {W : World} {B : Nat} {t : TypeId} {b : Bx} (h : Blk W B t #[.int .i64 b.b.x, .int .i64 b.b.y, .int .i64 b.b.z, .int .i64 b.s.x, .int .i64 b.s.y, .int .i64 b.s.z]) : BxAt W B b :=
  ⟨h.cell 0 _ rfl, h.cell 1 _ rfl, h.cell 2 _ rfl, h.cell 3 _ rfl, h.cell 4 _ rfl, h.cell 5 _ rfl⟩
/-- The block behind the turn of one that is no cells. -/
theorem Blk.putObj {W : World} {B : Nat} {t : TypeId} {cs : Array Value} (h : Blk W B t cs) {l : Nat} {o : Obj} (o' : Obj) (hl : W.heap[l]? = some o) (ho : o.isCells = false) : Blk (W.putObj l o') B t cs :=
  h.own (grownBy_putObj' W l o') (fun r e => by cases e; exact ⟨o, hl, ho⟩)
end

section
open Go.RowKit Go.Shelf

/-- A slot, ended if it is theirs. -/
def cutS (ow to : Int) (s : Sl) : Sl := if s.o = ow then ⟨s.f, min s.t to, s.o⟩ else s
def cutB (ow to : Int) (s : Sl) : Bool := decide ((cutS ow to s).f < (cutS ow to s).t)
/-- What is left of a calendar. -/
def cutL (ow to : Int) (c : List Sl) : List Sl := (c.map (cutS ow to)).filter (fun s => decide (s.f < s.t))
theorem cutL_succ {c : List Sl} {k : Nat} (hk : k < c.length) (ow to : Int) : cutL ow to (c.take (k + 1)) = cutL ow to (c.take k) ++ (if (cutS ow to c[k]).f < (cutS ow to c[k]).t then [cutS ow to c[k]] else []) := by
  unfold cutL
  rw [List.take_add_one, List.getElem?_eq_getElem hk, List.map_append, List.filter_append]
  congr 1
  simp only [Option.toList, List.map_cons, List.map_nil, List.filter_cons, List.filter_nil, decide_eq_true_eq]
theorem cutL_len (ow to : Int) (c : List Sl) : (cutL ow to c).length ≤ c.length := by
  unfold cutL
  exact Nat.le_trans (List.length_filter_le _ _) (by simp)
/-- A new calendar is handed back; nothing that was there has turned. -/
def RS (w : World) (l : List Sl) : Ending → World → Prop := fun e w' => ∃ v, e = .returned v ∧ w'.ownsRow w.heap.size 68 3 v l.length (slc l) ∧ Below w.heap.size w w'
theorem infoSlot : (Tryz.prog.info? 68).map (fun i => (i.zero, i.size, i.bytes)) = some (some (.agg #[.int .i64 0, .int .i64 0, .int .i64 0]), 3, 24) := by kernel_rfl
theorem slc_app (a b : List Sl) : slc (a ++ b) = slc a ++ slc b := by unfold slc; rw [List.flatMap_append]

theorem cell_new3 (w : World) (t : TypeId) (x y z : Value) (B : Nat) (hB : B = w.heap.size) : ∀ j u, ([x, y, z] : List Value)[j]? = some u → (w.alloc (.cells #[x, y, z] t)).cell? ((⟨B, 0, none⟩ : Addr).add j) = some u := by
  intro j u hu
  subst hB
  rw [Addr.add_lit, Nat.zero_add, World.cell?_alloc_at (w := w) _ _ w.heap.size j rfl]
  simpa using hu
end

section
open Go.RowKit Go.Shelf

theorem cellOf_alloc (w : World) (x : Value) (t : TypeId) : (w.alloc (.cells #[x] t)).cell? ⟨w.heap.size, 0, none⟩ = some x := by
  rw [World.cell?_alloc_new]; rfl
/-- What Cut hands back. -/
def cutV (ow to : Int) (c : List Sl) : List Sl := if calE c = 0 then cutL ow to c else []
/-- A new calendar with an error is handed back. -/
def RSE (w : World) (l : List Sl) (n : Int) : Ending → World → Prop := fun e w' => ∃ v, e = .returned (.tuple #[v, .int .i64 n]) ∧ w'.ownsRow w.heap.size 68 3 v l.length (slc l) ∧ Below w.heap.size w w'
end

section
open Go.RowKit Go.Shelf

/-- A box as it is told. -/
def Bx.can (d : V3) (b : Bx) : Bx := ⟨⟨bif b.s.x == d.x then 0 else b.b.x, bif b.s.y == d.y then 0 else b.b.y, bif b.s.z == d.z then 0 else b.b.z⟩, b.s⟩
def Bx.zero : Bx := ⟨⟨0, 0, 0⟩, ⟨0, 0, 0⟩⟩
def canV (d : V3) (b : Bx) : Bx := if chk d b = 0 then b.can d else Bx.zero
def Bx.vol (b : Bx) : Int := b.s.x * b.s.y * b.s.z
def volV (d : V3) (b : Bx) : Int := if chk d b = 0 then b.vol else 0

theorem chk_may {d : V3} {b : Bx} (h : chk d b = 0) : d.may ∧ b.may d := by
  unfold chk okIf at h
  by_cases hd : d.may
  · rw [if_pos hd] at h
    by_cases hb : b.may d
    · exact ⟨hd, hb⟩
    · rw [if_neg hb] at h; omega
  · rw [if_neg hd] at h; omega
theorem chk_of {d : V3} {b : Bx} (hd : d.may) (hb : b.may d) : chk d b = 0 := by rw [chk, if_pos hd, okIf_yes hb]

set_option maxRecDepth 100000 in set_option maxHeartbeats 4000000 in
theorem box_Canon_ok (d : V3) (b : Bx) (w : World) (h : chk d b = 0) : Calls Tryz.prog 91 #[.agg #[.int .i64 d.x, .int .i64 d.y, .int .i64 d.z], .agg #[.int .i64 b.b.x, .int .i64 b.b.y, .int .i64 b.b.z, .int .i64 b.s.x, .int .i64 b.s.y, .int .i64 b.s.z]] w (RB w (.tuple #[.agg #[.int .i64 (b.can d).b.x, .int .i64 (b.can d).b.y, .int .i64 (b.can d).b.z, .int .i64 (b.can d).s.x, .int .i64 (b.can d).s.y, .int .i64 (b.can d).s.z], .int .i64 0])) := by
  have HC := Lib.hid (fun W => by have := box_Check d b W; rw [h] at this; exact this)
  clear h
  cases g0 : b.s.x == d.x <;> cases g1 : b.s.y == d.y <;> cases g2 : b.s.z == d.z
  all_goals
    have hq := Lib.hid (show b.can d = _ by simp only [Bx.can, g0, g1, g2, cond_true, cond_false]; rfl)
    rw [hq.out]
    go_enter Tryz.func91, Tryz.ntmps91
    go_wp2_with fail
    refine (HC.out _).mono ?_
    rintro e w1 ⟨rfl, hb1⟩
    (obtain ⟨hc1, hf1⟩ := bcell hb1; have hz1 := hb1.size; (try simp at hz1); have hB : Below w.heap.size w w1 := (by (repeat (first | (with_reducible exact Below.refl _ _) | (with_reducible assumption) | (with_reducible refine below_alloc ?_ _) | (with_reducible refine below_drewN ?_ _) | (with_reducible refine Below.drew ?_) | (with_reducible refine below_then ?_ (by with_reducible assumption)) | (with_reducible refine Below.setCell ?_ (by go_size) _)))); obtain ⟨hcB, hfB⟩ := bcell hB; (try have z0 : w.heap.size < w1.heap.size := by omega); (try have z1 : w.heap.size + 1 < w1.heap.size := by omega); (try have z2 : w.heap.size + 2 < w1.heap.size := by omega); (try have z3 : w.heap.size + 3 < w1.heap.size := by omega))
    go_wp2_with fail
    refine wp_loop_rounds 4 ?_
    go_wp2_with (rw [rounds_succ])
    refine bodyPost_ret ?_ rfl ⟨rfl, ?_⟩
    · simp [results, Tryz.f91, go_sem, hc1, hf1]
    · (repeat (first | (with_reducible exact Below.refl _ _) | (with_reducible assumption) | (with_reducible refine below_alloc ?_ _) | (with_reducible refine below_drewN ?_ _) | (with_reducible refine Below.drew ?_) | (with_reducible refine below_then ?_ (by with_reducible assumption)) | (with_reducible refine Below.setCell ?_ (by go_size) _)))

set_option maxRecDepth 100000 in set_option maxHeartbeats 4000000 in
theorem box_Canon_no (d : V3) (b : Bx) (w : World) (h : ¬ chk d b = 0) : Calls Tryz.prog 91 #[.agg #[.int .i64 d.x, .int .i64 d.y, .int .i64 d.z], .agg #[.int .i64 b.b.x, .int .i64 b.b.y, .int .i64 b.b.z, .int .i64 b.s.x, .int .i64 b.s.y, .int .i64 b.s.z]] w (RB w (.tuple #[.agg #[.int .i64 0, .int .i64 0, .int .i64 0, .int .i64 0, .int .i64 0, .int .i64 0], .int .i64 (chk d b)])) := by
  have HC := Lib.hid (fun W => box_Check d b W)
  have hn : (chk d b == 0) = false := by simpa using h
  have hm : (chk d b != 0) = true := by simpa using h
  clear h
  go_enter Tryz.func91, Tryz.ntmps91
  go_wp2_with fail
  refine (HC.out _).mono ?_
  rintro e w1 ⟨rfl, hb1⟩
  (obtain ⟨hc1, hf1⟩ := bcell hb1; have hz1 := hb1.size; (try simp at hz1); have hB : Below w.heap.size w w1 := (by (repeat (first | (with_reducible exact Below.refl _ _) | (with_reducible assumption) | (with_reducible refine below_alloc ?_ _) | (with_reducible refine below_drewN ?_ _) | (with_reducible refine Below.drew ?_) | (with_reducible refine below_then ?_ (by with_reducible assumption)) | (with_reducible refine Below.setCell ?_ (by go_size) _)))); obtain ⟨hcB, hfB⟩ := bcell hB; (try have z0 : w.heap.size < w1.heap.size := by omega); (try have z1 : w.heap.size + 1 < w1.heap.size := by omega); (try have z2 : w.heap.size + 2 < w1.heap.size := by omega); (try have z3 : w.heap.size + 3 < w1.heap.size := by omega))
  go_wp2_with fail
  refine bodyPost_ret ?_ rfl ⟨rfl, ?_⟩
  · simp [results, Tryz.f91, go_sem, hc1, hf1]
  · (repeat (first | (with_reducible exact Below.refl _ _) | (with_reducible assumption) | (with_reducible refine below_alloc ?_ _) | (with_reducible refine below_drewN ?_ _) | (with_reducible refine Below.drew ?_) | (with_reducible refine below_then ?_ (by with_reducible assumption)) | (with_reducible refine Below.setCell ?_ (by go_size) _)))

theorem box_Canon (d : V3) (b : Bx) (w : World) : Calls Tryz.prog 91 #[.agg #[.int .i64 d.x, .int .i64 d.y, .int .i64 d.z], .agg #[.int .i64 b.b.x, .int .i64 b.b.y, .int .i64 b.b.z, .int .i64 b.s.x, .int .i64 b.s.y, .int .i64 b.s.z]] w (RB w (.tuple #[.agg #[.int .i64 (canV d b).b.x, .int .i64 (canV d b).b.y, .int .i64 (canV d b).b.z, .int .i64 (canV d b).s.x, .int .i64 (canV d b).s.y, .int .i64 (canV d b).s.z], .int .i64 (chk d b)])) := by
  by_cases h : chk d b = 0
  · rw [canV, if_pos h, h]; exact box_Canon_ok d b w h
  · rw [canV, if_neg h]; exact box_Canon_no d b w h
end
end Go.Proofs.YtofoenlhbmammaaGreat
