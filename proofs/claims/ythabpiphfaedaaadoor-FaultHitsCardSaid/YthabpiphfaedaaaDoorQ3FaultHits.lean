/- INSERT of a number into a row of the call's own: Go's own text walked. -/
import Derived.RangeFuncBox
import Derived.Laws.Rows
import Derived.Test.YthabpiphfaedaaaDoorQ1FaultHits
import Derived.Test.YthabpiphfaedaaaDoorQ2FaultHits
namespace Go.Proofs.YthabpiphfaedaaaDoor

section
open Go.RowKit Go.Shelf

/-- A block of cells, known whole. -/
def Blk (W : World) (B : Nat) (t : TypeId) (cs : Array Value) : Prop := W.heap[B]? = some (.cells cs t (0, 0))
theorem Blk.lt {W : World} {B : Nat} {t : TypeId} {cs : Array Value} (h : Blk W B t cs) : B < W.heap.size := (Array.getElem?_eq_some_iff.1 h).1
theorem Blk.cell {W : World} {B : Nat} {t : TypeId} {cs : Array Value} (h : Blk W B t cs) (k : Nat) (v : Value) (hk : cs[k]? = some v) : W.cell? ⟨B, k, none⟩ = some v := by
  simp [World.cell?, show W.heap[B]? = _ from h, hk]
theorem Blk.frozen {W : World} {B : Nat} {t : TypeId} {cs : Array Value} (h : Blk W B t cs) (k : Nat) : W.frozen? ⟨B, k, none⟩ = false := by simp [World.frozen?, show W.heap[B]? = _ from h]
theorem Blk.new (W : World) (t : TypeId) (cs : Array Value) : Blk (W.alloc (.cells cs t)) W.heap.size t cs := World.alloc_heap_new W _
theorem Blk.kept {W W' : World} {row : Option Nat} {B : Nat} {t : TypeId} {cs : Array Value} (h : Blk W B t cs) (hg : W.grownBy W' row) (hne : some B ≠ row) : Blk W' B t cs := (hg.block B h.lt hne).trans h
theorem Blk.own {W W' : World} {row : Option Nat} {B : Nat} {t : TypeId} {cs : Array Value} (h : Blk W B t cs) (hg : W.grownBy W' row) (hr : ∀ r, row = some r → ∃ o : Obj, W.heap[r]? = some o ∧ o.isCells = false) : Blk W' B t cs :=
  h.kept hg (fun e => by obtain ⟨o, ho, hc⟩ := hr B e.symm; rw [show W.heap[B]? = _ from h] at ho; cases ho; cases hc)
theorem Blk.alloc {W : World} {B : Nat} {t : TypeId} {cs : Array Value} (h : Blk W B t cs) (o : Obj) : Blk (W.alloc o) B t cs := h.kept (World.grownBy_alloc W o none) (by simp)
theorem Blk.keep {W W' : World} {N B : Nat} {t : TypeId} {cs : Array Value} (h : Blk W B t cs) (hb : Below N W W') (hB : B < N) : Blk W' B t cs := (hb.block B hB).trans h
theorem Blk.below {W W' : World} {B : Nat} {t : TypeId} {cs : Array Value} (h : Blk W B t cs) (hb : Below W.heap.size W W') : Blk W' B t cs := h.keep hb h.lt
theorem Blk.drew {W : World} {B : Nat} {t : TypeId} {cs : Array Value} (h : Blk W B t cs) : Blk W.drew B t cs := h
theorem Blk.drewN {W : World} {B : Nat} {t : TypeId} {cs : Array Value} (h : Blk W B t cs) (n : Nat) : Blk (W.drewN n) B t cs := h
theorem Blk.other {W : World} {B : Nat} {t : TypeId} {cs : Array Value} (h : Blk W B t cs) (b k : Nat) (v : Value) (hne : B ≠ b) : Blk (W.setCell ⟨b, k, none⟩ v) B t cs := (Below.heap_setCell W ⟨b, k, none⟩ v B hne).trans h
theorem Blk.set {W : World} {B : Nat} {t : TypeId} {cs : Array Value} (h : Blk W B t cs) (k : Nat) (v : Value) : Blk (W.setCell ⟨B, k, none⟩ v) B t (cs.setIfInBounds k v) := heap_setCell_same W B k cs t v h
theorem Blk.dims {W : World} {B : Nat} {t : TypeId} {d : V3} (h : Blk W B t #[.int .i64 d.x, .int .i64 d.y, .int .i64 d.z]) : DimsAt W B d := ⟨h.cell 0 _ rfl, h.cell 1 _ rfl, h.cell 2 _ rfl⟩
theorem Blk.box {W : World} {B : Nat} {t : TypeId} {b : Bx} (h : Blk W B t #[.int .i64 b.b.x, .int .i64 b.b.y, .int .i64 b.b.z, .int .i64 b.s.x, .int .i64 b.s.y, .int .i64 b.s.z]) : BxAt W B b :=
  ⟨h.cell 0 _ rfl, h.cell 1 _ rfl, h.cell 2 _ rfl, h.cell 3 _ rfl, h.cell 4 _ rfl, h.cell 5 _ rfl⟩
/-- The block behind the turn of one that is no cells. -/
theorem Blk.putObj {W : World} {B : Nat} {t : TypeId} {cs : Array Value} (h : Blk W B t cs) {l : Nat} {o : Obj} (o' : Obj) (hl : W.heap[l]? = some o) (ho : o.isCells = false) : Blk (W.putObj l o') B t cs :=
  h.own (grownBy_putObj' W l o') (fun r e => by cases e; exact ⟨o, hl, ho⟩)
end

section
open Go.RowKit Go.Shelf

/-- A row of the call's own is handed back; below its place nothing has turned. -/
def RN (w : World) (B : Nat) (l : List Int) : Ending → World → Prop := fun e w' => ∃ v, e = .returned v ∧ w'.ownsRow B 3 1 v l.length (ic l) ∧ Below B w w'
theorem ic1 (s : Int) : ic [s] = [.int .i64 s] := rfl
theorem blk_cells {w : World} {vb : Nat} {ty : TypeId} {s : Int} (h : Blk w vb ty #[.int .i64 s]) : ∀ j u, (ic [s])[j]? = some u → w.cell? ((⟨vb, 0, none⟩ : Addr).add j) = some u := by
  intro j u hu
  rw [Addr.add_lit, Nat.zero_add]
  exact h.cell j u (by rw [ic1] at hu; simpa using hu)

set_option maxRecDepth 100000 in set_option maxHeartbeats 4000000 in
theorem ins_end (B : Nat) (v : Value) (c : List Int) (s : Int) (vb : Nat) (ty : TypeId) (w : World) (hB : B ≤ w.heap.size) (ho : w.ownsRow B 3 1 v c.length (ic c)) (hl : c.length ≤ 30000) (hs : Blk w vb ty #[.int .i64 s]) :
    Calls Tryd.prog 97 #[v, .int .i64 c.length, .slice (some ⟨vb, 0, none⟩) 1 1] w (RN w B (c ++ [s])) := by
  obtain ⟨i0, hi, iz0, iz1, iz2⟩ := info_parts infoInt
  have HO := Lib.hid ho
  have HS := Lib.hid (blk_cells hs)
  have HLen := Lib.hid (show (c ++ [s]).length = c.length + 1 by simp)
  have HSl := Lib.hid (ic_app c [s])
  unfold RN
  rw [HLen.out, HSl.out]
  rcases ho.2 with ⟨rfl, hz⟩ | ⟨g, cap, cur, rfl, hBg, hg, hnc, hcm, hcs, htk⟩
  · have hl0 : c = [] := List.eq_nil_of_length_eq_zero hz
    subst hl0
    clear ho hs hz
    go_enter Tryd.func97, Tryd.ntmps97
    go_wp2_with (at_builtin; refine wpList_append_own _ rfl _ _ 38 rfl B 3 i0 (.int .i64 0) 1 8 Tryd.underlying38 hi iz0 iz1 iz2 rfl (by decide) _ _ _ rfl HO.out ⟨vb, 0, none⟩ 1 1 (ic [s]) rfl rfl HS.out (ic_one [s]) ?q1 ?q2 ?q3 ?_)
    case q1 => unfold maxLen; decide
    case q2 => decide
    case q3 => exact hB
    intro v' w1 hown hgrow _
    have hB1 := own_below HO.out hgrow hB
    have HO1 := Lib.hid hown
    clear hown hgrow
    go_wp2_with fail
    go_returns
    exact ⟨_, rfl, HO1.out, hB1⟩
  · have hn : c.length ≤ cap := hnc
    have hcm2 : cap ≤ 9223372036854775807 := by unfold maxLen at hcm; omega
    clear ho hs hg hcs htk hnc hcm
    generalize hN : c.length = n at *
    go_enter Tryd.func97, Tryd.ntmps97
    go_wp2_with (at_builtin; refine wpList_append_own _ rfl _ _ 38 rfl B 3 i0 (.int .i64 0) 1 8 Tryd.underlying38 hi iz0 iz1 iz2 rfl (by decide) _ _ _ rfl HO.out ⟨vb, 0, none⟩ 1 1 (ic [s]) rfl rfl HS.out (ic_one [s]) ?q1 ?q2 ?q3 ?_)
    all_goals try (first | omega | (unfold maxLen; omega))
    all_goals
      intro v' w1 hown hgrow _
      have hB1 := own_below HO.out hgrow hB
      have HO1 := Lib.hid hown
      clear hown hgrow
      go_wp2_with fail
      go_returns
      exact ⟨_, rfl, HO1.out, hB1⟩
end
end Go.Proofs.YthabpiphfaedaaaDoor
