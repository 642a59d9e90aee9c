/- BOXES in lists, as they lie. -/
import Derived.WalkSpells
import Derived.IntWalk
import Derived.Test.YtofoenlhbmammaaQ0OwnG13
import Derived.Test.YtofoenlhbmammaaQ0BlkG13
set_option linter.unusedVariables false
set_option linter.unusedSimpArgs false
namespace Go.Proofs.Ytofoenlhbmammaa

section
open Go.RowKit Go.Shelf

def Bx.cells (b : Bx) : List Value := [.int .i64 b.b.x, .int .i64 b.b.y, .int .i64 b.b.z, .int .i64 b.s.x, .int .i64 b.s.y, .int .i64 b.s.z]
def bxc (l : List Bx) : List Value := l.flatMap Bx.cells
theorem bxc_len (c : List Bx) : (bxc c).length = c.length * 6 := by
  induction c with
  | nil => rfl
  | cons s c ih => simp only [bxc, List.flatMap_cons, List.length_append] at ih ⊢; rw [ih]; simp [Bx.cells]; omega
theorem bxc_at : ∀ {c : List Bx} {k : Nat} (h : k < c.length) (j : Nat), j < 6 → (bxc c)[k * 6 + j]? = c[k].cells[j]?
  | s :: c, 0, _, j, hj => by
    simp only [bxc, List.flatMap_cons, Nat.zero_mul, Nat.zero_add, List.getElem_cons_zero]
    rw [List.getElem?_append_left (by simp [Bx.cells]; omega)]
  | s :: c, k + 1, h, j, hj => by
    simp only [bxc, List.flatMap_cons, List.getElem_cons_succ]
    rw [List.getElem?_append_right (by simp [Bx.cells]; omega), show (k + 1) * 6 + j - s.cells.length = k * 6 + j by simp [Bx.cells]; omega]
    exact bxc_at (c := c) (by simpa using h) j hj
theorem bxc_app (a b : List Bx) : bxc (a ++ b) = bxc a ++ bxc b := by unfold bxc; rw [List.flatMap_append]
theorem bxc_one (b : Bx) : bxc [b] = b.cells := by unfold bxc; simp
/-- Six cells of a box, from an address on. -/
structure BxO (w : World) (b o : Nat) (x : Bx) : Prop where
  c0 : w.cell? ⟨b, o, none⟩ = some (.int .i64 x.b.x)
  c1 : w.cell? ⟨b, o + 1, none⟩ = some (.int .i64 x.b.y)
  c2 : w.cell? ⟨b, o + 2, none⟩ = some (.int .i64 x.b.z)
  c3 : w.cell? ⟨b, o + 3, none⟩ = some (.int .i64 x.s.x)
  c4 : w.cell? ⟨b, o + 4, none⟩ = some (.int .i64 x.s.y)
  c5 : w.cell? ⟨b, o + 5, none⟩ = some (.int .i64 x.s.z)
  lt : b < w.heap.size
/-- A list of boxes that may be read. -/
structure XIn (w : World) (base : Option Addr) (c : List Bx) : Prop where
  rd : Rd w base (bxc c)
  len : c.length ≤ 100000
theorem XIn.keep {w W : World} {base : Option Addr} {c : List Bx} (h : XIn w base c) (hb : Below w.heap.size w W) : XIn W base c := ⟨h.rd.keep hb, h.len⟩
theorem XIn.at {w : World} {base : Option Addr} {c : List Bx} (h : XIn w base c) {k : Nat} (hk : k < c.length) : ∃ b off, base = some ⟨b, off, none⟩ ∧ BxO w b (off + k * 6) c[k] := by
  obtain ⟨b, off, e, h0⟩ := h.rd _ _ (show (bxc c)[k * 6 + 0]? = some (Value.int .i64 c[k].b.x) from bxc_at hk 0 (by omega))
  obtain ⟨b1, off1, e1, h1⟩ := h.rd _ _ (show (bxc c)[k * 6 + 1]? = some (Value.int .i64 c[k].b.y) from bxc_at hk 1 (by omega))
  obtain ⟨b2, off2, e2, h2⟩ := h.rd _ _ (show (bxc c)[k * 6 + 2]? = some (Value.int .i64 c[k].b.z) from bxc_at hk 2 (by omega))
  obtain ⟨b3, off3, e3, h3⟩ := h.rd _ _ (show (bxc c)[k * 6 + 3]? = some (Value.int .i64 c[k].s.x) from bxc_at hk 3 (by omega))
  obtain ⟨b4, off4, e4, h4⟩ := h.rd _ _ (show (bxc c)[k * 6 + 4]? = some (Value.int .i64 c[k].s.y) from bxc_at hk 4 (by omega))
  obtain ⟨b5, off5, e5, h5⟩ := h.rd _ _ (show (bxc c)[k * 6 + 5]? = some (Value.int .i64 c[k].s.z) from bxc_at hk 5 (by omega))
  subst e
  cases e1
  cases e2
  cases e3
  cases e4
  cases e5
  exact ⟨b, off, rfl, ⟨h0, h1, h2, h3, h4, h5, World.block_lt_of_cell? w _ h0⟩⟩
/-- A list's slice, whole. -/
structure XS (W : World) (v : Value) (c : List Bx) : Prop where
  ex : ∃ base cap, v = .slice base c.length cap ∧ XIn W base c ∧ c.length ≤ cap
theorem XS.keep {w W : World} {v : Value} {c : List Bx} (h : XS w v c) (hb : Below w.heap.size w W) : XS W v c := by
  obtain ⟨base, cap, e, h1, h2⟩ := h.ex
  exact ⟨base, cap, e, h1.keep hb, h2⟩
theorem xs_of_own {W : World} {B : Nat} {v : Value} {c : List Bx} (h : W.ownsRow B 27 6 v c.length (bxc c)) (hl : c.length ≤ 100000) : XS W v c := by
  obtain ⟨base, cap, rfl, rd, hc⟩ := own_rd h
  exact ⟨base, cap, rfl, ⟨rd, hl⟩, hc⟩
theorem xs_nil (W : World) : XS W (.slice none 0 0) [] := ⟨none, 0, rfl, ⟨Rd.nil _ _, Nat.zero_le _⟩, Nat.zero_le _⟩
/-- A new list of boxes is handed back; nothing that was there has turned. -/
def RX (w : World) (l : List Bx) : Ending → World → Prop := fun e w' => ∃ v, e = .returned v ∧ w'.ownsRow w.heap.size 27 6 v l.length (bxc l) ∧ Below w.heap.size w w'
def RXE (w : World) (l : List Bx) (n : Int) : Ending → World → Prop := fun e w' => ∃ v, e = .returned (.tuple #[v, .int .i64 n]) ∧ w'.ownsRow w.heap.size 27 6 v l.length (bxc l) ∧ Below w.heap.size w w'
theorem infoBox : (Try.prog.info? 27).map (fun i => (i.zero, i.size, i.bytes)) = some (some (.agg #[.int .i64 0, .int .i64 0, .int .i64 0, .int .i64 0, .int .i64 0, .int .i64 0]), 6, 48) := by kernel_rfl
theorem cell_new6 (w : World) (t : TypeId) (a b c x y z : Value) (B : Nat) (hB : B = w.heap.size) : ∀ j u, ([a, b, c, x, y, z] : List Value)[j]? = some u → (w.alloc (.cells #[a, b, c, x, y, z] t)).cell? ((⟨B, 0, none⟩ : Addr).add j) = some u := by
  intro j u hu
  subst hB
  rw [Addr.add_lit, Nat.zero_add, World.cell?_alloc_at (w := w) _ _ w.heap.size j rfl]
  simpa using hu
theorem own_bx {w : World} {B n : Nat} {v : Value} {l : List Bx} {x : Bx} (h : w.ownsRow B 27 6 v n (bxc l ++ x.cells)) (hn : n = l.length + 1) : w.ownsRow B 27 6 v (l ++ [x]).length (bxc (l ++ [x])) := by
  subst hn; rw [bxc_app, bxc_one, List.length_append]; exact h
end
end Go.Proofs.Ytofoenlhbmammaa
