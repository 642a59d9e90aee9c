/- OWN: rows of the call's own, boxes of the call's own, and what they abide. -/
import Derived.Test.YtofoenlhbmammaaProg
import Derived.Test.YtofoenlhbmammaaQ0BaseG13
set_option linter.unusedVariables false
set_option linter.unusedSimpArgs false
namespace Go.Proofs.Ytofoenlhbmammaa

section
open Go.RowKit Go.Shelf

theorem own_keep {w w1 : World} {base : Nat} {e : TypeId} {size : Nat} {v : Value} {n : Nat} {xs : List Value} (h : w.ownsRow base e size v n xs) (hb : Below w.heap.size w w1) : w1.ownsRow base e size v n xs := by
  refine ⟨h.1, ?_⟩
  rcases h.2 with hn | ⟨g, cap, cur, rfl, hbg, hg, rest⟩
  · exact .inl hn
  · exact .inr ⟨g, cap, cur, rfl, hbg, (hb.block g (Array.getElem?_eq_some_iff.1 hg).1).trans hg, rest⟩

theorem own_mono {w : World} {base base' : Nat} {e : TypeId} {size : Nat} {v : Value} {n : Nat} {xs : List Value} (h : w.ownsRow base e size v n xs) (hb : base' ≤ base) : w.ownsRow base' e size v n xs := by
  refine ⟨h.1, ?_⟩
  rcases h.2 with hn | ⟨g, cap, cur, rfl, hbg, rest⟩
  · exact .inl hn
  · exact .inr ⟨g, cap, cur, rfl, Nat.le_trans hb hbg, rest⟩

theorem own_below {w w1 : World} {base : Nat} {e : TypeId} {size : Nat} {v : Value} {n : Nat} {xs : List Value} (h : w.ownsRow base e size v n xs) (hg : w.grownBy w1 v.ownBlock) (hB : base ≤ w.heap.size) : Below base w w1 :=
  (Below.refl base w).grown hg hB (fun k hk => (h.lt k hk).1)

/-- Three numbers lie in a block. -/
structure DimsAt (w : World) (B : Nat) (d : V3) : Prop where
  c0 : w.cell? ⟨B, 0, none⟩ = some (.int .i64 d.x)
  c1 : w.cell? ⟨B, 1, none⟩ = some (.int .i64 d.y)
  c2 : w.cell? ⟨B, 2, none⟩ = some (.int .i64 d.z)

theorem DimsAt.lt {w : World} {B : Nat} {d : V3} (h : DimsAt w B d) : B < w.heap.size := World.block_lt_of_cell? w _ h.c0
theorem DimsAt.keep {w W : World} {N B : Nat} {d : V3} (h : DimsAt w B d) (hb : Below N w W) (hB : B < N) : DimsAt W B d :=
  ⟨(hb.cell (p := ⟨B, 0, none⟩) hB).trans h.c0, (hb.cell (p := ⟨B, 1, none⟩) hB).trans h.c1, (hb.cell (p := ⟨B, 2, none⟩) hB).trans h.c2⟩

/-- A box lies in a block. -/
structure BxAt (w : World) (B : Nat) (b : Bx) : Prop where
  c0 : w.cell? ⟨B, 0, none⟩ = some (.int .i64 b.b.x)
  c1 : w.cell? ⟨B, 1, none⟩ = some (.int .i64 b.b.y)
  c2 : w.cell? ⟨B, 2, none⟩ = some (.int .i64 b.b.z)
  c3 : w.cell? ⟨B, 3, none⟩ = some (.int .i64 b.s.x)
  c4 : w.cell? ⟨B, 4, none⟩ = some (.int .i64 b.s.y)
  c5 : w.cell? ⟨B, 5, none⟩ = some (.int .i64 b.s.z)

theorem BxAt.lt {w : World} {B : Nat} {b : Bx} (h : BxAt w B b) : B < w.heap.size := World.block_lt_of_cell? w _ h.c0
theorem BxAt.keep {w W : World} {N B : Nat} {b : Bx} (h : BxAt w B b) (hb : Below N w W) (hB : B < N) : BxAt W B b :=
  ⟨(hb.cell (p := ⟨B, 0, none⟩) hB).trans h.c0, (hb.cell (p := ⟨B, 1, none⟩) hB).trans h.c1, (hb.cell (p := ⟨B, 2, none⟩) hB).trans h.c2,
   (hb.cell (p := ⟨B, 3, none⟩) hB).trans h.c3, (hb.cell (p := ⟨B, 4, none⟩) hB).trans h.c4, (hb.cell (p := ⟨B, 5, none⟩) hB).trans h.c5⟩

/-- A new list of integers is handed back; nothing that was there has turned. -/
def RI (w : World) (l : List Int) : Ending → World → Prop := fun e w' =>
  ∃ v, e = .returned v ∧ w'.ownsRow w.heap.size 3 1 v l.length (l.map (Value.int .i64)) ∧ Below w.heap.size w w'

theorem infoInt : (Try.prog.info? 3).map (fun i => (i.zero, i.size, i.bytes)) = some (some (.int .i64 0), 1, 8) := by kernel_rfl
theorem Calls.rb_eq {P : Program} {f : FuncId} {args : Array Value} {w : World} {v v' : Value} (h : Calls P f args w (RB w v)) (e : v = v') : Calls P f args w (RB w v') := e ▸ h

/-- What lies from an address on. -/
def Rd (w : World) (base : Option Addr) (cs : List Value) : Prop :=
  ∀ i v, cs[i]? = some v → ∃ b off, base = some ⟨b, off, none⟩ ∧ w.cell? ⟨b, off + i, none⟩ = some v

theorem Rd.keep {w W : World} {base : Option Addr} {cs : List Value} (h : Rd w base cs) (hb : Below w.heap.size w W) : Rd W base cs := fun i v hv => by
  obtain ⟨b, off, e, hc⟩ := h i v hv
  exact ⟨b, off, e, (hb.cell (p := ⟨b, off + i, none⟩) (World.block_lt_of_cell? w _ hc)).trans hc⟩
theorem Rd.nil (w : World) (base : Option Addr) : Rd w base [] := fun i v h => by simp at h

/-- A row of the call's own, read. -/
theorem own_rd {w : World} {B : Nat} {e : TypeId} {size : Nat} {v : Value} {n : Nat} {xs : List Value} (h : w.ownsRow B e size v n xs) : ∃ base cap, v = .slice base n cap ∧ Rd w base xs ∧ n ≤ cap := by
  rcases h.2 with ⟨rfl, rfl⟩ | ⟨g, cap, cur, rfl, _, hg, hn, _⟩
  · have : xs = [] := List.eq_nil_of_length_eq_zero (by simpa using h.1)
    subst this
    exact ⟨none, 0, rfl, Rd.nil _ _, Nat.le_refl _⟩
  · refine ⟨_, cap, rfl, fun i u hu => ⟨g, 0, rfl, ?_⟩, hn⟩
    rw [Nat.zero_add, h.cellAt i (by have := (List.getElem?_eq_some_iff.1 hu).1; rw [h.1] at this; exact this)]
    exact hu

theorem getElem?_map_int {l : List Int} {k : Nat} (h : k < l.length) : (l.map (Value.int .i64))[k]? = some (.int .i64 l[k]) := by simp [h]

theorem cell_new1 (w : World) (t : TypeId) (x : Value) : ∀ j u, ([x] : List Value)[j]? = some u → (w.alloc (.cells #[x] t)).cell? ((⟨w.heap.size, 0, none⟩ : Addr).add j) = some u := by
  intro j u hu
  match j, hu with
  | 0, hu =>
    have e : (⟨w.heap.size, 0, none⟩ : Addr).add 0 = ⟨w.heap.size, 0, none⟩ := by unfold Addr.add; split <;> simp_all
    rw [e, World.cell?_alloc_new]
    simpa using hu
end
end Go.Proofs.Ytofoenlhbmammaa
