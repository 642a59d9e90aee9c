/- APPEND of a slice, nil too: as an operation, and at a step of a region that draws its order. -/
import Derived.Test.YtofoenlhbmammaaGreatProg
import Derived.WalkSpells
import Derived.IntWalk
import Derived.Deep.RegionLaw
import Derived.Test.YtofoenlhbmammaaGreatQ1F11
set_option linter.unusedVariables false
set_option linter.unusedSimpArgs false
namespace Go.Proofs.YtofoenlhbmammaaGreat

section
open Go.RowKit Go.Shelf

theorem own_keep {w w1 : World} {base : Nat} {e : TypeId} {size : Nat} {v : Value} {n : Nat} {xs : List Value} (h : w.ownsRow base e size v n xs) (hb : Below w.heap.size w w1) : w1.ownsRow base e size v n xs := by
  refine ⟨h.1, ?_⟩
  rcases h.2 with hn | ⟨g, cap, cur, rfl, hbg, hg, rest⟩
  · exact .inl hn
  · exact .inr ⟨g, cap, cur, rfl, hbg, (hb.block g (Array.getElem?_eq_some_iff.1 hg).1).trans hg, rest⟩

theorem own_mono {w : World} {base base' : Nat} {e : TypeId} {size : Nat} {v : Value} {n : Nat} {xs : List Value} (h : w.ownsRow base e size v n xs) (hb : base' ≤ base) : w.ownsRow base' e size v n xs := by
  refine ⟨h.1, ?_⟩
  rcases h.2 with hn | ⟨g, cap, cur, rfl, hbg, rest⟩
  · exact .inl hn
  · exact .inr ⟨g, cap, cur, rfl, Nat.le_trans hb hbg, rest⟩

theorem own_below {w w1 : World} {base : Nat} {e : TypeId} {size : Nat} {v : Value} {n : Nat} {xs : List Value} (h : w.ownsRow base e size v n xs) (hg : w.grownBy w1 v.ownBlock) (hB : base ≤ w.heap.size) : Below base w w1 :=
  (Below.refl base w).grown hg hB (fun k hk => (h.lt k hk).1)

/-- Three numbers lie in a block. -/
structure DimsAt (w : World) (B : Nat) (d : V3) : Prop where
  c0 : w.cell? ⟨B, 0, none⟩ = some (.int .i64 d.x)
  c1 : w.cell? ⟨B, 1, none⟩ = some (.int .i64 d.y)
  c2 : w.cell? ⟨B, 2, none⟩ = some (.int .i64 d.z)

theorem DimsAt.lt {w : World} {B : Nat} {d : V3} (h : DimsAt w B d) : B < w.heap.size := World.block_lt_of_cell? w _ h.c0
theorem DimsAt.keep {w W : World} {N B : Nat} {d : V3} (h : DimsAt w B d) (hb : Below N w W) (hB : B < N) : DimsAt W B d :=
  ⟨(hb.cell (p := ⟨B, 0, none⟩) hB).trans h.c0, (hb.cell (p := ⟨B, 1, none⟩) hB).trans h.c1, (hb.cell (p := ⟨B, 2, none⟩) hB).trans h.c2⟩

/-- A box lies in a block. -/
structure BxAt (w : World) (B : Nat) (b : Bx) : Prop where
  c0 : w.cell? ⟨B, 0, none⟩ = some (.int .i64 b.b.x)
  c1 : w.cell? ⟨B, 1, none⟩ = some (.int .i64 b.b.y)
  c2 : w.cell? ⟨B, 2, none⟩ = some (.int .i64 b.b.z)
  c3 : w.cell? ⟨B, 3, none⟩ = some (.int .i64 b.s.x)
  c4 : w.cell? ⟨B, 4, none⟩ = some (.int .i64 b.s.y)
  c5 : w.cell? ⟨B, 5, none⟩ = some (.int .i64 b.s.z)

theorem BxAt.lt {w : World} {B : Nat} {b : Bx} (h : BxAt w B b) : B < w.heap.size := World.block_lt_of_cell? w _ h.c0
theorem BxAt.keep {w W : World} {N B : Nat} {b : Bx} (h : BxAt w B b) (hb : Below N w W) (hB : B < N) : BxAt W B b :=
  ⟨(hb.cell (p := ⟨B, 0, none⟩) hB).trans h.c0, (hb.cell (p := ⟨B, 1, none⟩) hB).trans h.c1, (hb.cell (p := ⟨B, 2, none⟩) hB).trans h.c2,
   (hb.cell (p := ⟨B, 3, none⟩) hB).trans h.c3, (hb.cell (p := ⟨B, 4, none⟩) hB).trans h.c4, (hb.cell (p := ⟨B, 5, none⟩) hB).trans h.c5⟩

/-- A new list of integers is handed back; nothing that was there has turned. -/
def RI (w : World) (l : List Int) : Ending → World → Prop := fun e w' =>
  ∃ v, e = .returned v ∧ w'.ownsRow w.heap.size 3 1 v l.length (l.map (Value.int .i64)) ∧ Below w.heap.size w w'

theorem infoInt : (Tryz.prog.info? 3).map (fun i => (i.zero, i.size, i.bytes)) = some (some (.int .i64 0), 1, 8) := by kernel_rfl
theorem Calls.rb_eq {P : Program} {f : FuncId} {args : Array Value} {w : World} {v v' : Value} (h : Calls P f args w (RB w v)) (e : v = v') : Calls P f args w (RB w v') := e ▸ h

/-- What lies from an address on. -/
def Rd (w : World) (base : Option Addr) (cs : List Value) : Prop :=
  ∀ i v, cs[i]? = some v → ∃ b off, base = some ⟨b, off, none⟩ ∧ w.cell? ⟨b, off + i, none⟩ = some v

theorem Rd.keep {w W : World} {base : Option Addr} {cs : List Value} (h : Rd w base cs) (hb : Below w.heap.size w W) : Rd W base cs := fun i v hv => by
  obtain ⟨b, off, e, hc⟩ := h i v hv
  exact ⟨b, off, e, (hb.cell (p := ⟨b, off + i, none⟩) (World.block_lt_of_cell? w _ hc)).trans hc⟩
theorem Rd.nil (w : World) (base : Option Addr) : Rd w base [] := fun i v h => by simp at h

/-- A row of the call's own, read. -/
theorem own_rd {w : World} {B : Nat} {e : TypeId} {size : Nat} {v : Value} {n : Nat} {xs : List Value} (h : w.ownsRow B e size v n xs) : ∃ base cap, v = .slice base n cap ∧ Rd w base xs ∧ n ≤ cap := by
  rcases h.2 with ⟨rfl, rfl⟩ | ⟨g, cap, cur, rfl, _, hg, hn, _⟩
  · have : xs = [] := List.eq_nil_of_length_eq_zero (by simpa using h.1)
    subst this
    exact ⟨none, 0, rfl, Rd.nil _ _, Nat.le_refl _⟩
  · refine ⟨_, cap, rfl, fun i u hu => ⟨g, 0, rfl, ?_⟩, hn⟩
    rw [Nat.zero_add, h.cellAt i (by have := (List.getElem?_eq_some_iff.1 hu).1; rw [h.1] at this; exact this)]
    exact hu

theorem getElem?_map_int {l : List Int} {k : Nat} (h : k < l.length) : (l.map (Value.int .i64))[k]? = some (.int .i64 l[k]) := by simp [h]

theorem cell_new1 (w : World) (t : TypeId) (x : Value) : ∀ j u, ([x] : List Value)[j]? = some u → (w.alloc (.cells #[x] t)).cell? ((⟨w.heap.size, 0, none⟩ : Addr).add j) = some u := by
  intro j u hu
  match j, hu with
  | 0, hu =>
    have e : (⟨w.heap.size, 0, none⟩ : Addr).add 0 = ⟨w.heap.size, 0, none⟩ := by unfold Addr.add; split <;> simp_all
    rw [e, World.cell?_alloc_new]
    simpa using hu
end

section
open Go.RowKit Go.Shelf

theorem wpList_copyE {P : Program} {ops : Array Oper} {rest : List Oper} {o : Oper} {a : Act} {Q : Exit → Act → World → Prop} (w : World) (hgd : o.guard = none) (s x : Operand) (t : TypeId)
    (ho : o.op = .call { callee := .builtin .append, args := #[s, x], argTypes := #[t, t] })
    (e : TypeId) (i : TypeInfo) (z : Value) (size bytes : Nat) (ht : P.underlying t = some (.slice e)) (hi : P.info? e = some i) (hz : i.zero = some z)
    (hsize : i.size = size) (hby : i.bytes = bytes) (hzs : z.cells.size = size) (hsz : 0 < size) (hb8 : bytes ≤ 100000)
    (L : Nat) (hL : L ≤ w.heap.size) (sv : Value) (hs : a.eval s = sv) (own0 : w.ownsRow L e size sv 0 []) (ao : Option Addr) (m c : Nat) (news : List Value) (hx : a.eval x = .slice ao m c) (hl : news.length = m * size)
    (hnil : ao = none → m = 0 ∧ c = 0) (hr : Rd w ao news) (h1 : ∀ u ∈ news, u.oneCell' = true) (hm : m ≤ 1048576)
    (h : ∀ v' w', w'.ownsRow L e size v' m news → Below L w w' → wpList P ops Q rest (a.put o.dst v') w') : wpList P ops Q (o :: rest) a w := by
  cases ao with
  | some ad =>
    refine wpList_append_own w hgd s x t ho L e i z size bytes ht hi hz hsize hby hzs hsz sv 0 [] hs own0 ad m c news hx hl ?_ h1 ?_ ?_ hL ?_
    · intro j u hu
      obtain ⟨b, off, e, hc⟩ := hr j u hu
      cases e
      rw [Addr.add_lit]
      exact hc
    · unfold maxLen; omega
    · rw [Nat.zero_add]; exact Nat.le_trans (Nat.mul_le_mul hm hb8) (by decide)
    · intro v' w' r1 r2 _
      exact h v' w' (by simpa using r1) (own_below own0 r2 hL)
  | none =>
    obtain ⟨rfl, rfl⟩ := hnil rfl
    have hnews : news = [] := List.eq_nil_of_length_eq_zero (by simpa using hl)
    subst hnews
    refine wpList_plain hgd fun K hK' => ?_
    have hrun := run_append_owned_none (P := P) w L t o.type e i size ht hi _ 0 [] own0
    unfold Oper.wp
    simp [execOp, ho, resolve, invoke, builtin, hs, hx, hrun, Result.andThen]
    exact hK' _ _ (h _ w own0 (Below.refl _ _))
end

section
open Go.RowKit Go.Shelf

/-- A slot: from, to, whose. -/
structure Sl where
  f : Int
  t : Int
  o : Int
deriving DecidableEq
def Sl.cells (s : Sl) : List Value := [.int .i64 s.f, .int .i64 s.t, .int .i64 s.o]
/-- Slots, as they lie. -/
def slc (c : List Sl) : List Value := c.flatMap Sl.cells
theorem slc_len (c : List Sl) : (slc c).length = c.length * 3 := by
  induction c with
  | nil => rfl
  | cons s c ih => simp only [slc, List.flatMap_cons, List.length_append] at ih ⊢; rw [ih]; simp [Sl.cells]; omega
theorem slc_at : ∀ {c : List Sl} {k : Nat} (h : k < c.length) (j : Nat), j < 3 → (slc c)[k * 3 + j]? = c[k].cells[j]?
  | s :: c, 0, _, j, hj => by
    simp only [slc, List.flatMap_cons, Nat.zero_mul, Nat.zero_add, List.getElem_cons_zero]
    rw [List.getElem?_append_left (by simp [Sl.cells]; omega)]
  | s :: c, k + 1, h, j, hj => by
    simp only [slc, List.flatMap_cons, List.getElem_cons_succ]
    rw [List.getElem?_append_right (by simp [Sl.cells]; omega), show (k + 1) * 3 + j - s.cells.length = k * 3 + j by simp [Sl.cells]; omega]
    exact slc_at (c := c) (by simpa using h) j hj

/-- A calendar that came in. -/
structure CIn (w : World) (base : Option Addr) (c : List Sl) : Prop where
  rd : Rd w base (slc c)
  len : c.length ≤ 1000000
theorem CIn.keep {w W : World} {base : Option Addr} {c : List Sl} (h : CIn w base c) (hb : Below w.heap.size w W) : CIn W base c := ⟨h.rd.keep hb, h.len⟩
theorem CIn.at {w : World} {base : Option Addr} {c : List Sl} (h : CIn w base c) {k : Nat} (hk : k < c.length) :
    ∃ b off, base = some ⟨b, off, none⟩ ∧ w.cell? ⟨b, off + k * 3, none⟩ = some (.int .i64 c[k].f) ∧ w.cell? ⟨b, off + k * 3 + 1, none⟩ = some (.int .i64 c[k].t) ∧ w.cell? ⟨b, off + k * 3 + 2, none⟩ = some (.int .i64 c[k].o) ∧ b < w.heap.size := by
  obtain ⟨b, off, e, h0⟩ := h.rd _ _ (show (slc c)[k * 3 + 0]? = some (Value.int .i64 c[k].f) from slc_at hk 0 (by omega))
  obtain ⟨b1, off1, e1, h1⟩ := h.rd _ _ (show (slc c)[k * 3 + 1]? = some (Value.int .i64 c[k].t) from slc_at hk 1 (by omega))
  obtain ⟨b2, off2, e2, h2⟩ := h.rd _ _ (show (slc c)[k * 3 + 2]? = some (Value.int .i64 c[k].o) from slc_at hk 2 (by omega))
  subst e
  cases e1
  cases e2
  exact ⟨b, off, rfl, h0, h1, h2, World.block_lt_of_cell? w _ h0⟩

/-- A span may be; a slot may be. -/
def spMay (f t : Int) : Prop := (0 ≤ f ∧ f < t) ∧ t ≤ 1099511627776
instance (f t : Int) : Decidable (spMay f t) := by unfold spMay; infer_instance
def Sl.may (s : Sl) : Prop := spMay s.f s.t ∧ (1 ≤ s.o ∧ s.o ≤ 1099511627776)
instance (s : Sl) : Decidable s.may := by unfold Sl.may; infer_instance

set_option maxRecDepth 100000 in set_option maxHeartbeats 4000000 in
theorem time_Check (f t : Int) (w : World) : Calls Tryz.prog 51 #[.agg #[.int .i64 f, .int .i64 t]] w (RB w (.int .i64 (okIf (spMay f t) 2))) := by
  go_enter Tryz.func51, Tryz.ntmps51
  go_wp2
  all_goals
    go_returns
    refine ⟨?_, by (repeat (first | (with_reducible exact Below.refl _ _) | (with_reducible assumption) | (with_reducible refine below_alloc ?_ _) | (with_reducible refine below_drewN ?_ _) | (with_reducible refine Below.drew ?_) | (with_reducible refine below_then ?_ (by with_reducible assumption)) | (with_reducible refine Below.setCell ?_ (by go_size) _)))⟩
    first | exact ret_ok (by unfold spMay; omega) | exact ret_err (by unfold spMay; omega)
set_option maxRecDepth 100000 in set_option maxHeartbeats 4000000 in
theorem ref07_May (f t : Int) (w : World) : Calls Tryz.prog 56 #[.agg #[.int .i64 f, .int .i64 t]] w (RB w (.bool (decide (spMay f t)))) := by
  go_enter Tryz.func56, Tryz.ntmps56
  go_wp2
  all_goals
    go_returns
    refine ⟨?_, by (repeat (first | (with_reducible exact Below.refl _ _) | (with_reducible assumption) | (with_reducible refine below_alloc ?_ _) | (with_reducible refine below_drewN ?_ _) | (with_reducible refine Below.drew ?_) | (with_reducible refine below_then ?_ (by with_reducible assumption)) | (with_reducible refine Below.setCell ?_ (by go_size) _)))⟩
    first | exact ret_yes (by unfold spMay; omega) | exact ret_no (by unfold spMay; omega) | (refine ret_bool ?_; unfold spMay; simp [*]; done) | (refine ret_bool ?_; unfold spMay; simp; omega)
end

section
open Go.RowKit Go.Shelf

/-- 'append(own, x...)' of a slice that came in, nil too. -/
theorem wpList_addE {P : Program} {ops : Array Oper} {rest : List Oper} {o : Oper} {a : Act} {Q : Exit → Act → World → Prop} (w : World) (hgd : o.guard = none) (s x : Operand) (t : TypeId)
    (ho : o.op = .call { callee := .builtin .append, args := #[s, x], argTypes := #[t, t] })
    (e : TypeId) (i : TypeInfo) (z : Value) (size bytes : Nat) (ht : P.underlying t = some (.slice e)) (hi : P.info? e = some i) (hz : i.zero = some z)
    (hsize : i.size = size) (hby : i.bytes = bytes) (hzs : z.cells.size = size) (hsz : 0 < size) (hb8 : bytes ≤ 100000)
    (L : Nat) (hL : L ≤ w.heap.size) (sv : Value) (hs : a.eval s = sv) (n : Nat) (xs : List Value) (own0 : w.ownsRow L e size sv n xs) (ao : Option Addr) (m c : Nat) (news : List Value) (hx : a.eval x = .slice ao m c) (hl : news.length = m * size)
    (hnil : ao = none → m = 0 ∧ c = 0) (hr : Rd w ao news) (h1 : ∀ u ∈ news, u.oneCell' = true) (hm : n + m ≤ 100000000)
    (h : ∀ v' w', w'.ownsRow L e size v' (n + m) (xs ++ news) → Below L w w' → wpList P ops Q rest (a.put o.dst v') w') : wpList P ops Q (o :: rest) a w := by
  cases ao with
  | some ad =>
    refine wpList_append_own w hgd s x t ho L e i z size bytes ht hi hz hsize hby hzs hsz sv n xs hs own0 ad m c news hx hl ?_ h1 ?_ ?_ hL ?_
    · intro j u hu
      obtain ⟨b, off, e, hc⟩ := hr j u hu
      cases e
      rw [Addr.add_lit]
      exact hc
    · unfold maxLen; omega
    · exact Nat.le_trans (Nat.mul_le_mul hm hb8) (by decide)
    · intro v' w' r1 r2 _
      exact h v' w' r1 (own_below own0 r2 hL)
  | none =>
    obtain ⟨rfl, rfl⟩ := hnil rfl
    have hnews : news = [] := List.eq_nil_of_length_eq_zero (by simpa using hl)
    subst hnews
    refine wpList_plain hgd fun K hK' => ?_
    have hrun := run_append_owned_none (P := P) w L t o.type e i size ht hi _ n xs own0
    unfold Oper.wp
    simp [execOp, ho, resolve, invoke, builtin, hs, hx, hrun, Result.andThen]
    exact hK' _ _ (h _ w (by simpa using own0) (Below.refl _ _))

/-- 'append(own, x...)' at a step of a region that draws its order. -/
theorem step_addE {P : Program} {ops : Array Oper} {o : Oper} {a : Act} {K : Act → World → Prop} {Q : Exit → Act → World → Prop} {E : Prop} (w : World) (hgd : o.guard = none) (s x : Operand) (t : TypeId)
    (ho : o.op = .call { callee := .builtin .append, args := #[s, x], argTypes := #[t, t] })
    (e : TypeId) (i : TypeInfo) (z : Value) (size bytes : Nat) (ht : P.underlying t = some (.slice e)) (hi : P.info? e = some i) (hz : i.zero = some z)
    (hsize : i.size = size) (hby : i.bytes = bytes) (hzs : z.cells.size = size) (hsz : 0 < size) (hb8 : bytes ≤ 100000)
    (L : Nat) (hL : L ≤ w.heap.size) (sv : Value) (hs : a.eval s = sv) (n : Nat) (xs : List Value) (own0 : w.ownsRow L e size sv n xs) (ao : Option Addr) (m c : Nat) (news : List Value) (hx : a.eval x = .slice ao m c) (hl : news.length = m * size)
    (hnil : ao = none → m = 0 ∧ c = 0) (hr : Rd w ao news) (h1 : ∀ u ∈ news, u.oneCell' = true) (hm : n + m ≤ 100000000)
    (h : ∀ v' w', w'.ownsRow L e size v' (n + m) (xs ++ news) → Below L w w' → K (a.put o.dst v') w') : if Region.wanted o (yielded ops a.tmps) = true then Oper.wp P o a w K Q else E := by
  have hw : Region.wanted o (yielded ops a.tmps) = true := by simp [Region.wanted, hgd]
  rw [if_pos hw]
  cases ao with
  | some ad =>
    refine wp_append_own w s x t ho L e i z size bytes ht hi hz hsize hby hzs hsz sv n xs hs own0 ad m c news hx hl ?_ h1 ?_ ?_ hL ?_
    · intro j u hu
      obtain ⟨b, off, e, hc⟩ := hr j u hu
      cases e
      rw [Addr.add_lit]
      exact hc
    · unfold maxLen; omega
    · exact Nat.le_trans (Nat.mul_le_mul hm hb8) (by decide)
    · intro v' w' r1 r2 _
      exact h v' w' r1 (own_below own0 r2 hL)
  | none =>
    obtain ⟨rfl, rfl⟩ := hnil rfl
    have hnews : news = [] := List.eq_nil_of_length_eq_zero (by simpa using hl)
    subst hnews
    have hrun := run_append_owned_none (P := P) w L t o.type e i size ht hi _ n xs own0
    unfold Oper.wp
    simp [execOp, ho, resolve, invoke, builtin, hs, hx, hrun, Result.andThen]
    exact h _ w (by simpa using own0) (Below.refl _ _)
end
end Go.Proofs.YtofoenlhbmammaaGreat
