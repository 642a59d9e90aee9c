/- PLACE: the cables along one axis: the closure that adds them to a list that lies in a cell. -/
import Derived.Test.YthabpiphfaedaaaPlace1
import Derived.Test.YthabpiphfaedaaaBoxNodes
import Derived.Test.YthabpiphfaedaaaRun2
import Derived.Maps.AppendAt
namespace Go.Proofs.Ythabpiphfaedaaa
open Go.RowKit Go.Shelf

theorem wpList_addA {P : Program} {ops : Array Oper} {rest : List Oper} {o : Oper} {a : Act} {Q : Exit → Act → World → Prop} (w : World) (hgd : o.guard = none) (s x : Operand) (t : TypeId)
    (ho : o.op = .call { callee := .builtin .append, args := #[s, x], argTypes := #[t, t] })
    (e : TypeId) (i : TypeInfo) (z : Value) (size bytes : Nat) (ht : P.underlying t = some (.slice e)) (hi : P.info? e = some i) (hz : i.zero = some z)
    (hsize : i.size = size) (hby : i.bytes = bytes) (hzs : z.cells.size = size) (hsz : 0 < size) (hb8 : bytes ≤ 100000)
    (L : Nat) (hL : L ≤ w.heap.size) (sv : Value) (hs : a.eval s = sv) (n : Nat) (xs : List Value) (own0 : w.ownsRow L e size sv n xs) (ao : Option Addr) (m c : Nat) (news : List Value) (hx : a.eval x = .slice ao m c) (hl : news.length = m * size)
    (hnil : ao = none → m = 0 ∧ c = 0) (hr : Rd w ao news) (h1 : ∀ u ∈ news, u.oneCell' = true) (hm : n + m ≤ 100000000)
    (h : ∀ v' w', w'.ownsRow L e size v' (n + m) (xs ++ news) → w.grownBy w' sv.ownBlock → (v'.ownBlock = sv.ownBlock ∨ v'.ownBlock = some w.heap.size) → wpList P ops Q rest (a.put o.dst v') w') : wpList P ops Q (o :: rest) a w := by
  cases ao with
  | some ad =>
    refine wpList_append_own_at w hgd s x t ho L e i z size bytes ht hi hz hsize hby hzs hsz sv n xs hs own0 ad m c news hx hl ?_ h1 ?_ ?_ hL ?_
    · intro j u hu
      obtain ⟨b, off, e, hc⟩ := hr j u hu
      cases e
      rw [Addr.add_lit]
      exact hc
    · unfold maxLen; omega
    · exact Nat.le_trans (Nat.mul_le_mul hm hb8) (by decide)
    · intro v' w' r1 r2 _ r4
      exact h v' w' r1 r2 r4
  | none =>
    obtain ⟨rfl, rfl⟩ := hnil rfl
    have hnews : news = [] := List.eq_nil_of_length_eq_zero (by simpa using hl)
    subst hnews
    refine wpList_plain hgd fun K hK' => ?_
    have hrun := run_append_owned_none (P := P) w L t o.type e i size ht hi _ n xs own0
    unfold Oper.wp
    simp [execOp, ho, resolve, invoke, builtin, hs, hx, hrun, Result.andThen]
    exact hK' _ _ (h _ w (by simpa using own0) ⟨rfl, rfl, rfl, Nat.le_refl _, fun _ _ _ => rfl⟩ (.inl rfl))
theorem own_none {W : World} {B : Nat} {e : TypeId} {sz : Nat} {ba : Option Addr} {n ca : Nat} {xs : List Value} (h : W.ownsRow B e sz (.slice ba n ca) n xs) (hn : ba = none) : n = 0 ∧ ca = 0 := by
  rcases h.2 with ⟨e1, h2⟩ | ⟨g, cap, cur, e1, _⟩
  · cases e1; exact ⟨rfl, rfl⟩
  · cases e1; cases hn
theorem own_apart {W : World} {B b : Nat} {e : TypeId} {sz n : Nat} {v : Value} {xs : List Value} (h : W.ownsRow B e sz v n xs) (hb : b < B) : v.ownBlock ≠ some b := by
  rcases h.2 with ⟨e1, _⟩ | ⟨g, cap, cur, e1, hg, _⟩
  · subst e1; intro h; cases h
  · subst e1; intro h; simp [Value.ownBlock] at h; omega
theorem own_grown {W W' : World} {b : Nat} {t : TypeId} {cs : Array Value} {v : Value} (h : Blk W b t cs) (hg : W.grownBy W' v.ownBlock) (hv : v.ownBlock ≠ some b) : Blk W' b t cs := (hg.block b h.lt (fun e => hv e.symm)).trans h
/-- A box that is one long along an axis, from where it is. -/
def Bx.thin (b : Bx) (k : Nat) : Bx := ⟨b.b, b.s.put k 1⟩
theorem Bx.thin_may {d : V3} {b : Bx} (hb : b.may d) (k : Nat) (hk : k < 3) : (b.thin k).may d := by
  obtain ⟨hx, hy, hz⟩ := hb
  match k, hk with
  | 0, _ => exact ⟨⟨⟨Int.le_refl _, show (1 : Int) ≤ d.x by omega⟩, hx.2⟩, hy, hz⟩
  | 1, _ => exact ⟨hx, ⟨⟨Int.le_refl _, show (1 : Int) ≤ d.y by omega⟩, hy.2⟩, hz⟩
  | 2, _ => exact ⟨hx, hy, ⟨⟨Int.le_refl _, show (1 : Int) ≤ d.z by omega⟩, hz.2⟩⟩
/-- The cables of lines that begin at midplanes. -/
def cabsOf (d : V3) (p : Pl) (k : Nat) (l : List Int) : List Int := l.flatMap (fun m => d.runV k m (p.b.s.at k) (p.tor k))
def cabs (d : V3) (p : Pl) (k : Nat) : List Int := cabsOf d p k ((p.b.thin k).all d)
def cabsV (d : V3) (p : Pl) : List Int := cabs d p 0 ++ cabs d p 1 ++ cabs d p 2
theorem cabsOf_snoc (d : V3) (p : Pl) (k : Nat) (l : List Int) (m : Int) : cabsOf d p k (l ++ [m]) = cabsOf d p k l ++ d.runV k m (p.b.s.at k) (p.tor k) := by unfold cabsOf; rw [List.flatMap_append]; simp
theorem cabsOf_len (d : V3) (p : Pl) (k : Nat) (l : List Int) : (cabsOf d p k l).length ≤ 16 * l.length := by
  unfold cabsOf
  induction l with
  | nil => simp
  | cons m l ih =>
    have := d.runV_len k m (p.b.s.at k) (p.tor k)
    rw [List.flatMap_cons, List.length_append, List.length_cons]
    omega
theorem Bx.mem_all' {d : V3} {b : Bx} {m : Int} (h : m ∈ b.all d) : 0 ≤ m ∧ m < d.n := by
  unfold Bx.all Bx.upto at h
  obtain ⟨h1, _⟩ := List.mem_filter.1 h
  obtain ⟨j, hj, rfl⟩ := List.mem_map.1 h1
  have := List.mem_range.1 hj
  omega
theorem Bx.all_len' (d : V3) (b : Bx) (hd : d.may) : (b.all d).length ≤ 4096 := by
  have := b.upto_len d d.n.toNat
  have := V3.n_le hd
  show (b.upto d d.n.toNat).length ≤ 4096
  omega
def ic' (l : List Int) : List Value := l.map (Value.int .i64)
theorem ic'_len (l : List Int) : (ic' l).length = l.length := List.length_map ..
theorem ic'_one (l : List Int) : ∀ u ∈ ic' l, u.oneCell' = true := by
  intro u hu
  obtain ⟨x, _, rfl⟩ := List.mem_map.1 hu
  rfl
/-- A list in a cell, and its row behind it. -/
structure AtL (W : World) (Bl : Nat) (v : Value) (l : List Int) : Prop where
  blk : Blk W Bl 30 #[v]
  row : W.ownsRow (Bl + 1) 3 1 v l.length (ic' l)
end Go.Proofs.Ythabpiphfaedaaa
