/- APPEND of a slice, nil too: as an operation, and at a step of a region that draws its order. -/
import Derived.IntWalk
import Derived.Deep.RegionLaw
import Derived.Test.YthabpiphfaedaaaQ1PlaceTells
namespace Go.Proofs.Ythabpiphfaedaaa

section
open Go.RowKit Go.Shelf

/-- 'append(own, x...)' of a slice that came in, nil too. -/
theorem wpList_addE {P : Program} {ops : Array Oper} {rest : List Oper} {o : Oper} {a : Act} {Q : Exit → Act → World → Prop} (w : World) (hgd : o.guard = none) (s x : Operand) (t : TypeId)
    (ho : o.op = .call { callee := .builtin .append, args := #[s, x], argTypes := #[t, t] })
    (e : TypeId) (i : TypeInfo) (z : Value) (size bytes : Nat) (ht : P.underlying t = some (.slice e)) (hi : P.info? e = some i) (hz : i.zero = some z)
    (hsize : i.size = size) (hby : i.bytes = bytes) (hzs : z.cells.size = size) (hsz : 0 < size) (hb8 : bytes ≤ 100000)
    (L : Nat) (hL : L ≤ w.heap.size) (sv : Value) (hs : a.eval s = sv) (n : Nat) (xs : List Value) (own0 : w.ownsRow L e size sv n xs) (ao : Option Addr) (m c : Nat) (news : List Value) (hx : a.eval x = .slice ao m c) (hl : news.length = m * size)
    (hnil : ao = none → m = 0 ∧ c = 0) (hr : Rd w ao news) (h1 : ∀ u ∈ news, u.oneCell' = true) (hm : n + m ≤ 100000000)
    (h : ∀ v' w', w'.ownsRow L e size v' (n + m) (xs ++ news) → Below L w w' → wpList P ops Q rest (a.put o.dst v') w') : wpList P ops Q (o :: rest) a w := by
  cases ao with
  | some ad =>
    refine wpList_append_own w hgd s x t ho L e i z size bytes ht hi hz hsize hby hzs hsz sv n xs hs own0 ad m c news hx hl ?_ h1 ?_ ?_ hL ?_
    · intro j u hu
      obtain ⟨b, off, e, hc⟩ := hr j u hu
      cases e
      rw [Addr.add_lit]
      exact hc
    · unfold maxLen; omega
    · exact Nat.le_trans (Nat.mul_le_mul hm hb8) (by decide)
    · intro v' w' r1 r2 _
      exact h v' w' r1 (own_below own0 r2 hL)
  | none =>
    obtain ⟨rfl, rfl⟩ := hnil rfl
    have hnews : news = [] := List.eq_nil_of_length_eq_zero (by simpa using hl)
    subst hnews
    refine wpList_plain hgd fun K hK' => ?_
    have hrun := run_append_owned_none (P := P) w L t o.type e i size ht hi _ n xs own0
    unfold Oper.wp
    simp [execOp, ho, resolve, invoke, builtin, hs, hx, hrun, Result.andThen]
    exact hK' _ _ (h _ w (by simpa using own0) (Below.refl _ _))

/-- 'append(own, x...)' at a step of a region that draws its order. -/
theorem step_addE {P : Program} {ops : Array Oper} {o : Oper} {a : Act} {K : Act → World → Prop} {Q : Exit → Act → World → Prop} {E : Prop} (w : World) (hgd : o.guard = none) (s x : Operand) (t : TypeId)
    (ho : o.op = .call { callee := .builtin .append, args := #[s, x], argTypes := #[t, t] })
    (e : TypeId) (i : TypeInfo) (z : Value) (size bytes : Nat) (ht : P.underlying t = some (.slice e)) (hi : P.info? e = some i) (hz : i.zero = some z)
    (hsize : i.size = size) (hby : i.bytes = bytes) (hzs : z.cells.size = size) (hsz : 0 < size) (hb8 : bytes ≤ 100000)
    (L : Nat) (hL : L ≤ w.heap.size) (sv : Value) (hs : a.eval s = sv) (n : Nat) (xs : List Value) (own0 : w.ownsRow L e size sv n xs) (ao : Option Addr) (m c : Nat) (news : List Value) (hx : a.eval x = .slice ao m c) (hl : news.length = m * size)
    (hnil : ao = none → m = 0 ∧ c = 0) (hr : Rd w ao news) (h1 : ∀ u ∈ news, u.oneCell' = true) (hm : n + m ≤ 100000000)
    (h : ∀ v' w', w'.ownsRow L e size v' (n + m) (xs ++ news) → Below L w w' → K (a.put o.dst v') w') : if Region.wanted o (yielded ops a.tmps) = true then Oper.wp P o a w K Q else E := by
  have hw : Region.wanted o (yielded ops a.tmps) = true := by simp [Region.wanted, hgd]
  rw [if_pos hw]
  cases ao with
  | some ad =>
    refine wp_append_own w s x t ho L e i z size bytes ht hi hz hsize hby hzs hsz sv n xs hs own0 ad m c news hx hl ?_ h1 ?_ ?_ hL ?_
    · intro j u hu
      obtain ⟨b, off, e, hc⟩ := hr j u hu
      cases e
      rw [Addr.add_lit]
      exact hc
    · unfold maxLen; omega
    · exact Nat.le_trans (Nat.mul_le_mul hm hb8) (by decide)
    · intro v' w' r1 r2 _
      exact h v' w' r1 (own_below own0 r2 hL)
  | none =>
    obtain ⟨rfl, rfl⟩ := hnil rfl
    have hnews : news = [] := List.eq_nil_of_length_eq_zero (by simpa using hl)
    subst hnews
    have hrun := run_append_owned_none (P := P) w L t o.type e i size ht hi _ n xs own0
    unfold Oper.wp
    simp [execOp, ho, resolve, invoke, builtin, hs, hx, hrun, Result.andThen]
    exact h _ w (by simpa using own0) (Below.refl _ _)
end
end Go.Proofs.Ythabpiphfaedaaa
