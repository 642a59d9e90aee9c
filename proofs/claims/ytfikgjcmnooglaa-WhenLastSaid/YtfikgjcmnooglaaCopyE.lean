/- COPY: 'append(own, x...)' of a slice that came in, onto a row of the call's own that is empty. -/
import Derived.Test.YtfikgjcmnooglaaOwn
namespace Go.Proofs.Ytfikgjcmnooglaa
open Go.RowKit Go.Shelf

theorem wpList_copyE {P : Program} {ops : Array Oper} {rest : List Oper} {o : Oper} {a : Act} {Q : Exit → Act → World → Prop} (w : World) (hgd : o.guard = none) (s x : Operand) (t : TypeId)
    (ho : o.op = .call { callee := .builtin .append, args := #[s, x], argTypes := #[t, t] })
    (e : TypeId) (i : TypeInfo) (z : Value) (size bytes : Nat) (ht : P.underlying t = some (.slice e)) (hi : P.info? e = some i) (hz : i.zero = some z)
    (hsize : i.size = size) (hby : i.bytes = bytes) (hzs : z.cells.size = size) (hsz : 0 < size) (hb8 : bytes ≤ 100000)
    (L : Nat) (hL : L ≤ w.heap.size) (sv : Value) (hs : a.eval s = sv) (own0 : w.ownsRow L e size sv 0 []) (ao : Option Addr) (m c : Nat) (news : List Value) (hx : a.eval x = .slice ao m c) (hl : news.length = m * size)
    (hnil : ao = none → m = 0 ∧ c = 0) (hr : Rd w ao news) (h1 : ∀ u ∈ news, u.oneCell' = true) (hm : m ≤ 1048576)
    (h : ∀ v' w', w'.ownsRow L e size v' m news → Below L w w' → wpList P ops Q rest (a.put o.dst v') w') : wpList P ops Q (o :: rest) a w := by
  cases ao with
  | some ad =>
    refine wpList_append_own w hgd s x t ho L e i z size bytes ht hi hz hsize hby hzs hsz sv 0 [] hs own0 ad m c news hx hl ?_ h1 ?_ ?_ hL ?_
    · intro j u hu
      obtain ⟨b, off, e, hc⟩ := hr j u hu
      cases e
      rw [Addr.add_lit]
      exact hc
    · unfold maxLen; omega
    · rw [Nat.zero_add]; exact Nat.le_trans (Nat.mul_le_mul hm hb8) (by decide)
    · intro v' w' r1 r2 _
      exact h v' w' (by simpa using r1) (own_below own0 r2 hL)
  | none =>
    obtain ⟨rfl, rfl⟩ := hnil rfl
    have hnews : news = [] := List.eq_nil_of_length_eq_zero (by simpa using hl)
    subst hnews
    refine wpList_plain hgd fun K hK' => ?_
    have hrun := run_append_owned_none (P := P) w L t o.type e i size ht hi _ 0 [] own0
    unfold Oper.wp
    simp [execOp, ho, resolve, invoke, builtin, hs, hx, hrun, Result.andThen]
    exact hK' _ _ (h _ w own0 (Below.refl _ _))
end Go.Proofs.Ytfikgjcmnooglaa
