/- INSERT, CLONE of numbers: Go's own text walked. -/
import Derived.Test.YtpooieghlceefaaIRow
import Derived.Test.YtpooieghlceefaaCopyK
namespace Go.Proofs.Ytpooieghlceefaa
open Go.RowKit Go.Shelf

set_option maxRecDepth 100000 in set_option maxHeartbeats 4000000 in
theorem slices_Clone (ba : Option Addr) (ca : Nat) (c : List Int) (w : World) (hr : Rd w ba (ic c)) (hna : ba = none → c.length = 0) (hl : c.length ≤ 1000000) :
    Calls Try.prog 50 #[.slice ba c.length ca] w (RL w c) := by
  obtain ⟨i0, hi, iz0, iz1, iz2⟩ := info_parts infoInt
  have q22 : ∀ (w : World) (a : Option Addr) (n c n' c' : Nat), (binOp .eql 32 (.slice a n c) (.slice none n' c')).run Try.prog w = .ok (.bool a.isNone) w := fun w a n c n' c' => Lib.run_eql_slice_nil w _ _ a n c n' c' Try.underlying32
  cases ba with
  | none =>
    obtain rfl : c = [] := List.eq_nil_of_length_eq_zero (hna rfl)
    clear hna hr hl
    go_enter Try.func50, Try.ntmps50
    go_wp2_with fail
    go_returns
    exact ⟨_, rfl, ⟨rfl, .inl ⟨rfl, rfl⟩⟩, by (repeat (first | (with_reducible exact Below.refl _ _) | (with_reducible assumption) | (with_reducible refine below_alloc ?_ _) | (with_reducible refine below_drewN ?_ _) | (with_reducible refine Below.drew ?_) | (with_reducible refine below_then ?_ (by with_reducible assumption)) | (with_reducible refine Below.setCell ?_ (by go_size) _)))⟩
  | some a =>
    have HR := Lib.hid hr
    clear hr hna
    go_enter Try.func50, Try.ntmps50
    go_wp2_with (at_builtin; refine wpList_append_own _ rfl _ _ 32 rfl w.heap.size 3 i0 (.int .i64 0) 1 8 Try.underlying32 hi iz0 iz1 iz2 rfl (by decide) _ _ _ rfl (World.ownsRow_made w #[] 0 (Nat.le_refl _) (Nat.zero_le _) (by simp)) a c.length ca (ic c) rfl (by rw [ic_len, Nat.mul_one]) ?qc2 (ic_one c) ?qc4 ?qc5 ?qc6 ?_)
    case qc2 =>
      intro j u hj
      obtain ⟨b, off, e, h⟩ := HR.out j u hj
      cases e
      rw [Addr.add_lit]
      exact Lib.cell?_alloc_some _ h
    case qc4 => unfold maxLen; omega
    case qc5 => omega
    case qc6 => simp
    intro v' w1 hown hgrow hnil
    go_wp2_with fail
    go_returns
    exact ⟨_, rfl, by simpa using hown, ((Below.refl _ w).alloc (Nat.le_refl _) _).grown hgrow (by simp) (by intro k hk; simp [Value.ownBlock] at hk; omega)⟩
end Go.Proofs.Ytpooieghlceefaa
