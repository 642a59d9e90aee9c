/- INSERT, CLONE of slots: Go's own text walked. -/
import Derived.Test.YtfikgjcmnooglaaCut1
import Derived.Test.YtfikgjcmnooglaaCopyK
namespace Go.Proofs.Ytfikgjcmnooglaa
open Go.RowKit Go.Shelf

theorem slc_one (c : List Sl) : ∀ u ∈ slc c, u.oneCell' = true := by
  intro u hu
  unfold slc at hu
  obtain ⟨s, _, h⟩ := List.mem_flatMap.1 hu
  simp [Sl.cells] at h
  rcases h with rfl | rfl | rfl <;> rfl

set_option maxRecDepth 100000 in set_option maxHeartbeats 4000000 in
theorem slices_Clone (ba : Option Addr) (ca : Nat) (c : List Sl) (w : World) (hr : Rd w ba (slc c)) (hna : ba = none → c.length = 0) (hl : c.length ≤ 1000000) :
    Calls Try.prog 94 #[.slice ba c.length ca] w (RS w c) := by
  obtain ⟨i0, hi, iz0, iz1, iz2⟩ := info_parts infoSlot
  have q22 : ∀ (w : World) (a : Option Addr) (n c n' c' : Nat), (binOp .eql 22 (.slice a n c) (.slice none n' c')).run Try.prog w = .ok (.bool a.isNone) w := fun w a n c n' c' => Lib.run_eql_slice_nil w _ _ a n c n' c' Try.underlying22
  cases ba with
  | none =>
    obtain rfl : c = [] := List.eq_nil_of_length_eq_zero (hna rfl)
    clear hna hr hl
    go_enter Try.func94, Try.ntmps94
    go_wp2_with fail
    go_returns
    exact ⟨_, rfl, ⟨rfl, .inl ⟨rfl, rfl⟩⟩, by (repeat (first | (with_reducible exact Below.refl _ _) | (with_reducible assumption) | (with_reducible refine below_alloc ?_ _) | (with_reducible refine below_drewN ?_ _) | (with_reducible refine Below.drew ?_) | (with_reducible refine below_then ?_ (by with_reducible assumption)) | (with_reducible refine Below.setCell ?_ (by go_size) _)))⟩
  | some a =>
    have HR := Lib.hid hr
    clear hr hna
    go_enter Try.func94, Try.ntmps94
    go_wp2_with (at_builtin; refine wpList_append_own _ rfl _ _ 22 rfl w.heap.size 57 i0 (.agg #[.int .i64 0, .int .i64 0, .int .i64 0]) 3 24 Try.underlying22 hi iz0 iz1 iz2 rfl (by decide) _ _ _ rfl (World.ownsRow_made w #[] 0 (Nat.le_refl _) (Nat.zero_le _) (by simp)) a c.length ca (slc c) rfl (slc_len c) ?qc2 (slc_one c) ?qc4 ?qc5 ?qc6 ?_)
    case qc2 =>
      intro j u hj
      obtain ⟨b, off, e, h⟩ := HR.out j u hj
      cases e
      rw [Addr.add_lit]
      exact Lib.cell?_alloc_some _ h
    case qc4 => unfold maxLen; omega
    case qc5 => omega
    case qc6 => simp
    intro v' w1 hown hgrow hnil
    go_wp2_with fail
    go_returns
    exact ⟨_, rfl, by simpa using hown, ((Below.refl _ w).alloc (Nat.le_refl _) _).grown hgrow (by simp) (by intro k hk; simp [Value.ownBlock] at hk; omega)⟩
end Go.Proofs.Ytfikgjcmnooglaa
