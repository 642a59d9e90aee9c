/- INSERT of a slot into a row of the call's own: Go's own text walked. -/
import Derived.Test.YtfikgjcmnooglaaIns
import Derived.Test.YtfikgjcmnooglaaBlk
namespace Go.Proofs.Ytfikgjcmnooglaa
open Go.RowKit Go.Shelf

/-- A row of the call's own is handed back; below its place nothing has turned. -/
def RN (w : World) (B : Nat) (l : List Sl) : Ending → World → Prop := fun e w' => ∃ v, e = .returned v ∧ w'.ownsRow B 57 3 v l.length (slc l) ∧ Below B w w'
theorem slc1 (s : Sl) : slc [s] = [.int .i64 s.f, .int .i64 s.t, .int .i64 s.o] := rfl
theorem blk_cells {w : World} {vb : Nat} {ty : TypeId} {s : Sl} (h : Blk w vb ty #[.int .i64 s.f, .int .i64 s.t, .int .i64 s.o]) : ∀ j u, (slc [s])[j]? = some u → w.cell? ((⟨vb, 0, none⟩ : Addr).add j) = some u := by
  intro j u hu
  rw [Addr.add_lit, Nat.zero_add]
  exact h.cell j u (by rw [slc1] at hu; simpa using hu)

set_option maxRecDepth 100000 in set_option maxHeartbeats 4000000 in
theorem ins_end (B : Nat) (v : Value) (c : List Sl) (s : Sl) (vb : Nat) (ty : TypeId) (w : World) (hB : B ≤ w.heap.size) (ho : w.ownsRow B 57 3 v c.length (slc c)) (hl : c.length ≤ 5000) (hs : Blk w vb ty #[.int .i64 s.f, .int .i64 s.t, .int .i64 s.o]) :
    Calls Try.prog 93 #[v, .int .i64 c.length, .slice (some ⟨vb, 0, none⟩) 1 1] w (RN w B (c ++ [s])) := by
  obtain ⟨i0, hi, iz0, iz1, iz2⟩ := info_parts infoSlot
  have HO := Lib.hid ho
  have HS := Lib.hid (blk_cells hs)
  have HLen := Lib.hid (show (c ++ [s]).length = c.length + 1 by simp)
  have HSl := Lib.hid (slc_app c [s])
  unfold RN
  rw [HLen.out, HSl.out]
  rcases ho.2 with ⟨rfl, hz⟩ | ⟨g, cap, cur, rfl, hBg, hg, hnc, hcm, hcs, htk⟩
  · have hl0 : c = [] := List.eq_nil_of_length_eq_zero hz
    subst hl0
    clear ho hs hz
    go_enter Try.func93, Try.ntmps93
    go_wp2_with (at_builtin; refine wpList_append_own _ rfl _ _ 22 rfl B 57 i0 (.agg #[.int .i64 0, .int .i64 0, .int .i64 0]) 3 24 Try.underlying22 hi iz0 iz1 iz2 rfl (by decide) _ _ _ rfl HO.out ⟨vb, 0, none⟩ 1 1 (slc [s]) rfl rfl HS.out (slc_one [s]) ?q1 ?q2 ?q3 ?_)
    case q1 => unfold maxLen; decide
    case q2 => decide
    case q3 => exact hB
    intro v' w1 hown hgrow _
    have hB1 := own_below HO.out hgrow hB
    have HO1 := Lib.hid hown
    clear hown hgrow
    go_wp2_with fail
    go_returns
    exact ⟨_, rfl, HO1.out, hB1⟩
  · have hn : c.length ≤ cap := hnc
    have hcm2 : cap ≤ 9223372036854775807 := by unfold maxLen at hcm; omega
    clear ho hs hg hcs htk hnc hcm
    generalize hN : c.length = n at *
    go_enter Try.func93, Try.ntmps93
    go_wp2_with (at_builtin; refine wpList_append_own _ rfl _ _ 22 rfl B 57 i0 (.agg #[.int .i64 0, .int .i64 0, .int .i64 0]) 3 24 Try.underlying22 hi iz0 iz1 iz2 rfl (by decide) _ _ _ rfl HO.out ⟨vb, 0, none⟩ 1 1 (slc [s]) rfl rfl HS.out (slc_one [s]) ?q1 ?q2 ?q3 ?_)
    all_goals try (first | omega | (unfold maxLen; omega))
    all_goals
      intro v' w1 hown hgrow _
      have hB1 := own_below HO.out hgrow hB
      have HO1 := Lib.hid hown
      clear hown hgrow
      go_wp2_with fail
      go_returns
      exact ⟨_, rfl, HO1.out, hB1⟩
end Go.Proofs.Ytfikgjcmnooglaa
