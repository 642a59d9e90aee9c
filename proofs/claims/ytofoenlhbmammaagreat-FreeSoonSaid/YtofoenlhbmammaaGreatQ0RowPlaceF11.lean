/- ROWS: a place that came in. -/
import Derived.Test.YtofoenlhbmammaaGreatQ0PlaceAF11
import Derived.Test.YtofoenlhbmammaaGreatQ9F11
set_option linter.unusedVariables false
set_option linter.unusedSimpArgs false
namespace Go.Proofs.YtofoenlhbmammaaGreat

section
open Go.ChangeShapes Go.WideShapes Go.ChangeAt Go.RowKit

set_option maxRecDepth 100000 in set_option maxHeartbeats 4000000 in
theorem cell_int {W : World} {base : Nat} {c : Value} (h : Cell.okWide Tryz.prog W .any base 3 c) : ∃ x, c = .int .i64 x := by
  unfold Cell.okWide at h
  rw [Tryz.underlying3] at h
  unfold Cell.ok at h
  rw [Tryz.underlying3] at h
  cases c <;> simp at h
  obtain ⟨rfl, _⟩ := h
  exact ⟨_, rfl⟩
set_option maxRecDepth 100000 in set_option maxHeartbeats 4000000 in
theorem cell_bool {W : World} {base : Nat} {c : Value} (h : Cell.okWide Tryz.prog W .any base 4 c) : ∃ x, c = .bool x := by
  unfold Cell.okWide at h
  rw [Tryz.underlying4] at h
  unfold Cell.ok at h
  rw [Tryz.underlying4] at h
  cases c <;> simp at h
  exact ⟨_, rfl⟩
set_option maxRecDepth 100000 in set_option maxHeartbeats 4000000 in
theorem open_place {W : World} {base : Nat} {v : Value} (h : Value.okWide Tryz.prog W .any base 31 v) : ∃ p : Pl, v = .agg #[.int .i64 p.b.b.x, .int .i64 p.b.b.y, .int .i64 p.b.b.z, .int .i64 p.b.s.x, .int .i64 p.b.s.y, .int .i64 p.b.s.z, .bool p.t0, .bool p.t1, .bool p.t2] := by
  have h' : ∃ cs : Array Value, v = .agg cs ∧ cs.size = Tryz.prog.cellsOf 31 ∧ Row.okWide Tryz.prog W .any base 31 cs := by
    unfold Value.okWide at h
    rw [Tryz.underlying31] at h
    exact h
  obtain ⟨cs, rfl, hsz, ts, hts', _, hall⟩ := h'
  have hts : Tryz.prog.cellTypes Tryz.prog.depth 31 = some [3, 3, 3, 3, 3, 3, 4, 4, 4] := by kernel_rfl
  have hc : Tryz.prog.cellsOf 31 = 9 := by kernel_rfl
  rw [hts] at hts'
  cases hts'
  rw [hc] at hsz
  obtain ⟨l, hca⟩ : ∃ l, cs = List.toArray l := ⟨cs.toList, by simp⟩
  subst hca
  simp only [List.size_toArray] at hsz
  match l, hsz with
  | [a, b, c, x, y, z, t, u, s], _ =>
    have k : ∀ (i : Nat) (e : Value) (T : TypeId), [a, b, c, x, y, z, t, u, s][i]? = some e → [3, 3, 3, 3, 3, 3, 4, 4, 4][i]? = some T → Cell.okWide Tryz.prog W .any base T e := fun i e T he hT => by
      obtain ⟨T', hT', hok⟩ := hall i e (by simpa using he)
      have hi : i < 9 := (List.getElem?_eq_some_iff.1 he).1
      rw [show i % ([3, 3, 3, 3, 3, 3, 4, 4, 4] : List TypeId).length = i from Nat.mod_eq_of_lt hi, hT] at hT'
      cases hT'
      exact hok
    obtain ⟨a, rfl⟩ := cell_int (k 0 _ _ rfl rfl)
    obtain ⟨b, rfl⟩ := cell_int (k 1 _ _ rfl rfl)
    obtain ⟨c, rfl⟩ := cell_int (k 2 _ _ rfl rfl)
    obtain ⟨x, rfl⟩ := cell_int (k 3 _ _ rfl rfl)
    obtain ⟨y, rfl⟩ := cell_int (k 4 _ _ rfl rfl)
    obtain ⟨z, rfl⟩ := cell_int (k 5 _ _ rfl rfl)
    obtain ⟨t, rfl⟩ := cell_bool (k 6 _ _ rfl rfl)
    obtain ⟨u, rfl⟩ := cell_bool (k 7 _ _ rfl rfl)
    obtain ⟨s, rfl⟩ := cell_bool (k 8 _ _ rfl rfl)
    exact ⟨⟨⟨⟨a, b, c⟩, ⟨x, y, z⟩⟩, t, u, s⟩, rfl⟩
end
end Go.Proofs.YtofoenlhbmammaaGreat
