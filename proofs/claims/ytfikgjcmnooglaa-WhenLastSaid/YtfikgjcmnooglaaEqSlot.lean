/- EQUALITY of slots. -/
import Derived.Test.YtfikgjcmnooglaaCalA
import Derived.Laws.StructEq
import Derived.ChangeKeysEq
namespace Go.Proofs.Ytfikgjcmnooglaa
open Go.RowKit Go.Shelf

set_option maxRecDepth 100000 in set_option maxHeartbeats 4000000 in
theorem run_equal_slot (x y : Sl) (w : World) : (Op.equalIn 10000 57 (.agg #[.int .i64 x.f, .int .i64 x.t, .int .i64 x.o]) (.agg #[.int .i64 y.f, .int .i64 y.t, .int .i64 y.o])).run Try.prog w = .ok (decide (x = y)) w := by
  have u3 := Try.underlying3
  have a3 := Try.isAgg3
  have z3 := Try.sizeOf3
  have a4 := Try.isAgg24
  have z4 := Try.sizeOf24
  have hS : Try.prog.underlying 57 = some (.struct (Try.prog.fieldsOf 57)) := by kernel_rfl
  have hp : Try.prog.stoodInHeld 57 = false := by kernel_rfl
  have hS2 : Try.prog.underlying 24 = some (.struct (Try.prog.fieldsOf 24)) := by kernel_rfl
  have hp2 : Try.prog.stoodInHeld 24 = false := by kernel_rfl
  have hin : ∀ (f t g u : Int) (w : World), (Op.equalIn 9999 24 (.agg #[.int .i64 f, .int .i64 t]) (.agg #[.int .i64 g, .int .i64 u])).run Try.prog w = .ok (decide (f = g ∧ t = u)) w := by
    intro f t g u w
    rw [show (9999 : Nat) = 9998 + 1 from rfl, run_equalIn_agg w 9998 24 _ _ hS2 hp2]
    simp only [Program.fieldsOf, Try.underlying24]
    go_simp
    by_cases h1 : f = g <;> by_cases h2 : t = u <;> simp [h1, h2]
  rw [show (10000 : Nat) = 9999 + 1 from rfl, run_equalIn_agg w 9999 57 _ _ hS hp]
  simp only [Program.fieldsOf, Try.underlying57]
  go_simp
  obtain ⟨f, t, o⟩ := x
  obtain ⟨g, u, p⟩ := y
  by_cases h1 : f = g <;> by_cases h2 : t = u <;> by_cases h3 : o = p <;> simp [h1, h2, h3]
theorem run_eql_slot (x y : Sl) (w : World) : (binOp .eql 57 (.agg #[.int .i64 x.f, .int .i64 x.t, .int .i64 x.o]) (.agg #[.int .i64 y.f, .int .i64 y.t, .int .i64 y.o])).run Try.prog w = .ok (.bool (decide (x = y))) w := by
  rw [run_eql_struct, run_equal_slot]; rfl
theorem run_neq_slot (x y : Sl) (w : World) : (binOp .neq 57 (.agg #[.int .i64 x.f, .int .i64 x.t, .int .i64 x.o]) (.agg #[.int .i64 y.f, .int .i64 y.t, .int .i64 y.o])).run Try.prog w = .ok (.bool (!decide (x = y))) w := by
  rw [run_neq_struct, run_equal_slot]; rfl
end Go.Proofs.Ytfikgjcmnooglaa
