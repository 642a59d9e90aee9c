/- EQUALITY of boxes, of three numbers, as the model has it. -/
import Derived.Test.YthabpiphfaedaaaProg
import Derived.Test.YthabpiphfaedaaaOwn
import Derived.Laws.StructEq
import Derived.ChangeKeysEq
namespace Go.Proofs.Ythabpiphfaedaaa
open Go.RowKit Go.Shelf

set_option maxRecDepth 100000 in set_option maxHeartbeats 4000000 in
theorem run_equal3 (t : Nat) (ht : Try.prog.underlying t = some (.array 3 3)) (d : Nat) (p q : V3) (w : World) : (Op.equalIn (d + 1 + 1) t (.agg #[.int .i64 p.x, .int .i64 p.y, .int .i64 p.z]) (.agg #[.int .i64 q.x, .int .i64 q.y, .int .i64 q.z])).run Try.prog w = .ok (decide (p = q)) w := by
  have u3 := Try.underlying3
  have a3 := Try.isAgg3
  have z3 := Try.sizeOf3
  obtain ⟨i0, hi, iz0, iz1, iz2⟩ := info_parts infoInt
  have hc : Try.prog.cellsOf 3 = 1 := by kernel_rfl
  rw [run_equalIn_array w (d + 1) _ _ ht hi, hc, show List.range 3 = [0, 1, 2] from rfl]
  simp only [Op.eqItems]
  go_simp
  obtain ⟨px, py, pz⟩ := p
  obtain ⟨qx, qy, qz⟩ := q
  by_cases h1 : px = qx <;> by_cases h2 : py = qy <;> by_cases h3 : pz = qz <;> simp [h1, h2, h3]

set_option maxRecDepth 100000 in set_option maxHeartbeats 4000000 in
theorem run_eql_box (x y : Bx) (w : World) : (binOp .eql 25 (.agg #[.int .i64 x.b.x, .int .i64 x.b.y, .int .i64 x.b.z, .int .i64 x.s.x, .int .i64 x.s.y, .int .i64 x.s.z]) (.agg #[.int .i64 y.b.x, .int .i64 y.b.y, .int .i64 y.b.z, .int .i64 y.s.x, .int .i64 y.s.y, .int .i64 y.s.z])).run Try.prog w = .ok (.bool (decide (x = y))) w := by
  have a3 := Try.isAgg22
  have z3 := Try.sizeOf22
  have h1 := fun w => run_equal3 22 Try.underlying22 9997 x.b y.b w
  have h2 := fun w => run_equal3 22 Try.underlying22 9997 x.s y.s w
  have hS : Try.prog.underlying 25 = some (.struct (Try.prog.fieldsOf 25)) := by kernel_rfl
  have hp : Try.prog.stoodInHeld 25 = false := by kernel_rfl
  rw [run_eql_struct, show (10000 : Nat) = 9999 + 1 from rfl, run_equalIn_agg w 9999 25 _ _ hS hp]
  simp only [Program.fieldsOf, Try.underlying25]
  go_simp
  obtain ⟨xb, xs⟩ := x
  obtain ⟨yb, ys⟩ := y
  by_cases h1 : xb = yb <;> by_cases h2 : xs = ys <;> simp [h1, h2]
end Go.Proofs.Ythabpiphfaedaaa
