/- EQUALITY of boxes, of three numbers, as the model has it. -/
import Derived.Test.YtfikgjcmnooglaaProg
import Derived.Test.YtfikgjcmnooglaaOwn
import Derived.Laws.StructEq
import Derived.ChangeKeysEq
namespace Go.Proofs.Ytfikgjcmnooglaa
open Go.RowKit Go.Shelf

set_option maxRecDepth 100000 in set_option maxHeartbeats 4000000 in
theorem run_equal3 (t : Nat) (ht : Try.prog.underlying t = some (.array 3 3)) (d : Nat) (p q : V3) (w : World) : (Op.equalIn (d + 1 + 1) t (.agg #[.int .i64 p.x, .int .i64 p.y, .int .i64 p.z]) (.agg #[.int .i64 q.x, .int .i64 q.y, .int .i64 q.z])).run Try.prog w = .ok (decide (p = q)) w := by
  have u3 := Try.underlying3
  have a3 := Try.isAgg3
  have z3 := Try.sizeOf3
  obtain ⟨i0, hi, iz0, iz1, iz2⟩ := info_parts infoInt
  have hc : Try.prog.cellsOf 3 = 1 := by kernel_rfl
  rw [run_equalIn_array w (d + 1) _ _ ht hi, hc, show List.range 3 = [0, 1, 2] from rfl]
  simp only [Op.eqItems]
  go_simp
  obtain ⟨px, py, pz⟩ := p
  obtain ⟨qx, qy, qz⟩ := q
  by_cases h1 : px = qx <;> by_cases h2 : py = qy <;> by_cases h3 : pz = qz <;> simp [h1, h2, h3]

end Go.Proofs.Ytfikgjcmnooglaa
