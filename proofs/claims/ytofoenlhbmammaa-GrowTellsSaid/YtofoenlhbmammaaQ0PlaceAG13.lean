/- EQUALITY of boxes; PLACE: whether it may be. -/
import Derived.Test.YtofoenlhbmammaaProg
import Derived.Laws.StructEq
import Derived.ChangeKeysEq
import Derived.Test.YtofoenlhbmammaaQ0OwnG13
import Derived.Test.YtofoenlhbmammaaQ0BlkG13
import Derived.Test.YtofoenlhbmammaaQ0PosNG13
import Derived.Test.YtofoenlhbmammaaQ0BoxCanG13
set_option linter.unusedVariables false
set_option linter.unusedSimpArgs false
namespace Go.Proofs.Ytofoenlhbmammaa

section
section
open Go.RowKit Go.Shelf

set_option maxRecDepth 100000 in set_option maxHeartbeats 4000000 in
theorem run_equal3 (t : Nat) (ht : Try.prog.underlying t = some (.array 3 3)) (d : Nat) (p q : V3) (w : World) : (Op.equalIn (d + 1 + 1) t (.agg #[.int .i64 p.x, .int .i64 p.y, .int .i64 p.z]) (.agg #[.int .i64 q.x, .int .i64 q.y, .int .i64 q.z])).run Try.prog w = .ok (decide (p = q)) w := by
  have u3 := Try.underlying3
  have a3 := Try.isAgg3
  have z3 := Try.sizeOf3
  obtain ⟨i0, hi, iz0, iz1, iz2⟩ := info_parts infoInt
  have hc : Try.prog.cellsOf 3 = 1 := by kernel_rfl
  rw [run_equalIn_array w (d + 1) _ _ ht hi, hc, show List.range 3 = [0, 1, 2] from rfl]
  simp only [Op.eqItems]
  go_simp
  obtain ⟨px, py, pz⟩ := p
  obtain ⟨qx, qy, qz⟩ := q
  by_cases h1 : px = qx <;> by_cases h2 : py = qy <;> by_cases h3 : pz = qz <;> simp [h1, h2, h3]

set_option maxRecDepth 100000 in set_option maxHeartbeats 4000000 in
theorem run_eql_box (x y : Bx) (w : World) : (binOp .eql 27 (.agg #[.int .i64 x.b.x, .int .i64 x.b.y, .int .i64 x.b.z, .int .i64 x.s.x, .int .i64 x.s.y, .int .i64 x.s.z]) (.agg #[.int .i64 y.b.x, .int .i64 y.b.y, .int .i64 y.b.z, .int .i64 y.s.x, .int .i64 y.s.y, .int .i64 y.s.z])).run Try.prog w = .ok (.bool (decide (x = y))) w := by
  have a3 := Try.isAgg22
  have z3 := Try.sizeOf22
  have h1 := fun w => run_equal3 22 Try.underlying22 9997 x.b y.b w
  have h2 := fun w => run_equal3 22 Try.underlying22 9997 x.s y.s w
  have hS : Try.prog.underlying 27 = some (.struct (Try.prog.fieldsOf 27)) := by kernel_rfl
  have hp : Try.prog.stoodInHeld 27 = false := by kernel_rfl
  rw [run_eql_struct, show (10000 : Nat) = 9999 + 1 from rfl, run_equalIn_agg w 9999 27 _ _ hS hp]
  simp only [Program.fieldsOf, Try.underlying27]
  go_simp
  obtain ⟨xb, xs⟩ := x
  obtain ⟨yb, ys⟩ := y
  by_cases h1 : xb = yb <;> by_cases h2 : xs = ys <;> simp [h1, h2]
end

section
open Go.RowKit Go.Shelf

structure Pl where
  b : Bx
  t0 : Bool
  t1 : Bool
  t2 : Bool
deriving DecidableEq
def Pl.tor (p : Pl) : Nat → Bool
  | 0 => p.t0
  | 1 => p.t1
  | _ => p.t2
/-- Along some axis a torus that is one long. -/
def Pl.odd (p : Pl) : Bool := (p.t0 && p.b.s.x == 1) || (p.t1 && p.b.s.y == 1) || (p.t2 && p.b.s.z == 1)
def plChk (d : V3) (p : Pl) : Int := if chk d p.b = 0 then (if p.odd then 2 else if p.b.can d = p.b then 0 else 2) else chk d p.b
theorem Pl.odd_iff (p : Pl) : p.odd = true ↔ ∃ k, k < 3 ∧ p.tor k = true ∧ p.b.s.at k = 1 := by
  unfold Pl.odd
  constructor
  · intro h
    simp only [Bool.or_eq_true, Bool.and_eq_true, beq_iff_eq] at h
    rcases h with (⟨h1, h2⟩ | ⟨h1, h2⟩) | ⟨h1, h2⟩
    · exact ⟨0, by omega, h1, h2⟩
    · exact ⟨1, by omega, h1, h2⟩
    · exact ⟨2, by omega, h1, h2⟩
  · rintro ⟨k, hk, h1, h2⟩
    match k, hk with
    | 0, _ => rw [show p.t0 = true from h1, show p.b.s.x = 1 from h2]; rfl
    | 1, _ => rw [show p.t1 = true from h1, show p.b.s.y = 1 from h2]; simp
    | 2, _ => rw [show p.t2 = true from h1, show p.b.s.z = 1 from h2]; simp
theorem tor_idx (p : Pl) (k : Nat) (hk : k < 3) : [Value.bool p.t0, Value.bool p.t1, Value.bool p.t2][k]'(by simpa using hk) = .bool (p.tor k) := by
  match k, hk with
  | 0, _ => rfl
  | 1, _ => rfl
  | 2, _ => rfl
theorem size_cell {W : World} {B : Nat} {t : TypeId} {p : Pl} (h : Blk W B t #[.int .i64 p.b.b.x, .int .i64 p.b.b.y, .int .i64 p.b.b.z, .int .i64 p.b.s.x, .int .i64 p.b.s.y, .int .i64 p.b.s.z, .bool p.t0, .bool p.t1, .bool p.t2]) (k : Nat) (hk : k < 3) : W.cell? ⟨B, 3 + k, none⟩ = some (.int .i64 (p.b.s.at k)) := by
  match k, hk with
  | 0, _ => exact h.cell 3 _ rfl
  | 1, _ => exact h.cell 4 _ rfl
  | 2, _ => exact h.cell 5 _ rfl
theorem tor_cell {W : World} {B : Nat} {t : TypeId} {p : Pl} (h : Blk W B t #[.int .i64 p.b.b.x, .int .i64 p.b.b.y, .int .i64 p.b.b.z, .int .i64 p.b.s.x, .int .i64 p.b.s.y, .int .i64 p.b.s.z, .bool p.t0, .bool p.t1, .bool p.t2]) (k : Nat) (hk : k < 3) : W.cell? ⟨B, 6 + k, none⟩ = some (.bool (p.tor k)) := by
  match k, hk with
  | 0, _ => exact h.cell 6 _ rfl
  | 1, _ => exact h.cell 7 _ rfl
  | 2, _ => exact h.cell 8 _ rfl
set_option maxRecDepth 100000 in set_option maxHeartbeats 4000000 in
theorem run_neq_box (x y : Bx) (w : World) : (binOp .neq 27 (.agg #[.int .i64 x.b.x, .int .i64 x.b.y, .int .i64 x.b.z, .int .i64 x.s.x, .int .i64 x.s.y, .int .i64 x.s.z]) (.agg #[.int .i64 y.b.x, .int .i64 y.b.y, .int .i64 y.b.z, .int .i64 y.s.x, .int .i64 y.s.y, .int .i64 y.s.z])).run Try.prog w = .ok (.bool (!decide (x = y))) w := by
  have a3 := Try.isAgg22
  have z3 := Try.sizeOf22
  have h1 := fun w => run_equal3 22 Try.underlying22 9997 x.b y.b w
  have h2 := fun w => run_equal3 22 Try.underlying22 9997 x.s y.s w
  have hS : Try.prog.underlying 27 = some (.struct (Try.prog.fieldsOf 27)) := by kernel_rfl
  have hp : Try.prog.stoodInHeld 27 = false := by kernel_rfl
  rw [run_neq_struct, show (10000 : Nat) = 9999 + 1 from rfl, run_equalIn_agg w 9999 27 _ _ hS hp]
  simp only [Program.fieldsOf, Try.underlying27]
  go_simp
  obtain ⟨xb, xs⟩ := x
  obtain ⟨yb, ys⟩ := y
  by_cases h1 : xb = yb <;> by_cases h2 : xs = ys <;> simp [h1, h2]
end
end
end Go.Proofs.Ytofoenlhbmammaa
