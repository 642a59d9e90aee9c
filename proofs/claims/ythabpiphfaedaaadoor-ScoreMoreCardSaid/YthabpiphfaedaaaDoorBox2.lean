/- BOX: the error of two boxes. -/
import Derived.Test.YthabpiphfaedaaaDoorProg
import Derived.Test.YthabpiphfaedaaaDoorBase
import Derived.Test.YthabpiphfaedaaaDoorBox1
namespace Go.Proofs.YthabpiphfaedaaaDoor
open Go.RowKit Go.Shelf

/-- The error of two boxes. -/
def chk2 (d : V3) (a b : Bx) : Int := if d.may then okIf (a.may d ∧ b.may d) 2 else 8
theorem chk_eq0 {d : V3} {b : Bx} (h : d.may) (hb : b.may d) : chk d b = 0 := by rw [chk, if_pos h, okIf_yes hb]
theorem chk_eq2 {d : V3} {b : Bx} (h : d.may) (hb : ¬ b.may d) : chk d b = 2 := by rw [chk, if_pos h, okIf_no hb]
theorem chk_eq8 {d : V3} {b : Bx} (h : ¬ d.may) : chk d b = 8 := by rw [chk, if_neg h]
theorem chk2_eq0 {d : V3} {a b : Bx} (h : d.may) (ha : a.may d) (hb : b.may d) : chk2 d a b = 0 := by rw [chk2, if_pos h, okIf_yes ⟨ha, hb⟩]
theorem chk2_eq2 {d : V3} {a b : Bx} (h : d.may) (ha : ¬ a.may d) : chk2 d a b = 2 := by rw [chk2, if_pos h, okIf_no (fun x => ha x.1)]
theorem chk2_eq2' {d : V3} {a b : Bx} (h : d.may) (hb : ¬ b.may d) : chk2 d a b = 2 := by rw [chk2, if_pos h, okIf_no (fun x => hb x.2)]
theorem chk2_eq8 {d : V3} {a b : Bx} (h : ¬ d.may) : chk2 d a b = 8 := by rw [chk2, if_neg h]

/-- Two boxes lie one behind the other. -/
structure Two (w : World) (B : Nat) (a b : Bx) : Prop where
  c0 : w.cell? ⟨B, 0, none⟩ = some (.int .i64 a.b.x)
  c1 : w.cell? ⟨B, 1, none⟩ = some (.int .i64 a.b.y)
  c2 : w.cell? ⟨B, 2, none⟩ = some (.int .i64 a.b.z)
  c3 : w.cell? ⟨B, 3, none⟩ = some (.int .i64 a.s.x)
  c4 : w.cell? ⟨B, 4, none⟩ = some (.int .i64 a.s.y)
  c5 : w.cell? ⟨B, 5, none⟩ = some (.int .i64 a.s.z)
  c6 : w.cell? ⟨B, 6, none⟩ = some (.int .i64 b.b.x)
  c7 : w.cell? ⟨B, 7, none⟩ = some (.int .i64 b.b.y)
  c8 : w.cell? ⟨B, 8, none⟩ = some (.int .i64 b.b.z)
  c9 : w.cell? ⟨B, 9, none⟩ = some (.int .i64 b.s.x)
  c10 : w.cell? ⟨B, 10, none⟩ = some (.int .i64 b.s.y)
  c11 : w.cell? ⟨B, 11, none⟩ = some (.int .i64 b.s.z)
  lt : B < w.heap.size

end Go.Proofs.YthabpiphfaedaaaDoor
