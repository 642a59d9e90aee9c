/- EQUALITY of boxes; PLACE: whether it may be. -/
import Derived.Test.YtofoenlhbmammaaGreatProg
import Derived.Laws.StructEq
import Derived.ChangeKeysEq
import Derived.Test.YtofoenlhbmammaaGreatQ2F11
import Derived.Test.YtofoenlhbmammaaGreatQ5F11
import Derived.Test.YtofoenlhbmammaaGreatQ0PosNF11
set_option linter.unusedVariables false
set_option linter.unusedSimpArgs false
namespace Go.Proofs.YtofoenlhbmammaaGreat

section
section
open Go.RowKit Go.Shelf

set_option maxRecDepth 100000 in set_option maxHeartbeats 4000000 in
theorem run_equal3 (t : Nat) (ht : Tryz.prog.underlying t = some (.array 3 3)) (d : Nat) (p q : V3) (w : World) : (Op.equalIn (d + 1 + 1) t (.agg #[.int .i64 p.x, .int .i64 p.y, .int .i64 p.z]) (.agg #[.int .i64 q.x, .int .i64 q.y, .int .i64 q.z])).run Tryz.prog w = .ok (decide (p = q)) w := by
  have u3 := Tryz.underlying3
  have a3 := Tryz.isAgg3
  have z3 := Tryz.sizeOf3
  obtain ⟨i0, hi, iz0, iz1, iz2⟩ := info_parts infoInt
  have hc : Tryz.prog.cellsOf 3 = 1 := by kernel_rfl
  rw [run_equalIn_array w (d + 1) _ _ ht hi, hc, show List.range 3 = [0, 1, 2] from rfl]
  simp only [Op.eqItems]
  go_simp
  obtain ⟨px, py, pz⟩ := p
  obtain ⟨qx, qy, qz⟩ := q
  by_cases h1 : px = qx <;> by_cases h2 : py = qy <;> by_cases h3 : pz = qz <;> simp [h1, h2, h3]

set_option maxRecDepth 100000 in set_option maxHeartbeats 4000000 in
theorem run_eql_box (x y : Bx) (w : World) : (binOp .eql 28 (.agg #[.int .i64 x.b.x, .int .i64 x.b.y, .int .i64 x.b.z, .int .i64 x.s.x, .int .i64 x.s.y, .int .i64 x.s.z]) (.agg #[.int .i64 y.b.x, .int .i64 y.b.y, .int .i64 y.b.z, .int .i64 y.s.x, .int .i64 y.s.y, .int .i64 y.s.z])).run Tryz.prog w = .ok (.bool (decide (x = y))) w := by
  have a3 := Tryz.isAgg22
  have z3 := Tryz.sizeOf22
  have h1 := fun w => run_equal3 22 Tryz.underlying22 9997 x.b y.b w
  have h2 := fun w => run_equal3 22 Tryz.underlying22 9997 x.s y.s w
  have hS : Tryz.prog.underlying 28 = some (.struct (Tryz.prog.fieldsOf 28)) := by kernel_rfl
  have hp : Tryz.prog.stoodInHeld 28 = false := by kernel_rfl
  rw [run_eql_struct, show (10000 : Nat) = 9999 + 1 from rfl, run_equalIn_agg w 9999 28 _ _ hS hp]
  simp only [Program.fieldsOf, Tryz.underlying28]
  go_simp
  obtain ⟨xb, xs⟩ := x
  obtain ⟨yb, ys⟩ := y
  by_cases h1 : xb = yb <;> by_cases h2 : xs = ys <;> simp [h1, h2]
end

section
open Go.RowKit Go.Shelf

structure Pl where
  b : Bx
  t0 : Bool
  t1 : Bool
  t2 : Bool
deriving DecidableEq
def Pl.tor (p : Pl) : Nat → Bool
  | 0 => p.t0
  | 1 => p.t1
  | _ => p.t2
/-- Along some axis a torus that is one long. -/
def Pl.odd (p : Pl) : Bool := (p.t0 && p.b.s.x == 1) || (p.t1 && p.b.s.y == 1) || (p.t2 && p.b.s.z == 1)
def plChk (d : V3) (p : Pl) : Int := if chk d p.b = 0 then (if p.odd then 2 else if p.b.can d = p.b then 0 else 2) else chk d p.b
theorem Pl.odd_iff (p : Pl) : p.odd = true ↔ ∃ k, k < 3 ∧ p.tor k = true ∧ p.b.s.at k = 1 := by
  unfold Pl.odd
  constructor
  · intro h
    simp only [Bool.or_eq_true, Bool.and_eq_true, beq_iff_eq] at h
    rcases h with (⟨h1, h2⟩ | ⟨h1, h2⟩) | ⟨h1, h2⟩
    · exact ⟨0, by omega, h1, h2⟩
    · exact ⟨1, by omega, h1, h2⟩
    · exact ⟨2, by omega, h1, h2⟩
  · rintro ⟨k, hk, h1, h2⟩
    match k, hk with
    | 0, _ => rw [show p.t0 = true from h1, show p.b.s.x = 1 from h2]; rfl
    | 1, _ => rw [show p.t1 = true from h1, show p.b.s.y = 1 from h2]; simp
    | 2, _ => rw [show p.t2 = true from h1, show p.b.s.z = 1 from h2]; simp
theorem tor_idx (p : Pl) (k : Nat) (hk : k < 3) : [Value.bool p.t0, Value.bool p.t1, Value.bool p.t2][k]'(by simpa using hk) = .bool (p.tor k) := by
  match k, hk with
  | 0, _ => rfl
  | 1, _ => rfl
  | 2, _ => rfl
theorem size_cell {W : World} {B : Nat} {t : TypeId} {p : Pl} (h : Blk W B t #[.int .i64 p.b.b.x, .int .i64 p.b.b.y, .int .i64 p.b.b.z, .int .i64 p.b.s.x, .int .i64 p.b.s.y, .int .i64 p.b.s.z, .bool p.t0, .bool p.t1, .bool p.t2]) (k : Nat) (hk : k < 3) : W.cell? ⟨B, 3 + k, none⟩ = some (.int .i64 (p.b.s.at k)) := by
  match k, hk with
  | 0, _ => exact h.cell 3 _ rfl
  | 1, _ => exact h.cell 4 _ rfl
  | 2, _ => exact h.cell 5 _ rfl
theorem tor_cell {W : World} {B : Nat} {t : TypeId} {p : Pl} (h : Blk W B t #[.int .i64 p.b.b.x, .int .i64 p.b.b.y, .int .i64 p.b.b.z, .int .i64 p.b.s.x, .int .i64 p.b.s.y, .int .i64 p.b.s.z, .bool p.t0, .bool p.t1, .bool p.t2]) (k : Nat) (hk : k < 3) : W.cell? ⟨B, 6 + k, none⟩ = some (.bool (p.tor k)) := by
  match k, hk with
  | 0, _ => exact h.cell 6 _ rfl
  | 1, _ => exact h.cell 7 _ rfl
  | 2, _ => exact h.cell 8 _ rfl
set_option maxRecDepth 100000 in set_option maxHeartbeats 4000000 in
theorem run_neq_box (x y : Bx) (w : World) : (binOp .neq 28 (.agg #[.int .i64 x.b.x, .int .i64 x.b.y, .int .i64 x.b.z, .int .i64 x.s.x, .int .i64 x.s.y, .int .i64 x.s.z]) (.agg #[.int .i64 y.b.x, .int .i64 y.b.y, .int .i64 y.b.z, .int .i64 y.s.x, .int .i64 y.s.y, .int .i64 y.s.z])).run Tryz.prog w = .ok (.bool (!decide (x = y))) w := by
  have a3 := Tryz.isAgg22
  have z3 := Tryz.sizeOf22
  have h1 := fun w => run_equal3 22 Tryz.underlying22 9997 x.b y.b w
  have h2 := fun w => run_equal3 22 Tryz.underlying22 9997 x.s y.s w
  have hS : Tryz.prog.underlying 28 = some (.struct (Tryz.prog.fieldsOf 28)) := by kernel_rfl
  have hp : Tryz.prog.stoodInHeld 28 = false := by kernel_rfl
  rw [run_neq_struct, show (10000 : Nat) = 9999 + 1 from rfl, run_equalIn_agg w 9999 28 _ _ hS hp]
  simp only [Program.fieldsOf, Tryz.underlying28]
  go_simp
  obtain ⟨xb, xs⟩ := x
  obtain ⟨yb, ys⟩ := y
  by_cases h1 : xb = yb <;> by_cases h2 : xs = ys <;> simp [h1, h2]
set_option maxRecDepth 100000 in set_option maxHeartbeats 4000000 in
theorem place_Check (d : V3) (p : Pl) (w : World) : Calls Tryz.prog 61 #[.agg #[.int .i64 d.x, .int .i64 d.y, .int .i64 d.z], .agg #[.int .i64 p.b.b.x, .int .i64 p.b.b.y, .int .i64 p.b.b.z, .int .i64 p.b.s.x, .int .i64 p.b.s.y, .int .i64 p.b.s.z, .bool p.t0, .bool p.t1, .bool p.t2]] w (RB w (.int .i64 (plChk d p))) := by
  have HC := Lib.hid (fun W => box_Canon d p.b W)
  have HE := Lib.hid (show plChk d p = if chk d p.b = 0 then (if p.odd then 2 else if p.b.can d = p.b then 0 else 2) else chk d p.b from rfl)
  by_cases hz : chk d p.b = 0
  · rw [if_pos hz] at HE
    rw [canV, if_pos hz, hz] at HC
    have HO := Lib.hid p.odd_iff
    clear hz
    have heq : ∀ w, (binOp .neq 28 (.agg #[.int .i64 (p.b.can d).b.x, .int .i64 (p.b.can d).b.y, .int .i64 (p.b.can d).b.z, .int .i64 (p.b.can d).s.x, .int .i64 (p.b.can d).s.y, .int .i64 (p.b.can d).s.z]) (.agg #[.int .i64 p.b.b.x, .int .i64 p.b.b.y, .int .i64 p.b.b.z, .int .i64 p.b.s.x, .int .i64 p.b.s.y, .int .i64 p.b.s.z])).run Tryz.prog w = .ok (.bool (!decide (p.b.can d = p.b))) w := fun w => by rw [run_neq_box]
    have hgd : Tryz.prog.eqGuardType Tryz.prog.depth 28 = false := by kernel_rfl
    generalize p.b.can d = c at *
    go_enter Tryz.func61, Tryz.ntmps61
    go_wp2_with ((with_reducible refine (HC.out _).mono ?_); rintro e w1 ⟨rfl, hb1⟩; (obtain ⟨hc1, hf1⟩ := bcell hb1; have hz1 := hb1.size; (try simp at hz1); have hB : Below w.heap.size w w1 := (by (repeat (first | (with_reducible exact Below.refl _ _) | (with_reducible assumption) | (with_reducible refine below_alloc ?_ _) | (with_reducible refine below_drewN ?_ _) | (with_reducible refine Below.drew ?_) | (with_reducible refine below_then ?_ (by with_reducible assumption)) | (with_reducible refine Below.setCell ?_ (by go_size) _)))); obtain ⟨hcB, hfB⟩ := bcell hB; (try have z0 : w.heap.size < w1.heap.size := by omega); (try have z1 : w.heap.size + 1 < w1.heap.size := by omega); (try have z2 : w.heap.size + 2 < w1.heap.size := by omega); (try have z3 : w.heap.size + 3 < w1.heap.size := by omega)))
    have BP := (Blk.new (w.alloc (.cells #[.int .i64 d.x, .int .i64 d.y, .int .i64 d.z] 23)) 31 #[.int .i64 p.b.b.x, .int .i64 p.b.b.y, .int .i64 p.b.b.z, .int .i64 p.b.s.x, .int .i64 p.b.s.y, .int .i64 p.b.s.z, .bool p.t0, .bool p.t1, .bool p.t2]).below hb1
    have BC := Blk.new w1 28 #[.int .i64 c.b.x, .int .i64 c.b.y, .int .i64 c.b.z, .int .i64 c.s.x, .int .i64 c.s.y, .int .i64 c.s.z]
    have HB := Lib.hid (below_alloc hB (.cells #[.int .i64 c.b.x, .int .i64 c.b.y, .int .i64 c.b.z, .int .i64 c.s.x, .int .i64 c.s.y, .int .i64 c.s.z] 28))
    replace BP := BP.alloc (.cells #[.int .i64 c.b.x, .int .i64 c.b.y, .int .i64 c.b.z, .int .i64 c.s.x, .int .i64 c.s.y, .int .i64 c.s.z] 28)
    obtain ⟨W, hW⟩ : ∃ W, w1.alloc (.cells #[.int .i64 c.b.x, .int .i64 c.b.y, .int .i64 c.b.z, .int .i64 c.s.x, .int .i64 c.s.y, .int .i64 c.s.z] 28) = W := ⟨_, rfl⟩
    rw [World.size_alloc] at BP
    rw [hW] at BP BC HB ⊢
    have HP := Lib.hid BP
    have HBC := Lib.hid BC
    clear hW hb1 hc1 hf1 hB hcB hfB BP BC z0 z1 HC hz1
    try clear z2 z3
    go_loop [21] (fun i => ∃ k : Nat, k ≤ 3 ∧ i = .int .i64 k ∧ ∀ j, j < k → ¬ (p.tor j = true ∧ p.b.s.at j = 1)) (fun i => 3 - (intOf i).toNat)
    case atStart => exact ⟨0, by omega, rfl, fun j hj => by omega⟩
    case round =>
      obtain ⟨k, hk, rfl, hj⟩ := hrel
      have HJ := Lib.hid hj
      clear hj
      by_cases hlt : k < 3
      · have hidx := tor_idx p k hlt
        have hc := size_cell HP.out k hlt
        cases ht : p.tor k with
        | false =>
          rw [ht] at hidx
          have HT := Lib.hid ht
          clear ht hc
          go_wp2_with fail
          go_round
          case rel => exact ⟨k + 1, by omega, by go_num, fun j hj => by
            by_cases e : j = k
            · subst e; rw [HT.out]; simp
            · exact HJ.out j (by omega)⟩
          case measure => (simp [intOf] <;> omega)
        | true =>
          rw [ht] at hidx
          have HT := Lib.hid ht
          clear ht
          by_cases hs : p.b.s.at k = 1
          · have hs1 : (p.b.s.at k == 1) = true := by simpa using hs
            have hO := Lib.hid (HO.out.2 ⟨k, hlt, HT.out, hs⟩)
            clear hs
            go_wp2_with fail
            go_returns
            exact ⟨by rw [HE.out, if_pos hO.out]; rfl, HB.out⟩
          · have hs1 : (p.b.s.at k == 1) = false := by simpa using hs
            have HS := Lib.hid hs
            clear hs
            go_wp2_with fail
            go_round
            case rel => exact ⟨k + 1, by omega, by go_num, fun j hj => by
              by_cases e : j = k
              · subst e; intro h; exact HS.out h.2
              · exact HJ.out j (by omega)⟩
            case measure => (simp [intOf] <;> omega)
      · obtain rfl : k = 3 := by omega
        have hO : ¬ p.odd = true := fun h => by obtain ⟨j, h1, h2⟩ := HO.out.1 h; exact HJ.out j h1 h2
        rw [if_neg hO] at HE
        have BB := HP.out
        have p0 := BB.cell 0 _ rfl
        have p1 := BB.cell 1 _ rfl
        have p2 := BB.cell 2 _ rfl
        have p3 := BB.cell 3 _ rfl
        have p4 := BB.cell 4 _ rfl
        have p5 := BB.cell 5 _ rfl
        have c0 := HBC.out.cell 0 _ rfl
        have c1 := HBC.out.cell 1 _ rfl
        have c2 := HBC.out.cell 2 _ rfl
        have c3 := HBC.out.cell 3 _ rfl
        have c4 := HBC.out.cell 4 _ rfl
        have c5 := HBC.out.cell 5 _ rfl
        clear BB hO
        by_cases he : c = p.b
        · have hd : (!decide (c = p.b)) = false := by rw [decide_eq_true he]; rfl
          rw [if_pos he] at HE
          rw [hd] at heq
          clear hd he
          go_wp2_with fail
          go_returns
          exact ⟨by rw [HE.out]; rfl, HB.out⟩
        · have hd : (!decide (c = p.b)) = true := by rw [decide_eq_false he]; rfl
          rw [if_neg he] at HE
          rw [hd] at heq
          clear hd he
          go_wp2_with fail
          go_returns
          exact ⟨by rw [HE.out]; rfl, HB.out⟩
  · rw [if_neg hz] at HE
    have hy1 : (chk d p.b == 0) = false := by simpa using hz
    have hy2 : (chk d p.b != 0) = true := by simpa using hz
    rw [canV, if_neg hz] at HC
    clear hz
    go_enter Tryz.func61, Tryz.ntmps61
    go_wp2_with ((with_reducible refine (HC.out _).mono ?_); rintro e w1 ⟨rfl, hb1⟩; (obtain ⟨hc1, hf1⟩ := bcell hb1; have hz1 := hb1.size; (try simp at hz1); have hB : Below w.heap.size w w1 := (by (repeat (first | (with_reducible exact Below.refl _ _) | (with_reducible assumption) | (with_reducible refine below_alloc ?_ _) | (with_reducible refine below_drewN ?_ _) | (with_reducible refine Below.drew ?_) | (with_reducible refine below_then ?_ (by with_reducible assumption)) | (with_reducible refine Below.setCell ?_ (by go_size) _)))); obtain ⟨hcB, hfB⟩ := bcell hB; (try have z0 : w.heap.size < w1.heap.size := by omega); (try have z1 : w.heap.size + 1 < w1.heap.size := by omega); (try have z2 : w.heap.size + 2 < w1.heap.size := by omega); (try have z3 : w.heap.size + 3 < w1.heap.size := by omega)))
    all_goals
      go_returns
      exact ⟨by rw [HE.out]; rfl, by (repeat (first | (with_reducible exact Below.refl _ _) | (with_reducible assumption) | (with_reducible refine below_alloc ?_ _) | (with_reducible refine below_drewN ?_ _) | (with_reducible refine Below.drew ?_) | (with_reducible refine below_then ?_ (by with_reducible assumption)) | (with_reducible refine Below.setCell ?_ (by go_size) _)))⟩
end
end
end Go.Proofs.YtofoenlhbmammaaGreat
