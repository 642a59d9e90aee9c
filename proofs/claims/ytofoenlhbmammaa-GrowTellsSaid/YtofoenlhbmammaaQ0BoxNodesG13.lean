/- BOX: all midplanes of a box. -/
import Derived.Test.YtofoenlhbmammaaQ0NodesLawG13
import Derived.Test.YtofoenlhbmammaaQ0PosCG13
import Derived.Test.YtofoenlhbmammaaQ0RefCanG13
set_option linter.unusedVariables false
set_option linter.unusedSimpArgs false
namespace Go.Proofs.Ytofoenlhbmammaa

section
open Go.RowKit Go.Shelf

set_option maxRecDepth 100000 in set_option maxHeartbeats 4000000 in
theorem box_Nodes_ok (d : V3) (b : Bx) (w : World) (hd : d.may) (hb : b.may d) : Calls Try.prog 14 #[.agg #[.int .i64 d.x, .int .i64 d.y, .int .i64 d.z], .agg #[.int .i64 b.b.x, .int .i64 b.b.y, .int .i64 b.b.z, .int .i64 b.s.x, .int .i64 b.s.y, .int .i64 b.s.z]] w (RIE w (b.all d) 0) := by
  obtain ⟨i0, hi, iz0, iz1, iz2⟩ := info_parts infoInt
  have HC := Lib.hid (fun W => by have := box_Check d b W; rw [chk_of hd hb] at this; exact this)
  have HA := Lib.hid (fun (x y z : Nat) (W : World) => show Calls Try.prog 33 #[.agg #[.int .i64 d.x, .int .i64 d.y, .int .i64 d.z], .agg #[.int .i64 ((b.b.x + (x : Int)) % d.x), .int .i64 ((b.b.y + (y : Int)) % d.y), .int .i64 ((b.b.z + (z : Int)) % d.z)]] W (RB W (.tuple #[.int .i64 (d.num (b.at d x y z)), .int .i64 0])) from pos_At_ok d (b.at d x y z) W hd (Bx.at_inside hd x y z))
  have HL := Lib.hid (fun (x y z : Nat) => Bx.part_len (x := x) (y := y) (z := z) hd hb)
  have HE := Lib.hid (Bx.nodes_eq hd hb)
  have hd' := hd
  unfold V3.may at hd'
  have hb' := hb
  unfold Bx.may at hb'
  clear hd hb
  go_enter Try.func14, Try.ntmps14
  go_wp2_with fail
  refine (HC.out _).mono ?_
  rintro e w1 ⟨rfl, hb1⟩
  (obtain ⟨hc1, hf1⟩ := bcell hb1; have hz1 := hb1.size; (try simp at hz1); have hB : Below w.heap.size w w1 := (by (repeat (first | (with_reducible exact Below.refl _ _) | (with_reducible assumption) | (with_reducible refine below_alloc ?_ _) | (with_reducible refine below_drewN ?_ _) | (with_reducible refine Below.drew ?_) | (with_reducible refine below_then ?_ (by with_reducible assumption)) | (with_reducible refine Below.setCell ?_ (by go_size) _)))); obtain ⟨hcB, hfB⟩ := bcell hB; (try have z0 : w.heap.size < w1.heap.size := by omega); (try have z1 : w.heap.size + 1 < w1.heap.size := by omega); (try have z2 : w.heap.size + 2 < w1.heap.size := by omega); (try have z3 : w.heap.size + 3 < w1.heap.size := by omega))
  have DD : DimsAt w1 w.heap.size d := by constructor <;> (rw [hc1 _ _ (by simp [go_sem])]; simp [go_sem])
  have BB : BxAt w1 (w.heap.size + 1) b := by constructor <;> (rw [hc1 _ _ (by simp [go_sem])]; simp [go_sem])
  have HB := Lib.hid hB
  have DD := Lib.hid DD
  have BB := Lib.hid BB
  clear hB hcB hfB
  go_wp2_with fail
  clear hc1 hf1 hb1
  go_loopw [7, 22] (fun v i wr => ∃ z : Nat, z ≤ b.s.z.toNat ∧ i = .int .i64 z ∧ wr.ownsRow w1.heap.size 3 1 v (b.nZ d z).length ((b.nZ d z).map (Value.int .i64)) ∧ Below w1.heap.size w1 wr) (fun _ i _ => b.s.z.toNat - (intOf i).toNat)
  case atStart => exact ⟨0, Nat.zero_le _, rfl, by simpa [Bx.nZ] using World.ownsRow_nil _ _ _ _, Below.refl _ _⟩
  case round =>
    obtain ⟨z, hz, rfl, hown, hbel⟩ := hrel
    have HO := Lib.hid hown
    clear hown
    obtain ⟨wo, hwo⟩ : ∃ wo : World, wo = wr := ⟨_, rfl⟩
    subst hwo
    have hzz := hbel.size
    obtain ⟨d0, d1, d2⟩ := DD.out.keep hbel DD.out.lt
    obtain ⟨b0, b1, b2, b3, b4, b5⟩ := BB.out.keep hbel BB.out.lt
    by_cases hlt : (z : Int) < b.s.z
    · have HS := Lib.hid (Bx.nZ_succ d b z)
      go_wp2_with fail
      clear d0 d1 d2 b0 b1 b2 b3 b4 b5
      go_loopw [7, 28] (fun v i wr => ∃ y : Nat, y ≤ b.s.y.toNat ∧ i = .int .i64 y ∧ wr.ownsRow w1.heap.size 3 1 v (b.nZ d z ++ b.nY d z y).length ((b.nZ d z ++ b.nY d z y).map (Value.int .i64)) ∧ Below w1.heap.size w1 wr) (fun _ i _ => b.s.y.toNat - (intOf i).toNat)
      case atStart => exact ⟨0, Nat.zero_le _, rfl, by simpa [Bx.nY] using HO.out, hbel⟩
      case round =>
        clear HO hbel hzz
        obtain ⟨y, hy, rfl, hown, hbel⟩ := hrel
        have HO := Lib.hid hown
        clear hown
        obtain ⟨wo2, hwo2⟩ : ∃ wo : World, wo = wr := ⟨_, rfl⟩
        subst hwo2
        have hzz := hbel.size
        obtain ⟨d0, d1, d2⟩ := DD.out.keep hbel DD.out.lt
        obtain ⟨b0, b1, b2, b3, b4, b5⟩ := BB.out.keep hbel BB.out.lt
        by_cases hlty : (y : Int) < b.s.y
        · have HSY := Lib.hid (Bx.nY_succ d b z y)
          go_wp2_with fail
          clear d0 d1 d2 b0 b1 b2 b3 b4 b5
          go_loopw [7, 34] (fun v i wr => ∃ x : Nat, x ≤ b.s.x.toNat ∧ i = .int .i64 x ∧ wr.ownsRow w1.heap.size 3 1 v (b.nZ d z ++ b.nY d z y ++ b.nX d y z x).length ((b.nZ d z ++ b.nY d z y ++ b.nX d y z x).map (Value.int .i64)) ∧ Below w1.heap.size w1 wr) (fun _ i _ => b.s.x.toNat - (intOf i).toNat)
          case atStart => exact ⟨0, Nat.zero_le _, rfl, by simpa [Bx.nX] using HO.out, hbel⟩
          case round =>
            clear HO hbel hzz
            obtain ⟨x, hx, rfl, hown, hbel⟩ := hrel
            have HO := Lib.hid hown
            clear hown
            by_cases hltx : (x : Int) < b.s.x
            · have hzz := hbel.size
              obtain ⟨d0, d1, d2⟩ := DD.out.keep hbel DD.out.lt
              obtain ⟨b0, b1, b2, b3, b4, b5⟩ := BB.out.keep hbel BB.out.lt
              have HSX := Lib.hid (Bx.nX_succ d b y z x)
              have hlen := HL.out (x + 1) y z (by omega) hy hz
              rw [HSX.out, ← List.append_assoc, List.length_append] at hlen
              have HAx := Lib.hid (HA.out x y z)
              obtain ⟨l, hl⟩ : ∃ l, l = b.nZ d z ++ b.nY d z y ++ b.nX d y z x := ⟨_, rfl⟩
              rw [← hl] at HO hlen
              have HLL := Lib.hid hl
              clear hl
              obtain ⟨n0, hn0⟩ : ∃ n0, n0 = d.num (b.at d x y z) := ⟨_, rfl⟩
              rw [← hn0] at HAx
              have HN := Lib.hid hn0
              clear hn0
              have t0 : w.heap.size < wr.heap.size := by have := DD.out.lt; omega
              have t1 : w.heap.size + 1 < wr.heap.size := by have := BB.out.lt; omega
              have q1 : IntKind.i64.wrap (b.b.x + (x : Int)) = b.b.x + (x : Int) := IntWalk.i64_in _ (by omega)
              have q2 : IntKind.i64.wrap (b.b.y + (y : Int)) = b.b.y + (y : Int) := IntWalk.i64_in _ (by omega)
              have q3 : IntKind.i64.wrap (b.b.z + (z : Int)) = b.b.z + (z : Int) := IntWalk.i64_in _ (by omega)
              have g1 : 0 ≤ b.b.x + (x : Int) := by omega
              have g2 : 0 ≤ b.b.y + (y : Int) := by omega
              have g3 : 0 ≤ b.b.z + (z : Int) := by omega
              simp only [List.length_cons, List.length_nil] at hlen
              go_wp2_with fail
              (refine wp_region_aft (by kernel_rfl) (by kernel_rfl) ?_; (repeat (any_goals (first | go_big_quiet_step ((go_at_call 33; refine Calls.aft_of (HAx.out _))) | quiet_step ((go_at_call 33; refine Calls.aft_of (HAx.out _))) | (refine wpQuiet_step (fun K hK => ?_); go_simp; split <;> (refine hK _ ?_; clear hK K))))); all_goals (refine wpQuiet_nil ?_; intro wq hw'; obtain ⟨x1, hx1⟩ := hw'; have hbq := x1.h; rw [← hx1] at hbq; clear hx1 x1))
              clear d0 d1 d2 b0 b1 b2 b3 b4 b5 q1 q2 q3 g1 g2 g3
              have HO2 := Lib.hid (own_keep HO.out hbq)
              have hbel2 := below_then hbel hbq
              have hz2 := hbel2.size
              clear HO hbel hbq hzz t0 t1
              go_wp2_with (at_builtin; refine wpList_append_own _ rfl _ _ 39 rfl (w1.heap.size) 3 i0 (.int .i64 0) 1 8 Try.underlying39 hi iz0 iz1 iz2 rfl (by decide) _ _ _ rfl ((HO2.out).alloc _) ⟨_, 0, none⟩ 1 1 [.int .i64 (n0)] rfl rfl (cell_new1 _ _ _) (by simp [Value.oneCell']) ?ap3 ?ap4 ?ap5 ?_)
              case ap3 => unfold maxLen; omega
              case ap4 => omega
              case ap5 => simp; omega
              intro v' w3 o3 hg3 _
              have n3 := own_below (HO2.out.alloc _) hg3 (by simp; omega)
              have e3 : Below w1.heap.size w1 w3 := (hbel2.alloc hz2 _).trans n3
              clear n3
              have hown3 : w3.ownsRow w1.heap.size 3 1 v' (b.nZ d z ++ b.nY d z y ++ b.nX d y z (x + 1)).length ((b.nZ d z ++ b.nY d z y ++ b.nX d y z (x + 1)).map (Value.int .i64)) := by
                rw [HSX.out, ← List.append_assoc, ← HLL.out, ← HN.out]; simpa using o3
              have HO3 := Lib.hid hown3
              clear hown3 o3 hg3
              go_wp2_with fail
              go_roundw
              case rel => exact ⟨x + 1, by omega, by go_num, HO3.out, e3⟩
              case measure => simp [intOf]; omega
            · obtain rfl : x = b.s.x.toNat := by omega
              rw [List.append_assoc, ← HSY.out] at HO
              go_wp2_with fail
              go_roundw
              case rel => exact ⟨y + 1, by omega, by go_num, HO.out, hbel⟩
              case measure => simp [intOf]; omega
        · obtain rfl : y = b.s.y.toNat := by omega
          rw [← HS.out] at HO
          go_wp2_with fail
          go_roundw
          case rel => exact ⟨z + 1, by omega, by go_num, HO.out, hbel⟩
          case measure => simp [intOf]; omega
    · obtain rfl : z = b.s.z.toNat := by omega
      have hln := HL.out 0 0 b.s.z.toNat (by omega) (by omega) (by omega)
      have hp : 0 < (b.nZ d b.s.z.toNat).length := by
        rw [Bx.nZ_len]
        exact Nat.mul_pos (by omega) (Nat.mul_pos (by omega) (by omega))
      simp only [Bx.nX, Bx.nY, List.range_zero, List.map_nil, List.flatMap_nil, List.append_nil] at hln
      obtain ⟨l, hl⟩ : ∃ l, l = b.nZ d b.s.z.toNat := ⟨_, rfl⟩
      rw [← hl] at HO hln hp
      have hse : sorted l = b.all d := by rw [hl]; exact HE.out
      have HSE := Lib.hid hse
      clear hse hl
      rcases HO.out.2 with ⟨_, e0⟩ | ⟨g, cap, cur, hv, _⟩
      · omega
      · subst hv
        go_wp2_with fail
        refine (sort_own HO.out hzz (by omega)).mono ?_
        rintro e w3 ⟨rfl, ho3, hb3⟩
        go_wp2_with fail
        go_returns
        have hll : (b.all d).length = l.length := by rw [← HSE.out, sorted_len]
        refine ⟨_, rfl, ?_, below_then HB.out (hbel.trans hb3)⟩
        rw [hll, ← HSE.out]
        exact own_mono ho3 (by have := HB.out.size; omega)

set_option maxRecDepth 100000 in set_option maxHeartbeats 4000000 in
theorem box_Nodes (d : V3) (b : Bx) (w : World) : Calls Try.prog 14 #[.agg #[.int .i64 d.x, .int .i64 d.y, .int .i64 d.z], .agg #[.int .i64 b.b.x, .int .i64 b.b.y, .int .i64 b.b.z, .int .i64 b.s.x, .int .i64 b.s.y, .int .i64 b.s.z]] w (RIE w (nodesV d b) (chk d b)) := by
  by_cases h : chk d b = 0
  · rw [nodesV, if_pos h, h]
    obtain ⟨hd, hb⟩ := chk_may h
    exact box_Nodes_ok d b w hd hb
  · rw [nodesV, if_neg h]
    have HC := Lib.hid (fun W => box_Check d b W)
    have hn : (chk d b == 0) = false := by simpa using h
    have hm : (chk d b != 0) = true := by simpa using h
    clear h
    go_enter Try.func14, Try.ntmps14
    go_wp2_with fail
    refine (HC.out _).mono ?_
    rintro e w1 ⟨rfl, hb1⟩
    (obtain ⟨hc1, hf1⟩ := bcell hb1; have hz1 := hb1.size; (try simp at hz1); have hB : Below w.heap.size w w1 := (by (repeat (first | (with_reducible exact Below.refl _ _) | (with_reducible assumption) | (with_reducible refine below_alloc ?_ _) | (with_reducible refine below_drewN ?_ _) | (with_reducible refine Below.drew ?_) | (with_reducible refine below_then ?_ (by with_reducible assumption)) | (with_reducible refine Below.setCell ?_ (by go_size) _)))); obtain ⟨hcB, hfB⟩ := bcell hB; (try have z0 : w.heap.size < w1.heap.size := by omega); (try have z1 : w.heap.size + 1 < w1.heap.size := by omega); (try have z2 : w.heap.size + 2 < w1.heap.size := by omega); (try have z3 : w.heap.size + 3 < w1.heap.size := by omega))
    go_wp2_with fail
    go_returns
    exact ⟨_, rfl, World.ownsRow_nil _ _ _ _, by (repeat (first | (with_reducible exact Below.refl _ _) | (with_reducible assumption) | (with_reducible refine below_alloc ?_ _) | (with_reducible refine below_drewN ?_ _) | (with_reducible refine Below.drew ?_) | (with_reducible refine below_then ?_ (by with_reducible assumption)) | (with_reducible refine Below.setCell ?_ (by go_size) _)))⟩
end
end Go.Proofs.Ytofoenlhbmammaa
