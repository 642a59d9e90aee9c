/- BOX, THE PLAIN LAW: the same midplanes, just if the same canonical box. -/
import Derived.Test.YtofoenlhbmammaaGreatQ6F11
import Derived.Test.YtofoenlhbmammaaGreatQ0PosCF11
set_option linter.unusedVariables false
set_option linter.unusedSimpArgs false
namespace Go.Proofs.YtofoenlhbmammaaGreat

section
open Go.RowKit Go.Shelf

set_option maxRecDepth 100000 in set_option maxHeartbeats 4000000 in
theorem box_Nodes_ok (d : V3) (b : Bx) (w : World) (hd : d.may) (hb : b.may d) : Calls Tryz.prog 92 #[.agg #[.int .i64 d.x, .int .i64 d.y, .int .i64 d.z], .agg #[.int .i64 b.b.x, .int .i64 b.b.y, .int .i64 b.b.z, .int .i64 b.s.x, .int .i64 b.s.y, .int .i64 b.s.z]] w (RIE w (b.all d) 0) := by
  obtain ⟨i0, hi, iz0, iz1, iz2⟩ := info_parts infoInt
  have HC := Lib.hid (fun W => by have := box_Check d b W; rw [chk_of hd hb] at this; exact this)
  have HA := Lib.hid (fun (x y z : Nat) (W : World) => show Calls Tryz.prog 111 #[.agg #[.int .i64 d.x, .int .i64 d.y, .int .i64 d.z], .agg #[.int .i64 ((b.b.x + (x : Int)) % d.x), .int .i64 ((b.b.y + (y : Int)) % d.y), .int .i64 ((b.b.z + (z : Int)) % d.z)]] W (RB W (.tuple #[.int .i64 (d.num (b.at d x y z)), .int .i64 0])) from pos_At_ok d (b.at d x y z) W hd (Bx.at_inside hd x y z))
  have HL := Lib.hid (fun (x y z : Nat) => Bx.part_len (x := x) (y := y) (z := z) hd hb)
  have HE := Lib.hid (Bx.nodes_eq hd hb)
  have hd' := hd
  unfold V3.may at hd'
  have hb' := hb
  unfold Bx.may at hb'
  clear hd hb
  go_enter Tryz.func92, Tryz.ntmps92
  go_wp2_with fail
  refine (HC.out _).mono ?_
  rintro e w1 ⟨rfl, hb1⟩
  (obtain ⟨hc1, hf1⟩ := bcell hb1; have hz1 := hb1.size; (try simp at hz1); have hB : Below w.heap.size w w1 := (by (repeat (first | (with_reducible exact Below.refl _ _) | (with_reducible assumption) | (with_reducible refine below_alloc ?_ _) | (with_reducible refine below_drewN ?_ _) | (with_reducible refine Below.drew ?_) | (with_reducible refine below_then ?_ (by with_reducible assumption)) | (with_reducible refine Below.setCell ?_ (by go_size) _)))); obtain ⟨hcB, hfB⟩ := bcell hB; (try have z0 : w.heap.size < w1.heap.size := by omega); (try have z1 : w.heap.size + 1 < w1.heap.size := by omega); (try have z2 : w.heap.size + 2 < w1.heap.size := by omega); (try have z3 : w.heap.size + 3 < w1.heap.size := by omega))
  have DD : DimsAt w1 w.heap.size d := by constructor <;> (rw [hc1 _ _ (by simp [go_sem])]; simp [go_sem])
  have BB : BxAt w1 (w.heap.size + 1) b := by constructor <;> (rw [hc1 _ _ (by simp [go_sem])]; simp [go_sem])
  have HB := Lib.hid hB
  have DD := Lib.hid DD
  have BB := Lib.hid BB
  clear hB hcB hfB
  go_wp2_with fail
  clear hc1 hf1 hb1
  go_loopw [7, 22] (fun v i wr => ∃ z : Nat, z ≤ b.s.z.toNat ∧ i = .int .i64 z ∧ wr.ownsRow w1.heap.size 3 1 v (b.nZ d z).length ((b.nZ d z).map (Value.int .i64)) ∧ Below w1.heap.size w1 wr) (fun _ i _ => b.s.z.toNat - (intOf i).toNat)
  case atStart => exact ⟨0, Nat.zero_le _, rfl, by simpa [Bx.nZ] using World.ownsRow_nil _ _ _ _, Below.refl _ _⟩
  case round =>
    obtain ⟨z, hz, rfl, hown, hbel⟩ := hrel
    have HO := Lib.hid hown
    clear hown
    obtain ⟨wo, hwo⟩ : ∃ wo : World, wo = wr := ⟨_, rfl⟩
    subst hwo
    have hzz := hbel.size
    obtain ⟨d0, d1, d2⟩ := DD.out.keep hbel DD.out.lt
    obtain ⟨b0, b1, b2, b3, b4, b5⟩ := BB.out.keep hbel BB.out.lt
    by_cases hlt : (z : Int) < b.s.z
    · have HS := Lib.hid (Bx.nZ_succ d b z)
      go_wp2_with fail
      clear d0 d1 d2 b0 b1 b2 b3 b4 b5
      go_loopw [7, 28] (fun v i wr => ∃ y : Nat, y ≤ b.s.y.toNat ∧ i = .int .i64 y ∧ wr.ownsRow w1.heap.size 3 1 v (b.nZ d z ++ b.nY d z y).length ((b.nZ d z ++ b.nY d z y).map (Value.int .i64)) ∧ Below w1.heap.size w1 wr) (fun _ i _ => b.s.y.toNat - (intOf i).toNat)
      case atStart => exact ⟨0, Nat.zero_le _, rfl, by simpa [Bx.nY] using HO.out, hbel⟩
      case round =>
        clear HO hbel hzz
        obtain ⟨y, hy, rfl, hown, hbel⟩ := hrel
        have HO := Lib.hid hown
        clear hown
        obtain ⟨wo2, hwo2⟩ : ∃ wo : World, wo = wr := ⟨_, rfl⟩
        subst hwo2
        have hzz := hbel.size
        obtain ⟨d0, d1, d2⟩ := DD.out.keep hbel DD.out.lt
        obtain ⟨b0, b1, b2, b3, b4, b5⟩ := BB.out.keep hbel BB.out.lt
        by_cases hlty : (y : Int) < b.s.y
        · have HSY := Lib.hid (Bx.nY_succ d b z y)
          go_wp2_with fail
          clear d0 d1 d2 b0 b1 b2 b3 b4 b5
          go_loopw [7, 34] (fun v i wr => ∃ x : Nat, x ≤ b.s.x.toNat ∧ i = .int .i64 x ∧ wr.ownsRow w1.heap.size 3 1 v (b.nZ d z ++ b.nY d z y ++ b.nX d y z x).length ((b.nZ d z ++ b.nY d z y ++ b.nX d y z x).map (Value.int .i64)) ∧ Below w1.heap.size w1 wr) (fun _ i _ => b.s.x.toNat - (intOf i).toNat)
          case atStart => exact ⟨0, Nat.zero_le _, rfl, by simpa [Bx.nX] using HO.out, hbel⟩
          case round =>
            clear HO hbel hzz
            obtain ⟨x, hx, rfl, hown, hbel⟩ := hrel
            have HO := Lib.hid hown
            clear hown
            by_cases hltx : (x : Int) < b.s.x
            · have hzz := hbel.size
              obtain ⟨d0, d1, d2⟩ := DD.out.keep hbel DD.out.lt
              obtain ⟨b0, b1, b2, b3, b4, b5⟩ := BB.out.keep hbel BB.out.lt
              have HSX := Lib.hid (Bx.nX_succ d b y z x)
              have hlen := HL.out (x + 1) y z (by omega) hy hz
              rw [HSX.out, ← List.append_assoc, List.length_append] at hlen
              have HAx := Lib.hid (HA.out x y z)
              obtain ⟨l, hl⟩ : ∃ l, l = b.nZ d z ++ b.nY d z y ++ b.nX d y z x := ⟨_, rfl⟩
              rw [← hl] at HO hlen
              have HLL := Lib.hid hl
              clear hl
              obtain ⟨n0, hn0⟩ : ∃ n0, n0 = d.num (b.at d x y z) := ⟨_, rfl⟩
              rw [← hn0] at HAx
              have HN := Lib.hid hn0
              clear hn0
              have t0 : w.heap.size < wr.heap.size := by have := DD.out.lt; omega
              have t1 : w.heap.size + 1 < wr.heap.size := by have := BB.out.lt; omega
              have q1 : IntKind.i64.wrap (b.b.x + (x : Int)) = b.b.x + (x : Int) := IntWalk.i64_in _ (by omega)
              have q2 : IntKind.i64.wrap (b.b.y + (y : Int)) = b.b.y + (y : Int) := IntWalk.i64_in _ (by omega)
              have q3 : IntKind.i64.wrap (b.b.z + (z : Int)) = b.b.z + (z : Int) := IntWalk.i64_in _ (by omega)
              have g1 : 0 ≤ b.b.x + (x : Int) := by omega
              have g2 : 0 ≤ b.b.y + (y : Int) := by omega
              have g3 : 0 ≤ b.b.z + (z : Int) := by omega
              simp only [List.length_cons, List.length_nil] at hlen
              go_wp2_with fail
              (refine wp_region_aft (by kernel_rfl) (by kernel_rfl) ?_; (repeat (any_goals (first | go_big_quiet_step ((go_at_call 111; refine Calls.aft_of (HAx.out _))) | quiet_step ((go_at_call 111; refine Calls.aft_of (HAx.out _))) | (refine wpQuiet_step (fun K hK => ?_); go_simp; split <;> (refine hK _ ?_; clear hK K))))); all_goals (refine wpQuiet_nil ?_; intro wq hw'; obtain ⟨x1, hx1⟩ := hw'; have hbq := x1.h; rw [← hx1] at hbq; clear hx1 x1))
              clear d0 d1 d2 b0 b1 b2 b3 b4 b5 q1 q2 q3 g1 g2 g3
              have HO2 := Lib.hid (own_keep HO.out hbq)
              have hbel2 := below_then hbel hbq
              have hz2 := hbel2.size
              clear HO hbel hbq hzz t0 t1
              go_wp2_with (at_builtin; refine wpList_append_own _ rfl _ _ 83 rfl (w1.heap.size) 3 i0 (.int .i64 0) 1 8 Tryz.underlying83 hi iz0 iz1 iz2 rfl (by decide) _ _ _ rfl ((HO2.out).alloc _) ⟨_, 0, none⟩ 1 1 [.int .i64 (n0)] rfl rfl (cell_new1 _ _ _) (by simp [Value.oneCell']) ?ap3 ?ap4 ?ap5 ?_)
              case ap3 => unfold maxLen; omega
              case ap4 => omega
              case ap5 => simp; omega
              intro v' w3 o3 hg3 _
              have n3 := own_below (HO2.out.alloc _) hg3 (by simp; omega)
              have e3 : Below w1.heap.size w1 w3 := (hbel2.alloc hz2 _).trans n3
              clear n3
              have hown3 : w3.ownsRow w1.heap.size 3 1 v' (b.nZ d z ++ b.nY d z y ++ b.nX d y z (x + 1)).length ((b.nZ d z ++ b.nY d z y ++ b.nX d y z (x + 1)).map (Value.int .i64)) := by
                rw [HSX.out, ← List.append_assoc, ← HLL.out, ← HN.out]; simpa using o3
              have HO3 := Lib.hid hown3
              clear hown3 o3 hg3
              go_wp2_with fail
              go_roundw
              case rel => exact ⟨x + 1, by omega, by go_num, HO3.out, e3⟩
              case measure => simp [intOf]; omega
            · obtain rfl : x = b.s.x.toNat := by omega
              rw [List.append_assoc, ← HSY.out] at HO
              go_wp2_with fail
              go_roundw
              case rel => exact ⟨y + 1, by omega, by go_num, HO.out, hbel⟩
              case measure => simp [intOf]; omega
        · obtain rfl : y = b.s.y.toNat := by omega
          rw [← HS.out] at HO
          go_wp2_with fail
          go_roundw
          case rel => exact ⟨z + 1, by omega, by go_num, HO.out, hbel⟩
          case measure => simp [intOf]; omega
    · obtain rfl : z = b.s.z.toNat := by omega
      have hln := HL.out 0 0 b.s.z.toNat (by omega) (by omega) (by omega)
      have hp : 0 < (b.nZ d b.s.z.toNat).length := by
        rw [Bx.nZ_len]
        exact Nat.mul_pos (by omega) (Nat.mul_pos (by omega) (by omega))
      simp only [Bx.nX, Bx.nY, List.range_zero, List.map_nil, List.flatMap_nil, List.append_nil] at hln
      obtain ⟨l, hl⟩ : ∃ l, l = b.nZ d b.s.z.toNat := ⟨_, rfl⟩
      rw [← hl] at HO hln hp
      have hse : sorted l = b.all d := by rw [hl]; exact HE.out
      have HSE := Lib.hid hse
      clear hse hl
      rcases HO.out.2 with ⟨_, e0⟩ | ⟨g, cap, cur, hv, _⟩
      · omega
      · subst hv
        go_wp2_with fail
        refine (sort_own HO.out hzz (by omega)).mono ?_
        rintro e w3 ⟨rfl, ho3, hb3⟩
        go_wp2_with fail
        go_returns
        have hll : (b.all d).length = l.length := by rw [← HSE.out, sorted_len]
        refine ⟨_, rfl, ?_, below_then HB.out (hbel.trans hb3)⟩
        rw [hll, ← HSE.out]
        exact own_mono ho3 (by have := HB.out.size; omega)

set_option maxRecDepth 100000 in set_option maxHeartbeats 4000000 in
theorem box_Nodes (d : V3) (b : Bx) (w : World) : Calls Tryz.prog 92 #[.agg #[.int .i64 d.x, .int .i64 d.y, .int .i64 d.z], .agg #[.int .i64 b.b.x, .int .i64 b.b.y, .int .i64 b.b.z, .int .i64 b.s.x, .int .i64 b.s.y, .int .i64 b.s.z]] w (RIE w (nodesV d b) (chk d b)) := by
  by_cases h : chk d b = 0
  · rw [nodesV, if_pos h, h]
    obtain ⟨hd, hb⟩ := chk_may h
    exact box_Nodes_ok d b w hd hb
  · rw [nodesV, if_neg h]
    have HC := Lib.hid (fun W => box_Check d b W)
    have hn : (chk d b == 0) = false := by simpa using h
    have hm : (chk d b != 0) = true := by simpa using h
    clear h
    go_enter Tryz.func92, Tryz.ntmps92
    go_wp2_with fail
    refine (HC.out _).mono ?_
    rintro e w1 ⟨rfl, hb1⟩
    (obtain ⟨hc1, hf1⟩ := bcell hb1; have hz1 := hb1.size; (try simp at hz1); have hB : Below w.heap.size w w1 := (by (repeat (first | (with_reducible exact Below.refl _ _) | (with_reducible assumption) | (with_reducible refine below_alloc ?_ _) | (with_reducible refine below_drewN ?_ _) | (with_reducible refine Below.drew ?_) | (with_reducible refine below_then ?_ (by with_reducible assumption)) | (with_reducible refine Below.setCell ?_ (by go_size) _)))); obtain ⟨hcB, hfB⟩ := bcell hB; (try have z0 : w.heap.size < w1.heap.size := by omega); (try have z1 : w.heap.size + 1 < w1.heap.size := by omega); (try have z2 : w.heap.size + 2 < w1.heap.size := by omega); (try have z3 : w.heap.size + 3 < w1.heap.size := by omega))
    go_wp2_with fail
    go_returns
    exact ⟨_, rfl, World.ownsRow_nil _ _ _ _, by (repeat (first | (with_reducible exact Below.refl _ _) | (with_reducible assumption) | (with_reducible refine below_alloc ?_ _) | (with_reducible refine below_drewN ?_ _) | (with_reducible refine Below.drew ?_) | (with_reducible refine below_then ?_ (by with_reducible assumption)) | (with_reducible refine Below.setCell ?_ (by go_size) _)))⟩
end

section
theorem Bx.can_may {d : V3} {b : Bx} (hb : b.may d) : (b.can d).may d := by
  unfold Bx.may at *
  obtain ⟨⟨h1, h2⟩, ⟨h3, h4⟩, h5, h6⟩ := hb
  refine ⟨⟨h1, ?_⟩, ⟨h3, ?_⟩, h5, ?_⟩
  · simp only [Bx.can]; cases b.s.x == d.x <;> simp <;> omega
  · simp only [Bx.can]; cases b.s.y == d.y <;> simp <;> omega
  · simp only [Bx.can]; cases b.s.z == d.z <;> simp <;> omega
theorem Bx.can_can (d : V3) (b : Bx) : (b.can d).can d = b.can d := by
  simp only [Bx.can]
  cases b.s.x == d.x <;> cases b.s.y == d.y <;> cases b.s.z == d.z <;> rfl
theorem run_whole {b n p : Int} (h1 : 0 ≤ b) (h2 : b < n) (h5 : 0 ≤ p) (h6 : p < n) : stepsOn b p n < n := by
  unfold stepsOn; exact Int.emod_lt_of_pos _ (by omega)
theorem can_run {b s n p : Int} (h1 : 0 ≤ b) (h2 : b < n) (h5 : 0 ≤ p) (h6 : p < n) : stepsOn (bif s == n then 0 else b) p n < s ↔ stepsOn b p n < s := by
  cases e : s == n with
  | false => rfl
  | true =>
    obtain rfl : s = n := by simpa using e
    exact ⟨fun _ => run_whole h1 h2 h5 h6, fun _ => run_whole (by simp) (by simp; omega) h5 h6⟩
theorem Bx.can_hasP {d p : V3} {b : Bx} (hb : b.may d) (hp : d.inside p) : (b.can d).hasP d p ↔ b.hasP d p := by
  unfold Bx.may at hb
  obtain ⟨i1, i2, i3⟩ := hp
  unfold Bx.hasP
  simp only [Bx.can]
  rw [can_run (by omega) (by omega) i1.1 i1.2, can_run (by omega) (by omega) i2.1 i2.2, can_run (by omega) (by omega) i3.1 i3.2]
theorem Bx.mem_all_iff {d : V3} {b : Bx} (hd : d.may) (hb : b.may d) {m : Int} : m ∈ b.all d ↔ (0 ≤ m ∧ m < d.n) ∧ b.hasP d (d.pos m) := by
  rw [Bx.mem_all]
  constructor
  · rintro ⟨h, hh⟩; exact ⟨h, (Bx.has_iff hd hb h.1 h.2).1 hh⟩
  · rintro ⟨h, hh⟩; exact ⟨h, (Bx.has_iff hd hb h.1 h.2).2 hh⟩
theorem Bx.can_all {d : V3} {b : Bx} (hd : d.may) (hb : b.may d) : (b.can d).all d = b.all d := by
  refine rise_ext (Bx.all_rise _ _) (Bx.all_rise _ _) (fun m => ?_)
  rw [Bx.mem_all_iff hd (Bx.can_may hb), Bx.mem_all_iff hd hb]
  constructor
  · rintro ⟨h, hh⟩; exact ⟨h, (Bx.can_hasP hb (V3.pos_inside hd h.1 h.2)).1 hh⟩
  · rintro ⟨h, hh⟩; exact ⟨h, (Bx.can_hasP hb (V3.pos_inside hd h.1 h.2)).2 hh⟩

def wrapTo (x n : Int) : Int := if x < n then x else x - n
theorem wrapTo_in {x n : Int} (h0 : 0 ≤ x) (h1 : x < 2 * n) : 0 ≤ wrapTo x n ∧ wrapTo x n < n := by unfold wrapTo; split <;> omega
theorem steps_wrap {a k n : Int} (ha : 0 ≤ a ∧ a < n) (hk : 0 ≤ k ∧ k < n) : stepsOn a (wrapTo (a + k) n) n = k := by
  have h := wrapTo_in (x := a + k) (n := n) (by omega) (by omega)
  rw [stepsOn_eq ha.1 ha.2 h.1 h.2]
  unfold wrapTo
  split <;> split <;> omega
theorem steps_prev {a b n : Int} (ha : 0 ≤ a ∧ a < n) (hb : 0 ≤ b ∧ b < n) (h0 : a ≠ b) : stepsOn b (wrapTo (a + (n - 1)) n) n = stepsOn b a n - 1 := by
  have h := wrapTo_in (x := a + (n - 1)) (n := n) (by omega) (by omega)
  rw [stepsOn_eq hb.1 hb.2 h.1 h.2, stepsOn_eq hb.1 hb.2 ha.1 ha.2]
  unfold wrapTo
  split <;> split <;> split <;> omega
theorem run_same {a b s u n : Int} (ha : 0 ≤ a ∧ a < n) (hb : 0 ≤ b ∧ b < n) (hs : 1 ≤ s ∧ s ≤ n) (hu : 1 ≤ u ∧ u ≤ n) (h : ∀ t, 0 ≤ t → t < n → (stepsOn a t n < s ↔ stepsOn b t n < u)) : s = u ∧ (s = n ∨ a = b) := by
  have at' : ∀ x k, 0 ≤ x → x < n → 0 ≤ k → k < n → (stepsOn a (wrapTo (x + k) n) n < s ↔ stepsOn b (wrapTo (x + k) n) n < u) := fun x k h1 h2 h3 h4 => by
    have := wrapTo_in (x := x + k) (n := n) (by omega) (by omega)
    exact h _ this.1 this.2
  have hor : s = n ∨ a = b := by
    by_cases e : a = b
    · exact .inr e
    · left
      have k1 := at' a 0 ha.1 ha.2 (Int.le_refl _) (by omega)
      rw [steps_wrap ha ⟨Int.le_refl _, by omega⟩, show wrapTo (a + 0) n = a by unfold wrapTo; rw [if_pos (by omega)]; omega] at k1
      have k2 := at' a (n - 1) ha.1 ha.2 (by omega) (by omega)
      rw [steps_wrap ha ⟨by omega, by omega⟩, steps_prev ha hb e] at k2
      have : stepsOn b a n < u := k1.1 (by omega)
      have : n - 1 < s := k2.2 (by omega)
      omega
  refine ⟨?_, hor⟩
  rcases hor with e | e
  · have k3 := at' b (n - 1) hb.1 hb.2 (by omega) (by omega)
    rw [steps_wrap hb ⟨by omega, by omega⟩] at k3
    have h3 := wrapTo_in (x := b + (n - 1)) (n := n) (by omega) (by omega)
    have := k3.1 (by rw [e]; exact run_whole ha.1 ha.2 h3.1 h3.2)
    omega
  · subst e
    have k3 := at' a (s - 1) ha.1 ha.2 (by omega) (by omega)
    rw [steps_wrap ha ⟨by omega, by omega⟩] at k3
    have k4 := at' a (u - 1) ha.1 ha.2 (by omega) (by omega)
    rw [steps_wrap ha ⟨by omega, by omega⟩] at k4
    have : s - 1 < u := k3.1 (by omega)
    have : u - 1 < s := k4.2 (by omega)
    omega

theorem V3.inside_mk {d : V3} {x y z : Int} (h1 : 0 ≤ x ∧ x < d.x) (h2 : 0 ≤ y ∧ y < d.y) (h3 : 0 ≤ z ∧ z < d.z) : d.inside ⟨x, y, z⟩ := ⟨h1, h2, h3⟩
theorem Bx.same_iff {d : V3} {a b : Bx} (hd : d.may) (ha : a.may d) (hb : b.may d) : a.all d = b.all d ↔ a.can d = b.can d := by
  constructor
  · intro h
    have hq : ∀ p, d.inside p → (a.hasP d p ↔ b.hasP d p) := by
      intro p hp
      have hn := V3.num_lt hd hp
      have h1 := Bx.mem_all_iff hd ha (m := d.num p)
      have h2 := Bx.mem_all_iff hd hb (m := d.num p)
      rw [V3.pos_num hd hp] at h1 h2
      rw [h] at h1
      constructor
      · intro hh; exact (h2.1 (h1.2 ⟨hn, hh⟩)).2
      · intro hh; exact (h1.1 (h2.2 ⟨hn, hh⟩)).2
    have ha' := ha
    have hb' := hb
    unfold Bx.may at ha' hb'
    have z0 : ∀ x n : Int, 0 ≤ x → x < n → stepsOn x x n = 0 := fun x n h1 h2 => by rw [stepsOn_eq h1 h2 h1 h2, if_pos (Int.le_refl _)]; omega
    have hbase : b.hasP d a.b := (hq a.b ⟨⟨by omega, by omega⟩, ⟨by omega, by omega⟩, by omega, by omega⟩).1 ⟨by rw [z0 _ _ (by omega) (by omega)]; omega, by rw [z0 _ _ (by omega) (by omega)]; omega, by rw [z0 _ _ (by omega) (by omega)]; omega⟩
    obtain ⟨g1, g2, g3⟩ := hbase
    have y0 : stepsOn a.b.x a.b.x d.x < a.s.x := by rw [z0 _ _ (by omega) (by omega)]; omega
    have y1 : stepsOn a.b.y a.b.y d.y < a.s.y := by rw [z0 _ _ (by omega) (by omega)]; omega
    have y2 : stepsOn a.b.z a.b.z d.z < a.s.z := by rw [z0 _ _ (by omega) (by omega)]; omega
    have rx := run_same (a := a.b.x) (b := b.b.x) (s := a.s.x) (u := b.s.x) (n := d.x) (by omega) (by omega) (by omega) (by omega) (fun t h1 h2 => by
      have := hq ⟨t, a.b.y, a.b.z⟩ (V3.inside_mk ⟨h1, h2⟩ (by omega) (by omega))
      unfold Bx.hasP at this
      exact ⟨fun h => (this.1 ⟨h, y1, y2⟩).1, fun h => (this.2 ⟨h, g2, g3⟩).1⟩)
    have ry := run_same (a := a.b.y) (b := b.b.y) (s := a.s.y) (u := b.s.y) (n := d.y) (by omega) (by omega) (by omega) (by omega) (fun t h1 h2 => by
      have := hq ⟨a.b.x, t, a.b.z⟩ (V3.inside_mk (by omega) ⟨h1, h2⟩ (by omega))
      unfold Bx.hasP at this
      exact ⟨fun h => (this.1 ⟨y0, h, y2⟩).2.1, fun h => (this.2 ⟨g1, h, g3⟩).2.1⟩)
    have rz := run_same (a := a.b.z) (b := b.b.z) (s := a.s.z) (u := b.s.z) (n := d.z) (by omega) (by omega) (by omega) (by omega) (fun t h1 h2 => by
      have := hq ⟨a.b.x, a.b.y, t⟩ (V3.inside_mk (by omega) (by omega) ⟨h1, h2⟩)
      unfold Bx.hasP at this
      exact ⟨fun h => (this.1 ⟨y0, y1, h⟩).2.2, fun h => (this.2 ⟨g1, g2, h⟩).2.2⟩)
    obtain ⟨⟨ax, ay, az⟩, ⟨sx, sy, sz⟩⟩ := a
    obtain ⟨⟨bx, by', bz⟩, ⟨ux, uy, uz⟩⟩ := b
    simp only at rx ry rz
    obtain ⟨rfl, rx⟩ := rx
    obtain ⟨rfl, ry⟩ := ry
    obtain ⟨rfl, rz⟩ := rz
    have e1 : (bif sx == d.x then 0 else ax) = (bif sx == d.x then 0 else bx) := by rcases rx with e | e <;> simp [e]
    have e2 : (bif sy == d.y then 0 else ay) = (bif sy == d.y then 0 else by') := by rcases ry with e | e <;> simp [e]
    have e3 : (bif sz == d.z then 0 else az) = (bif sz == d.z then 0 else bz) := by rcases rz with e | e <;> simp [e]
    simp only [Bx.can, e1, e2, e3]
  · intro h
    rw [← Bx.can_all hd ha, ← Bx.can_all hd hb, h]
end
end Go.Proofs.YtofoenlhbmammaaGreat
