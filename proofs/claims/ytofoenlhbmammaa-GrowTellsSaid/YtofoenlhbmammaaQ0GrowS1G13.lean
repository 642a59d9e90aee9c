/- GROW: the steps by which a box grows: the code's. -/
import Derived.Test.YtofoenlhbmammaaQ0GrowAG13
set_option linter.unusedVariables false
set_option linter.unusedSimpArgs false
namespace Go.Proofs.Ytofoenlhbmammaa

section
open Go.RowKit Go.Shelf

set_option maxRecDepth 100000 in set_option maxHeartbeats 4000000 in
theorem grow_step1_0 (d : V3) (b : Bx) (back : Int) (A D K : Nat) (w : World) (n u v : Int) (hn : n = d.x) (hu : u = b.s.x + 1) (hv : v = (b.b.x + d.x - back) % d.x) (h1 : 1 ≤ d.x ∧ d.x ≤ 16) (h2 : 0 ≤ b.b.x ∧ b.b.x < d.x) (h3 : 1 ≤ b.s.x ∧ b.s.x ≤ d.x) (h4 : 0 ≤ back ∧ back ≤ 1)
    (hA : Blk w A 3 #[.int .i64 0]) (hD : Blk w D 23 #[.int .i64 d.x, .int .i64 d.y, .int .i64 d.z]) (hK : Blk w K 3 #[.int .i64 back]) :
    Calls Try.prog 70 #[.agg #[.int .i64 b.b.x, .int .i64 b.b.y, .int .i64 b.b.z, .int .i64 b.s.x, .int .i64 b.s.y, .int .i64 b.s.z], .pointer (some ⟨A, 0, none⟩), .pointer (some ⟨D, 0, none⟩), .pointer (some ⟨K, 0, none⟩)] w (RB w (.agg #[.int .i64 v, .int .i64 b.b.y, .int .i64 b.b.z, .int .i64 u, .int .i64 b.s.y, .int .i64 b.s.z])) := by
  have a0 := hA.cell 0 _ rfl
  have d0 := hD.cell 0 _ rfl
  have k0 := hK.cell 0 _ rfl
  have al := hA.lt
  have dl := hD.lt
  have kl := hK.lt
  have e1 : IntKind.i64.wrap (b.s.x + 1) = u := by rw [hu]; exact IntWalk.i64_in _ (by omega)
  have e2 : IntKind.i64.wrap (b.b.x + d.x) = b.b.x + d.x := IntWalk.i64_in _ (by omega)
  have e3 : IntKind.i64.wrap (b.b.x + d.x - back) = b.b.x + d.x - back := IntWalk.i64_in _ (by omega)
  have e4 : (b.b.x + d.x - back).tmod d.x = v := by rw [hv]; exact Int.tmod_eq_emod_of_nonneg (by omega)
  have r0 := Int.emod_nonneg (b.b.x + d.x - back) (b := d.x) (by omega)
  have r1 := Int.emod_lt_of_pos (b.b.x + d.x - back) (b := d.x) (by omega)
  rw [← hv] at r0 r1
  have e5 : IntKind.i64.wrap v = v := IntWalk.i64_in _ (by omega)
  have e6 : ¬ d.x = 0 := by omega
  have e7 : wrap64 (b.s.x + 1) = u := (IntWalk.i64_left _).symm.trans e1
  clear hA hD hK hn hu hv h4
  go_enter Try.func70, Try.ntmps70
  go_wp2_with fail
  go_region
  all_goals
    go_wp2_with fail
    have hR := (Blk.new (w.alloc (.cells #[.int .i64 v, .int .i64 b.b.y, .int .i64 b.b.z, .int .i64 u, .int .i64 b.s.y, .int .i64 b.s.z] 27)) 27 #[.int .i64 v, .int .i64 b.b.y, .int .i64 b.b.z, .int .i64 u, .int .i64 b.s.y, .int .i64 b.s.z])
    simp only [World.size_alloc] at hR
    have r0 := hR.drew.cell 0 _ rfl
    have r1 := hR.drew.cell 1 _ rfl
    have r2 := hR.drew.cell 2 _ rfl
    have r3 := hR.drew.cell 3 _ rfl
    have r4 := hR.drew.cell 4 _ rfl
    have r5 := hR.drew.cell 5 _ rfl
    refine bodyPost_ret (by simp [results, Try.results70, go_sem, r0, r1, r2, r3, r4, r5]; try rfl) rfl ?_
    exact ⟨rfl, by (repeat (first | (with_reducible exact Below.refl _ _) | (with_reducible assumption) | (with_reducible refine below_alloc ?_ _) | (with_reducible refine below_drewN ?_ _) | (with_reducible refine Below.drew ?_) | (with_reducible refine below_then ?_ (by with_reducible assumption)) | (with_reducible refine Below.setCell ?_ (by go_size) _)))⟩

set_option maxRecDepth 100000 in set_option maxHeartbeats 4000000 in
theorem grow_step1_1 (d : V3) (b : Bx) (back : Int) (A D K : Nat) (w : World) (n u v : Int) (hn : n = d.y) (hu : u = b.s.y + 1) (hv : v = (b.b.y + d.y - back) % d.y) (h1 : 1 ≤ d.y ∧ d.y ≤ 16) (h2 : 0 ≤ b.b.y ∧ b.b.y < d.y) (h3 : 1 ≤ b.s.y ∧ b.s.y ≤ d.y) (h4 : 0 ≤ back ∧ back ≤ 1)
    (hA : Blk w A 3 #[.int .i64 1]) (hD : Blk w D 23 #[.int .i64 d.x, .int .i64 d.y, .int .i64 d.z]) (hK : Blk w K 3 #[.int .i64 back]) :
    Calls Try.prog 70 #[.agg #[.int .i64 b.b.x, .int .i64 b.b.y, .int .i64 b.b.z, .int .i64 b.s.x, .int .i64 b.s.y, .int .i64 b.s.z], .pointer (some ⟨A, 0, none⟩), .pointer (some ⟨D, 0, none⟩), .pointer (some ⟨K, 0, none⟩)] w (RB w (.agg #[.int .i64 b.b.x, .int .i64 v, .int .i64 b.b.z, .int .i64 b.s.x, .int .i64 u, .int .i64 b.s.z])) := by
  have a0 := hA.cell 0 _ rfl
  have d0 := hD.cell 1 _ rfl
  have k0 := hK.cell 0 _ rfl
  have al := hA.lt
  have dl := hD.lt
  have kl := hK.lt
  have e1 : IntKind.i64.wrap (b.s.y + 1) = u := by rw [hu]; exact IntWalk.i64_in _ (by omega)
  have e2 : IntKind.i64.wrap (b.b.y + d.y) = b.b.y + d.y := IntWalk.i64_in _ (by omega)
  have e3 : IntKind.i64.wrap (b.b.y + d.y - back) = b.b.y + d.y - back := IntWalk.i64_in _ (by omega)
  have e4 : (b.b.y + d.y - back).tmod d.y = v := by rw [hv]; exact Int.tmod_eq_emod_of_nonneg (by omega)
  have r0 := Int.emod_nonneg (b.b.y + d.y - back) (b := d.y) (by omega)
  have r1 := Int.emod_lt_of_pos (b.b.y + d.y - back) (b := d.y) (by omega)
  rw [← hv] at r0 r1
  have e5 : IntKind.i64.wrap v = v := IntWalk.i64_in _ (by omega)
  have e6 : ¬ d.y = 0 := by omega
  have e7 : wrap64 (b.s.y + 1) = u := (IntWalk.i64_left _).symm.trans e1
  clear hA hD hK hn hu hv h4
  go_enter Try.func70, Try.ntmps70
  go_wp2_with fail
  go_region
  all_goals
    go_wp2_with fail
    have hR := (Blk.new (w.alloc (.cells #[.int .i64 b.b.x, .int .i64 v, .int .i64 b.b.z, .int .i64 b.s.x, .int .i64 u, .int .i64 b.s.z] 27)) 27 #[.int .i64 b.b.x, .int .i64 v, .int .i64 b.b.z, .int .i64 b.s.x, .int .i64 u, .int .i64 b.s.z])
    simp only [World.size_alloc] at hR
    have r0 := hR.drew.cell 0 _ rfl
    have r1 := hR.drew.cell 1 _ rfl
    have r2 := hR.drew.cell 2 _ rfl
    have r3 := hR.drew.cell 3 _ rfl
    have r4 := hR.drew.cell 4 _ rfl
    have r5 := hR.drew.cell 5 _ rfl
    refine bodyPost_ret (by simp [results, Try.results70, go_sem, r0, r1, r2, r3, r4, r5]; try rfl) rfl ?_
    exact ⟨rfl, by (repeat (first | (with_reducible exact Below.refl _ _) | (with_reducible assumption) | (with_reducible refine below_alloc ?_ _) | (with_reducible refine below_drewN ?_ _) | (with_reducible refine Below.drew ?_) | (with_reducible refine below_then ?_ (by with_reducible assumption)) | (with_reducible refine Below.setCell ?_ (by go_size) _)))⟩

set_option maxRecDepth 100000 in set_option maxHeartbeats 4000000 in
theorem grow_step1_2 (d : V3) (b : Bx) (back : Int) (A D K : Nat) (w : World) (n u v : Int) (hn : n = d.z) (hu : u = b.s.z + 1) (hv : v = (b.b.z + d.z - back) % d.z) (h1 : 1 ≤ d.z ∧ d.z ≤ 16) (h2 : 0 ≤ b.b.z ∧ b.b.z < d.z) (h3 : 1 ≤ b.s.z ∧ b.s.z ≤ d.z) (h4 : 0 ≤ back ∧ back ≤ 1)
    (hA : Blk w A 3 #[.int .i64 2]) (hD : Blk w D 23 #[.int .i64 d.x, .int .i64 d.y, .int .i64 d.z]) (hK : Blk w K 3 #[.int .i64 back]) :
    Calls Try.prog 70 #[.agg #[.int .i64 b.b.x, .int .i64 b.b.y, .int .i64 b.b.z, .int .i64 b.s.x, .int .i64 b.s.y, .int .i64 b.s.z], .pointer (some ⟨A, 0, none⟩), .pointer (some ⟨D, 0, none⟩), .pointer (some ⟨K, 0, none⟩)] w (RB w (.agg #[.int .i64 b.b.x, .int .i64 b.b.y, .int .i64 v, .int .i64 b.s.x, .int .i64 b.s.y, .int .i64 u])) := by
  have a0 := hA.cell 0 _ rfl
  have d0 := hD.cell 2 _ rfl
  have k0 := hK.cell 0 _ rfl
  have al := hA.lt
  have dl := hD.lt
  have kl := hK.lt
  have e1 : IntKind.i64.wrap (b.s.z + 1) = u := by rw [hu]; exact IntWalk.i64_in _ (by omega)
  have e2 : IntKind.i64.wrap (b.b.z + d.z) = b.b.z + d.z := IntWalk.i64_in _ (by omega)
  have e3 : IntKind.i64.wrap (b.b.z + d.z - back) = b.b.z + d.z - back := IntWalk.i64_in _ (by omega)
  have e4 : (b.b.z + d.z - back).tmod d.z = v := by rw [hv]; exact Int.tmod_eq_emod_of_nonneg (by omega)
  have r0 := Int.emod_nonneg (b.b.z + d.z - back) (b := d.z) (by omega)
  have r1 := Int.emod_lt_of_pos (b.b.z + d.z - back) (b := d.z) (by omega)
  rw [← hv] at r0 r1
  have e5 : IntKind.i64.wrap v = v := IntWalk.i64_in _ (by omega)
  have e6 : ¬ d.z = 0 := by omega
  have e7 : wrap64 (b.s.z + 1) = u := (IntWalk.i64_left _).symm.trans e1
  clear hA hD hK hn hu hv h4
  go_enter Try.func70, Try.ntmps70
  go_wp2_with fail
  go_region
  all_goals
    go_wp2_with fail
    have hR := (Blk.new (w.alloc (.cells #[.int .i64 b.b.x, .int .i64 b.b.y, .int .i64 v, .int .i64 b.s.x, .int .i64 b.s.y, .int .i64 u] 27)) 27 #[.int .i64 b.b.x, .int .i64 b.b.y, .int .i64 v, .int .i64 b.s.x, .int .i64 b.s.y, .int .i64 u])
    simp only [World.size_alloc] at hR
    have r0 := hR.drew.cell 0 _ rfl
    have r1 := hR.drew.cell 1 _ rfl
    have r2 := hR.drew.cell 2 _ rfl
    have r3 := hR.drew.cell 3 _ rfl
    have r4 := hR.drew.cell 4 _ rfl
    have r5 := hR.drew.cell 5 _ rfl
    refine bodyPost_ret (by simp [results, Try.results70, go_sem, r0, r1, r2, r3, r4, r5]; try rfl) rfl ?_
    exact ⟨rfl, by (repeat (first | (with_reducible exact Below.refl _ _) | (with_reducible assumption) | (with_reducible refine below_alloc ?_ _) | (with_reducible refine below_drewN ?_ _) | (with_reducible refine Below.drew ?_) | (with_reducible refine below_then ?_ (by with_reducible assumption)) | (with_reducible refine Below.setCell ?_ (by go_size) _)))⟩

/-- One step of the code's: its closure reads the axis, the dimensions, and how far back. -/
theorem grow_step (d : V3) (b : Bx) (k : Nat) (back : Int) (A D K : Nat) (w : World) (hd : d.may) (hb : b.may d) (hk : k < 3) (h4 : back = 0 ∨ back = 1)
    (hA : Blk w A 3 #[.int .i64 k]) (hD : Blk w D 23 #[.int .i64 d.x, .int .i64 d.y, .int .i64 d.z]) (hK : Blk w K 3 #[.int .i64 back]) :
    Calls Try.prog 70 #[.agg #[.int .i64 b.b.x, .int .i64 b.b.y, .int .i64 b.b.z, .int .i64 b.s.x, .int .i64 b.s.y, .int .i64 b.s.z], .pointer (some ⟨A, 0, none⟩), .pointer (some ⟨D, 0, none⟩), .pointer (some ⟨K, 0, none⟩)] w (RB w (.agg #[.int .i64 (b.stepG d k back).b.x, .int .i64 (b.stepG d k back).b.y, .int .i64 (b.stepG d k back).b.z, .int .i64 (b.stepG d k back).s.x, .int .i64 (b.stepG d k back).s.y, .int .i64 (b.stepG d k back).s.z])) := by
  obtain ⟨⟨sx, bx⟩, ⟨sy, by'⟩, ⟨sz, bz⟩⟩ := hb
  obtain ⟨hx, hy, hz⟩ := hd
  have h5 : 0 ≤ back ∧ back ≤ 1 := by rcases h4 with rfl | rfl <;> decide
  match k, hk with
  | 0, _ => exact grow_step1_0 d b back A D K w _ _ _ rfl rfl rfl hx bx sx h5 hA hD hK
  | 1, _ => exact grow_step1_1 d b back A D K w _ _ _ rfl rfl rfl hy by' sy h5 hA hD hK
  | 2, _ => exact grow_step1_2 d b back A D K w _ _ _ rfl rfl rfl hz bz sz h5 hA hD hK
end
end Go.Proofs.Ytofoenlhbmammaa
