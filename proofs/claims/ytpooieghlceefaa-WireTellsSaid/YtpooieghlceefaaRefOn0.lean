/- REF: some steps on. -/
import Derived.Test.YtpooieghlceefaaRefNum
namespace Go.Proofs.Ytpooieghlceefaa
open Go.RowKit Go.Shelf
set_option maxRecDepth 100000 in set_option maxHeartbeats 4000000 in
theorem ref01_On0 (d p : V3) (m b r : Int) (w : World) (hn : 1 ≤ d.x ∧ d.x ≤ 16) (px : 0 ≤ p.x ∧ p.x < d.x) (hb : 0 ≤ b) (hb9 : b ≤ 1000)
    (HO : RowKit.Hid (∀ W, Calls Try.prog 62 #[.agg #[.int .i64 d.x, .int .i64 d.y, .int .i64 d.z], .int .i64 m] W (RB W (.agg #[.int .i64 p.x, .int .i64 p.y, .int .i64 p.z]))))
    (HA : RowKit.Hid (∀ W, Calls Try.prog 64 #[.agg #[.int .i64 d.x, .int .i64 d.y, .int .i64 d.z], .agg #[.int .i64 ((p.x + b) % d.x), .int .i64 p.y, .int .i64 p.z]] W (RB W (.int .i64 r)))) :
    Calls Try.prog 44 #[.agg #[.int .i64 d.x, .int .i64 d.y, .int .i64 d.z], .int .i64 m, .int .i64 0, .int .i64 b] w (RB w (.int .i64 r)) := by
  have h2 : 0 ≤ b % d.x ∧ b % d.x < d.x := ⟨Int.emod_nonneg _ (by omega), Int.emod_lt_of_pos _ (by omega)⟩
  have HR1 := Lib.hid (fun W => ref01_Round b d.x W hb (by omega) hn.1 (by omega))
  have HR2 := Lib.hid (fun W => by have := ref01_Round (p.x + b % d.x) d.x W (by omega) (by omega) hn.1 (by omega); rw [Int.add_emod_emod, ← IntWalk.i64_in (p.x + b % d.x) (by omega)] at this; exact this)
  go_enter Try.func44, Try.ntmps44
  go_wp2_with fail
  refine (HO.out _).mono ?_
  rintro e w1 ⟨rfl, hb1⟩
  have BD := Lib.hid (((Blk.new w 23 #[.int .i64 d.x, .int .i64 d.y, .int .i64 d.z]).below hb1).dims)
  have HB := Lib.hid (below_then (show Below w.heap.size w (w.alloc (.cells #[.int .i64 d.x, .int .i64 d.y, .int .i64 d.z] 23)) by (repeat (first | (with_reducible exact Below.refl _ _) | (with_reducible assumption) | (with_reducible refine below_alloc ?_ _) | (with_reducible refine below_drewN ?_ _) | (with_reducible refine Below.drew ?_) | (with_reducible refine below_then ?_ (by with_reducible assumption)) | (with_reducible refine Below.setCell ?_ (by go_size) _)))) hb1)
  have hlt := BD.out.lt
  obtain ⟨d0, d1, d2⟩ := BD.out
  clear hb1 HO BD
  go_wp2_with fail
  go_region_with (first | ((with_reducible refine (HR1.out _).mono ?_); rintro e w3 ⟨rfl, hw3⟩; have hw3 := hw3.symm; subst hw3) | ((with_reducible refine (HR2.out _).mono ?_); rintro e w3 ⟨rfl, hw3⟩; have hw3 := hw3.symm; subst hw3))
  all_goals
    go_wp2_with fail
    refine (HA.out _).mono ?_
    rintro e w2 ⟨rfl, hb2⟩
    have hBB := below_then (below_then HB.out (show Below w1.heap.size w1 _ by (repeat (first | (with_reducible exact Below.refl _ _) | (with_reducible assumption) | (with_reducible refine below_alloc ?_ _) | (with_reducible refine below_drewN ?_ _) | (with_reducible refine Below.drew ?_) | (with_reducible refine below_then ?_ (by with_reducible assumption)) | (with_reducible refine Below.setCell ?_ (by go_size) _))))) hb2
    go_wp2_with fail
    go_returns
    exact ⟨rfl, hBB⟩
end Go.Proofs.Ytpooieghlceefaa
