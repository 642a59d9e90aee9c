/- REF: some steps on. -/
import Derived.Test.YtpooieghlceefaaRef0
import Derived.Test.YtpooieghlceefaaWire3
import Derived.Deep.RegionWith
namespace Go.Proofs.Ytpooieghlceefaa
open Go.RowKit Go.Shelf

set_option maxRecDepth 100000 in set_option maxHeartbeats 4000000 in
theorem ref01_Round (n b : Int) (w : World) (hn : 0 ≤ n) (hn9 : n ≤ 100000) (hb : 1 ≤ b) (hb9 : b ≤ 100000) :
    Calls Try.prog 63 #[.int .i64 n, .int .i64 b] w fun e w' => e = .returned (.int .i64 (n % b)) ∧ w' = w := by
  have hz : b ≠ 0 := by omega
  have h1 : 0 ≤ n % b := Int.emod_nonneg _ hz
  have h2 : decide (n % b < 0) = false := decide_eq_false (by omega)
  have h3 : n % b < b := Int.emod_lt_of_pos _ (by omega)
  go_enter Try.func63, Try.ntmps63
  go_wp2_with fail
  go_returns
  exact ⟨rfl, rfl⟩
set_option maxRecDepth 100000 in set_option maxHeartbeats 4000000 in
theorem ref01_Number (d p : V3) (w : World) (hd : d.may) (hp : d.inside p) : Calls Try.prog 64 #[.agg #[.int .i64 d.x, .int .i64 d.y, .int .i64 d.z], .agg #[.int .i64 p.x, .int .i64 p.y, .int .i64 p.z]] w (RB w (.int .i64 (d.num p))) := by
  have hr := V3.num_lt hd hp
  have HE := Lib.hid (show d.num p = p.x + d.x * (p.y + d.y * p.z) by rfl)
  unfold V3.may at hd
  obtain ⟨hx, hy, hz⟩ := hp
  have e1 : 0 ≤ d.y * p.z := Int.mul_nonneg (by omega) (by omega)
  have e2 : d.y * p.z ≤ 16 * 16 := Int.mul_le_mul (by omega) (by omega) (by omega) (by omega)
  have e3 : 0 ≤ d.x * (p.y + d.y * p.z) := Int.mul_nonneg (by omega) (by omega)
  have e4 : d.x * (p.y + d.y * p.z) ≤ 16 * 300 := Int.mul_le_mul (by omega) (by omega) (by omega) (by omega)
  clear hr
  go_enter Try.func64, Try.ntmps64
  go_wp2_with fail
  go_returns
  exact ⟨by rw [HE.out]; rfl, by (repeat (first | (with_reducible exact Below.refl _ _) | (with_reducible assumption) | (with_reducible refine below_alloc ?_ _) | (with_reducible refine below_drewN ?_ _) | (with_reducible refine Below.drew ?_) | (with_reducible refine below_then ?_ (by with_reducible assumption)) | (with_reducible refine Below.setCell ?_ (by go_size) _)))⟩
end Go.Proofs.Ytpooieghlceefaa
