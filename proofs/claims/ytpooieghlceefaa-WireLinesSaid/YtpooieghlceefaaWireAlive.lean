/- WIRES: the chapter's dimensions; its first examples. -/
import Derived.Test.YtpooieghlceefaaWire4
import Derived.Test.YtpooieghlceefaaRow
namespace Go.Proofs.Ytpooieghlceefaa
open Go.ChangeShapes Go.WideShapes Go.ChangeAt Go.RowKit Go.Shelf

set_option maxRecDepth 100000 in set_option maxHeartbeats 4000000 in
theorem law05_some (w : World) : Calls Try.prog 19 #[] w (RB w (.agg #[.int .i64 4, .int .i64 3, .int .i64 1])) := by
  go_enter Try.func19, Try.ntmps19
  go_wp2_with fail
  exact bodyPost_ret (v := .agg #[.int .i64 4, .int .i64 3, .int .i64 1]) (by simp [results, Try.f19, go_sem]) rfl ⟨rfl, by (repeat (first | (with_reducible exact Below.refl _ _) | (with_reducible assumption) | (with_reducible refine below_alloc ?_ _) | (with_reducible refine below_drewN ?_ _) | (with_reducible refine Below.drew ?_) | (with_reducible refine below_then ?_ (by with_reducible assumption)) | (with_reducible refine Below.setCell ?_ (by go_size) _)))⟩
def some5 : V3 := ⟨4, 3, 1⟩
set_option maxRecDepth 100000 in set_option maxHeartbeats 4000000 in
theorem law05_alive (w : World) : Calls Try.prog 11 #[] w (RB w (.bool true)) := by
  have HSo := Lib.hid (fun W => law05_some W)
  have p1 : some5.many = 12 := by decide +kernel
  have p2 : some5.err = 0 := by decide +kernel
  have p3 : some5.linkV 1 5 = 17 := by decide +kernel
  have p4 : some5.linkE 1 5 = 0 := by decide +kernel
  have p5 : some5.endA 3 = 0 := by decide +kernel
  have p6 : some5.endM 3 = 3 := by decide +kernel
  have p7 : some5.endT 3 = 0 := by decide +kernel
  have p8 : some5.endE 3 = 0 := by decide +kernel
  have K1 := Lib.hid (fun W => by have := wire_Many some5 W; rw [p1, p2] at this; exact this)
  have K2 := Lib.hid (fun W => by have := wire_Link some5 1 5 W; rw [p3, p4] at this; exact this)
  have K3 := Lib.hid (fun W => by have := wire_Ends some5 3 W; rw [p5, p6, p7, p8] at this; exact this)
  clear p1 p2 p3 p4 p5 p6 p7 p8
  have HB := Lib.hid (Below.refl w.heap.size w)
  go_enter Try.func11, Try.ntmps11
  go_wp2_with fail
  (refine (HSo.out _).mono ?_; rintro e w1 ⟨rfl, hb⟩; have HB := Lib.hid (below_then HB.out hb); clear hb; go_wp2_with fail)
  (refine (K1.out _).mono ?_; rintro e w1 ⟨rfl, hb⟩; have HB := Lib.hid (below_then HB.out hb); clear hb; go_wp2_with fail)
  (refine (HSo.out _).mono ?_; rintro e w1 ⟨rfl, hb⟩; have HB := Lib.hid (below_then HB.out hb); clear hb; go_wp2_with fail)
  (refine (K2.out _).mono ?_; rintro e w1 ⟨rfl, hb⟩; have HB := Lib.hid (below_then HB.out hb); clear hb; go_wp2_with fail)
  (refine (HSo.out _).mono ?_; rintro e w1 ⟨rfl, hb⟩; have HB := Lib.hid (below_then HB.out hb); clear hb; go_wp2_with fail)
  (refine (K3.out _).mono ?_; rintro e w1 ⟨rfl, hb⟩; have HB := Lib.hid (below_then HB.out hb); clear hb; go_wp2_with fail)
  go_returns
  exact ⟨rfl, HB.out⟩

end Go.Proofs.Ytpooieghlceefaa
