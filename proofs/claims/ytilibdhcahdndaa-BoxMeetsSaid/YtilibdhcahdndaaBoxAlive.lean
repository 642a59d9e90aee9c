/- LAW 02: the chapter's first examples stand. -/
import Derived.Test.YtilibdhcahdndaaBoxNodes
import Derived.Test.YtilibdhcahdndaaInts
namespace Go.Proofs.Ytilibdhcahdndaa
open Go.RowKit Go.Shelf

theorem rd_newB (w : World) (cs : Array Value) (t : TypeId) : Rd (w.alloc (.cells cs t)) (some ⟨w.heap.size, 0, none⟩) cs.toList := by
  intro i v hv
  refine ⟨w.heap.size, 0, rfl, ?_⟩
  rw [World.cell?_alloc_new, Nat.zero_add]
  simpa using hv
theorem lin_newB (w : World) (l : List Int) (t : TypeId) (hl : l.length ≤ 1000) : LIn (w.alloc (.cells (l.map (Value.int .i64)).toArray t)) (some ⟨w.heap.size, 0, none⟩) l :=
  ⟨by have := rd_newB w (l.map (Value.int .i64)).toArray t; simpa using this, by omega⟩

def exD : V3 := ⟨4, 3, 2⟩
def exA : Bx := ⟨⟨3, 0, 0⟩, ⟨2, 1, 1⟩⟩
set_option maxRecDepth 100000 in set_option maxHeartbeats 4000000 in
theorem law02_some (w : World) : Calls Try.prog 32 #[] w (RB w (.agg #[.int .i64 4, .int .i64 3, .int .i64 2])) := by
  go_enter Try.func32, Try.ntmps32
  go_wp2_with fail
  refine bodyPost_ret ?_ rfl ⟨rfl, ?_⟩
  · simp [results, Try.f32, go_sem]
  · (repeat (first | (with_reducible exact Below.refl _ _) | (with_reducible assumption) | (with_reducible refine below_alloc ?_ _) | (with_reducible refine below_drewN ?_ _) | (with_reducible refine Below.drew ?_) | (with_reducible refine below_then ?_ (by with_reducible assumption)) | (with_reducible refine Below.setCell ?_ (by go_size) _)))
set_option maxRecDepth 100000 in set_option maxHeartbeats 4000000 in
theorem law02_first (w : World) : Calls Try.prog 33 #[] w (RB w (.agg #[.int .i64 3, .int .i64 0, .int .i64 0, .int .i64 2, .int .i64 1, .int .i64 1])) := by
  go_enter Try.func33, Try.ntmps33
  go_wp2_with fail
  refine bodyPost_ret ?_ rfl ⟨rfl, ?_⟩
  · simp [results, Try.f33, go_sem]
  · (repeat (first | (with_reducible exact Below.refl _ _) | (with_reducible assumption) | (with_reducible refine below_alloc ?_ _) | (with_reducible refine below_drewN ?_ _) | (with_reducible refine Below.drew ?_) | (with_reducible refine below_then ?_ (by with_reducible assumption)) | (with_reducible refine Below.setCell ?_ (by go_size) _)))

theorem exNodes : nodesV exD exA = [0, 3] ∧ chk exD exA = 0 ∧ volV exD ⟨⟨0, 0, 0⟩, ⟨2, 3, 2⟩⟩ = 12 ∧ chk exD ⟨⟨0, 0, 0⟩, ⟨2, 3, 2⟩⟩ = 0 := by decide +kernel

set_option maxRecDepth 100000 in set_option maxHeartbeats 4000000 in
theorem law02_alive (w : World) : Calls Try.prog 25 #[] w (RB w (.bool true)) := by
  obtain ⟨e1, e2, e3, e4⟩ := exNodes
  have H1 := Lib.hid (fun W => by have := box_Nodes exD exA W; rw [e1, e2] at this; exact this)
  have H2 := Lib.hid (fun W => by have := box_Many exD ⟨⟨0, 0, 0⟩, ⟨2, 3, 2⟩⟩ W; rw [e3, e4] at this; exact this)
  simp only [exD, exA] at H1 H2
  clear e1 e2 e3 e4
  go_enter Try.func25, Try.ntmps25
  go_wp2_with fail
  refine (law02_some _).mono ?_
  rintro e w1 ⟨rfl, hb1⟩
  have HF := Lib.hid hb1
  clear hb1
  go_wp2_with fail
  refine (law02_first _).mono ?_
  rintro e w2 ⟨rfl, hb1⟩
  have HF := Lib.hid (below_then HF.out hb1)
  clear hb1
  go_wp2_with fail
  refine (H1.out _).mono ?_
  rintro e w3 ⟨v3, rfl, q3, hb1⟩
  obtain ⟨b3, k3, rfl, s3, _⟩ := list_of_own q3 (by decide)
  have HF := Lib.hid (below_then HF.out hb1)
  have L1 := Lib.hid s3
  clear hb1 q3 s3
  go_wp2_with fail
  refine (law02_some _).mono ?_
  rintro e w4 ⟨rfl, hb1⟩
  have HF := Lib.hid (below_then HF.out hb1)
  (have L1 := Lib.hid (L1.out.keep hb1))
  clear hb1
  go_wp2_with fail
  refine (H2.out _).mono ?_
  rintro e w5 ⟨rfl, hb1⟩
  have HF := Lib.hid (below_then HF.out hb1)
  (have L1 := Lib.hid (L1.out.keep hb1))
  clear hb1
  go_wp2_with fail
  have hb0 := below_alloc (Below.refl w5.heap.size w5) (.cells (([0, 3] : List Int).map (Value.int .i64)).toArray 3)
  refine (Calls.rb_eq (ref02_Ints b3 _ k3 2 [0, 3] [0, 3] _ (L1.out.keep hb0) (lin_newB w5 [0, 3] 3 (by decide))) (show Value.bool (decide ([0, 3] = [0, 3])) = .bool true by simp)).mono ?_
  rintro e w6 ⟨rfl, hb1⟩
  have HF := Lib.hid (below_then HF.out (below_then hb0 hb1))
  go_wp2_with fail
  go_returns
  exact ⟨rfl, HF.out⟩
end Go.Proofs.Ytilibdhcahdndaa
