/- LAW 03: the chapter's first examples stand. -/
import Derived.Test.YtilibdhcahdndaaDoorSetVals
namespace Go.Proofs.YtilibdhcahdndaaDoor
open Go.RowKit Go.Shelf

theorem rd_new (w : World) (cs : Array Value) (t : TypeId) : Rd (w.alloc (.cells cs t)) (some ⟨w.heap.size, 0, none⟩) cs.toList := by
  intro i v hv
  refine ⟨w.heap.size, 0, rfl, ?_⟩
  rw [World.cell?_alloc_new, Nat.zero_add]
  simpa using hv
theorem lin_new (w : World) (l : List Int) (t : TypeId) (hl : l.length ≤ 1000) : LIn (w.alloc (.cells (l.map (Value.int .i64)).toArray t)) (some ⟨w.heap.size, 0, none⟩) l :=
  ⟨by have := rd_new w (l.map (Value.int .i64)).toArray t; simpa using this, by omega⟩
theorem sin_new (w : World) (l : List Nat) (t : TypeId) (hl : l.length ≤ 1000) (hf : W64 l) : SetIn (w.alloc (.cells (wcells l).toArray t)) (some ⟨w.heap.size, 0, none⟩) l :=
  ⟨by have := rd_new w (wcells l).toArray t; simpa using this, by omega, hf⟩

theorem exOf : ofErr 70 [3, 69, 3] = 0 ∧ ofSet 70 [3, 69, 3] = [8, 32] := by decide +kernel
theorem exList : sChk 70 [8, 32] = 0 ∧ listV 70 [8, 32] = [3, 69] := by decide +kernel
theorem exFit : W64 [8, 32] := by intro x hx; simp at hx; omega

set_option maxRecDepth 100000 in set_option maxHeartbeats 4000000 in
theorem law03_alive (w : World) (hT : TabAt 0 Lib.deBruijn64tab w) (hg : 0 < w.heap.size) :
    Calls Tryd.prog 8 #[] w (RB w (.bool true)) := by
  have H1 := Lib.hid (fun (W : World) (b : Option Addr) (h : LIn W b [3, 69, 3]) => (show Calls Tryd.prog 10 #[.int .i64 70, .slice b 3 3] W (RUE W [8, 32] 0) from by
    have := set_Of 70 b 3 [3, 69, 3] W h
    rw [exOf.1, exOf.2] at this
    exact this))
  have H2 := Lib.hid (fun (W : World) (b : Option Addr) (c : Nat) (h : SetIn W b [8, 32]) ht hg => (show Calls Tryd.prog 9 #[.int .i64 70, .slice b 2 c] W (RIE W [3, 69] 0) from by
    have := set_List 70 b c [8, 32] W h ht hg
    rw [exList.1, exList.2] at this
    exact this))
  have HT := Lib.hid hT
  clear hT
  go_enter Tryd.func8, Tryd.ntmps8
  go_wp2_with fail
  have hb0 : Below w.heap.size w (w.alloc (.cells #[.int .i64 3, .int .i64 69, .int .i64 3] 3)) := below_alloc (Below.refl _ _) _
  refine (H1.out _ _ (lin_new w [3, 69, 3] 3 (by decide))).mono ?_
  rintro e w1 ⟨v1, rfl, q1, hb1⟩
  obtain ⟨b1, k1, rfl, s1, _⟩ := set_of_own q1 (by decide) exFit
  have HF := Lib.hid (below_then hb0 hb1)
  clear hb0 hb1 q1
  go_wp2_with fail
  refine (H2.out _ b1 k1 s1 (tab_keep HT.out hg HF.out) (Nat.lt_of_lt_of_le hg HF.out.size)).mono ?_
  rintro e w2 ⟨v2, rfl, q2, hb1⟩
  obtain ⟨b2, k2, rfl, s2, _⟩ := list_of_own q2 (by decide)
  have HF := Lib.hid (below_then HF.out hb1)
  have S1 := Lib.hid (s1.keep hb1)
  have S2 := Lib.hid s2
  clear hb1 q2 s1 s2
  go_wp2_with fail
  have hb0 := below_alloc (Below.refl w2.heap.size w2) (.cells (wcells [8, 32]).toArray 37)
  refine (Calls.rb_eq (ref03_Same b1 _ k1 2 [8, 32] [8, 32] _ (S1.out.keep hb0) (sin_new w2 [8, 32] 37 (by decide) exFit)) (show Value.bool (decide ([8, 32] = [8, 32])) = .bool true by simp)).mono ?_
  rintro e w3 ⟨rfl, hb1⟩
  have HF := Lib.hid (below_then HF.out (below_then hb0 hb1))
  have S2 := Lib.hid (S2.out.keep (below_then hb0 hb1))
  clear hb0 hb1
  go_wp2_with fail
  have hb0 := below_alloc (Below.refl w3.heap.size w3) (.cells (([3, 69] : List Int).map (Value.int .i64)).toArray 3)
  refine (Calls.rb_eq (ref02_Ints b2 _ k2 2 [3, 69] [3, 69] _ (S2.out.keep hb0) (lin_new w3 [3, 69] 3 (by decide))) (show Value.bool (decide ([3, 69] = [3, 69])) = .bool true by simp)).mono ?_
  rintro e w4 ⟨rfl, hb1⟩
  have HF := Lib.hid (below_then HF.out (below_then hb0 hb1))
  go_wp2_with fail
  go_returns
  exact ⟨rfl, HF.out⟩
end Go.Proofs.YtilibdhcahdndaaDoor
