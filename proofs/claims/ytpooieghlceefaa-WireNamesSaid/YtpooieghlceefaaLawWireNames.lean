/- WireNames: the error has its number, and the chapter's examples are so: the call returns true. -/
import Derived.Test.YtpooieghlceefaaWireAlive
import Derived.Test.YtpooieghlceefaaRun2
import Derived.Test.YtpooieghlceefaaInts
namespace Go.Proofs.Ytpooieghlceefaa
open Go.ChangeShapes Go.WideShapes Go.ChangeAt Go.RowKit Go.Shelf

/-- A list's slice, whole. -/
structure LS (W : World) (v : Value) (l : List Int) : Prop where
  ex : ∃ base cap, v = .slice base l.length cap ∧ LIn W base l
theorem LS.keep {w W : World} {v : Value} {l : List Int} (h : LS w v l) (hb : Below w.heap.size w W) : LS W v l := by
  obtain ⟨base, cap, e, h1⟩ := h.ex
  exact ⟨base, cap, e, h1.keep hb⟩
theorem ls_of_own {W : World} {B : Nat} {v : Value} {l : List Int} (h : W.ownsRow B 3 1 v l.length (ic l)) (hl : l.length ≤ 4611686018427387904) : LS W v l := by
  obtain ⟨base, cap, e, h1, _⟩ := list_of_own h hl
  exact ⟨base, cap, e, h1⟩
theorem s_Ints {w : World} {v u : Value} {a b : List Int} (h : LS w v a) (hd : LS w u b) : Calls Try.prog 17 #[v, u] w (RB w (.bool (decide (a = b)))) := by
  obtain ⟨base, cap, rfl, h1⟩ := h.ex
  obtain ⟨base', cap', rfl, h2⟩ := hd.ex
  exact ref02_Ints base base' cap cap' a b w h1 h2
theorem own_made1 {w : World} {cur : Array Value} {e : TypeId} {size n : Nat} {xs : List Value} (hx : cur.toList = xs) (hl : xs.length = n * size) (hn : n ≤ maxLen) :
    (w.alloc (.cells cur e)).ownsRow w.heap.size e size (.slice (some ⟨w.heap.size, 0, none⟩) n n) n xs :=
  ⟨hl, .inr ⟨w.heap.size, n, cur, rfl, Nat.le_refl _, heap_alloc_new w _, Nat.le_refl _, hn, by rw [← Array.length_toList, hx, hl], by rw [hx, List.take_of_length_le (by omega)]⟩⟩
theorem sorted_of_perm {a b : List Int} (h : a.Perm b) (hb : b.Pairwise (· ≤ ·)) : sorted a = b := by
  unfold sorted
  refine List.Perm.eq_of_pairwise (le := (· ≤ ·)) (fun x y _ _ h1 h2 => Int.le_antisymm h1 h2) ?_ hb ((List.mergeSort_perm a _).trans h)
  have := List.pairwise_mergeSort (le := fun x y : Int => decide (x ≤ y)) (fun a b c h1 h2 => by simp at *; omega) (fun a b => by simp; omega) a
  exact this.imp (by intro a b h; simpa using h)
set_option maxRecDepth 100000 in set_option maxHeartbeats 4000000 in
theorem law05_WireNames (w : World) : Calls Try.prog 5 #[] w (RB w (.bool true)) := by
  have HAl := Lib.hid (fun W => law05_alive W)
  have HSo := Lib.hid (fun W => law05_some W)
  have p1 : some5.linkE 2 5 = 6 := by decide +kernel
  have p2 : some5.endE 30 = 6 := by decide +kernel
  have p3 : some5.runE 0 3 2 = 0 := by decide +kernel
  have p4 : some5.runV 0 3 2 false = [3] := (if_pos (by decide +kernel)).trans (sorted_of_perm (by decide +kernel) (by decide))
  have p5 : some5.runV 0 3 2 true = [0, 1, 2, 3] := (if_pos (by decide +kernel)).trans (sorted_of_perm (by decide +kernel) (by decide))
  have p6 : some5.runE 0 3 1 = 0 := by decide +kernel
  have p7 : some5.runV 0 3 1 true = [] := if_neg (by decide +kernel)
  have K1 := Lib.hid (fun W => by have := wire_Link some5 2 5 W; rw [p1] at this; exact this)
  have K2 := Lib.hid (fun W => by have := wire_Ends some5 30 W; rw [p2] at this; exact this)
  have K3 := Lib.hid (fun W => by have := wire_Run some5 0 3 2 false W; rw [p3, p4] at this; exact this)
  have K4 := Lib.hid (fun W => by have := wire_Run some5 0 3 2 true W; rw [p3, p5] at this; exact this)
  have K5 := Lib.hid (fun W => by have := wire_Run some5 0 3 1 true W; rw [p6, p7] at this; exact this)
  have S0 := Lib.hid (fun (d : List Int) W v u (h : LS W v d) (h2 : LS W u d) => Calls.rb_eq (s_Ints h h2) (show Value.bool (decide _) = .bool true by rw [decide_eq_true rfl]))
  clear p1 p2 p3 p4 p5 p6 p7
  have HB := Lib.hid (Below.refl w.heap.size w)
  go_enter Try.func5, Try.ntmps5
  go_wp2_with fail
  (refine (HSo.out _).mono ?_; rintro e w1 ⟨rfl, hb⟩; (have HB := Lib.hid (below_then HB.out hb); (try have HA := Lib.hid (HA.out.keep hb)); (try have HD := Lib.hid (HD.out.keep hb))); clear hb; go_wp2_with fail)
  (refine (K1.out _).mono ?_; rintro e w1 ⟨rfl, hb⟩; (have HB := Lib.hid (below_then HB.out hb); (try have HA := Lib.hid (HA.out.keep hb)); (try have HD := Lib.hid (HD.out.keep hb))); clear hb; go_wp2_with fail)
  (refine (HSo.out _).mono ?_; rintro e w1 ⟨rfl, hb⟩; (have HB := Lib.hid (below_then HB.out hb); (try have HA := Lib.hid (HA.out.keep hb)); (try have HD := Lib.hid (HD.out.keep hb))); clear hb; go_wp2_with fail)
  (refine (K2.out _).mono ?_; rintro e w1 ⟨rfl, hb⟩; (have HB := Lib.hid (below_then HB.out hb); (try have HA := Lib.hid (HA.out.keep hb)); (try have HD := Lib.hid (HD.out.keep hb))); clear hb; go_wp2_with fail)
  (refine (HSo.out _).mono ?_; rintro e w1 ⟨rfl, hb⟩; (have HB := Lib.hid (below_then HB.out hb); (try have HA := Lib.hid (HA.out.keep hb)); (try have HD := Lib.hid (HD.out.keep hb))); clear hb; go_wp2_with fail)
  (refine (K3.out _).mono ?_; rintro e w1 ⟨v1, rfl, ho, hb⟩; (have HB := Lib.hid (below_then HB.out hb); (try have HA := Lib.hid (HA.out.keep hb)); (try have HD := Lib.hid (HD.out.keep hb))); have HA := Lib.hid (ls_of_own ho (by decide)); clear ho hb; go_wp2_with fail)
  (refine (HSo.out _).mono ?_; rintro e w1 ⟨rfl, hb⟩; (have HB := Lib.hid (below_then HB.out hb); (try have HA := Lib.hid (HA.out.keep hb)); (try have HD := Lib.hid (HD.out.keep hb))); clear hb; go_wp2_with fail)
  (refine (K4.out _).mono ?_; rintro e w1 ⟨v1, rfl, ho, hb⟩; (have HB := Lib.hid (below_then HB.out hb); (try have HA := Lib.hid (HA.out.keep hb)); (try have HD := Lib.hid (HD.out.keep hb))); have HD := Lib.hid (ls_of_own ho (by decide)); clear ho hb; go_wp2_with fail)
  (refine (HSo.out _).mono ?_; rintro e w1 ⟨rfl, hb⟩; (have HB := Lib.hid (below_then HB.out hb); (try have HA := Lib.hid (HA.out.keep hb)); (try have HD := Lib.hid (HD.out.keep hb))); clear hb; go_wp2_with fail)
  refine (K5.out _).mono ?_
  rintro e w1 ⟨v1, rfl, ho, hb⟩
  (have HB := Lib.hid (below_then HB.out hb); (try have HA := Lib.hid (HA.out.keep hb)); (try have HD := Lib.hid (HD.out.keep hb)))
  have HE := Lib.hid (ls_of_own (l := []) ho (by decide))
  clear ho hb
  obtain ⟨eb, ec, rfl, _⟩ := HE.out.ex
  go_wp2_with fail
  refine (HAl.out _).mono ?_
  rintro e w2 ⟨rfl, hb⟩
  (have HB := Lib.hid (below_then HB.out hb); (try have HA := Lib.hid (HA.out.keep hb)); (try have HD := Lib.hid (HD.out.keep hb)))
  clear hb
  have HX := Lib.hid (ls_of_own (l := [3]) (own_made1 (w := w2) (cur := #[.int .i64 3]) (e := 3) (size := 1) (n := 1) rfl rfl (by decide)) (by decide))
  (have HB := Lib.hid (below_then HB.out (show Below w2.heap.size w2 (w2.alloc (.cells #[.int .i64 3] 3)) by (repeat (first | (with_reducible exact Below.refl _ _) | (with_reducible assumption) | (with_reducible refine below_alloc ?_ _) | (with_reducible refine below_drewN ?_ _) | (with_reducible refine Below.drew ?_) | (with_reducible refine below_then ?_ (by with_reducible assumption)) | (with_reducible refine Below.setCell ?_ (by go_size) _))))); (try have HA := Lib.hid (HA.out.keep (show Below w2.heap.size w2 (w2.alloc (.cells #[.int .i64 3] 3)) by (repeat (first | (with_reducible exact Below.refl _ _) | (with_reducible assumption) | (with_reducible refine below_alloc ?_ _) | (with_reducible refine below_drewN ?_ _) | (with_reducible refine Below.drew ?_) | (with_reducible refine below_then ?_ (by with_reducible assumption)) | (with_reducible refine Below.setCell ?_ (by go_size) _)))))); (try have HD := Lib.hid (HD.out.keep (show Below w2.heap.size w2 (w2.alloc (.cells #[.int .i64 3] 3)) by (repeat (first | (with_reducible exact Below.refl _ _) | (with_reducible assumption) | (with_reducible refine below_alloc ?_ _) | (with_reducible refine below_drewN ?_ _) | (with_reducible refine Below.drew ?_) | (with_reducible refine below_then ?_ (by with_reducible assumption)) | (with_reducible refine Below.setCell ?_ (by go_size) _)))))))
  go_wp2_with fail
  refine (S0.out _ _ _ _ HA.out HX.out).mono ?_
  rintro e w3 ⟨rfl, hb⟩
  (have HB := Lib.hid (below_then HB.out hb); (try have HA := Lib.hid (HA.out.keep hb)); (try have HD := Lib.hid (HD.out.keep hb)))
  clear hb
  have HX := Lib.hid (ls_of_own (l := [0, 1, 2, 3]) (own_made1 (w := w3) (cur := #[.int .i64 0, .int .i64 1, .int .i64 2, .int .i64 3]) (e := 3) (size := 1) (n := 4) rfl rfl (by decide)) (by decide))
  (have HB := Lib.hid (below_then HB.out (show Below w3.heap.size w3 (w3.alloc (.cells #[.int .i64 0, .int .i64 1, .int .i64 2, .int .i64 3] 3)) by (repeat (first | (with_reducible exact Below.refl _ _) | (with_reducible assumption) | (with_reducible refine below_alloc ?_ _) | (with_reducible refine below_drewN ?_ _) | (with_reducible refine Below.drew ?_) | (with_reducible refine below_then ?_ (by with_reducible assumption)) | (with_reducible refine Below.setCell ?_ (by go_size) _))))); (try have HA := Lib.hid (HA.out.keep (show Below w3.heap.size w3 (w3.alloc (.cells #[.int .i64 0, .int .i64 1, .int .i64 2, .int .i64 3] 3)) by (repeat (first | (with_reducible exact Below.refl _ _) | (with_reducible assumption) | (with_reducible refine below_alloc ?_ _) | (with_reducible refine below_drewN ?_ _) | (with_reducible refine Below.drew ?_) | (with_reducible refine below_then ?_ (by with_reducible assumption)) | (with_reducible refine Below.setCell ?_ (by go_size) _)))))); (try have HD := Lib.hid (HD.out.keep (show Below w3.heap.size w3 (w3.alloc (.cells #[.int .i64 0, .int .i64 1, .int .i64 2, .int .i64 3] 3)) by (repeat (first | (with_reducible exact Below.refl _ _) | (with_reducible assumption) | (with_reducible refine below_alloc ?_ _) | (with_reducible refine below_drewN ?_ _) | (with_reducible refine Below.drew ?_) | (with_reducible refine below_then ?_ (by with_reducible assumption)) | (with_reducible refine Below.setCell ?_ (by go_size) _)))))))
  go_wp2_with fail
  (refine (S0.out _ _ _ _ HD.out HX.out).mono ?_; rintro e w1 ⟨rfl, hb⟩; (have HB := Lib.hid (below_then HB.out hb); (try have HA := Lib.hid (HA.out.keep hb)); (try have HD := Lib.hid (HD.out.keep hb))); clear hb; go_wp2_with fail)
  go_returns
  exact ⟨rfl, HB.out⟩

set_option maxRecDepth 100000 in set_option maxHeartbeats 4000000 in
theorem lift_wireNames (os : Os) (started : os.Started) (H : Type) (enc : TypeId × Value → H) :
    ReturnsInHanded {} Try.checked os 5 .any (Rows.wireNamesSpec.pre6 enc Try.prog Try.f5 Rows.wireNamesRow.domain false) (Rows.wireNamesSpec.post enc Try.prog Try.f5 false true false false) := by
  refine returnsInHanded_of_change (C := Try.checked) ownKnob0 started (by kernel_rfl) Try.func5
    (ChangeSpec.witness6 (enc := enc) (C := Try.checked) false ⟨#[], #[], []⟩ 8 (by kernel_rfl) (by kernel_rfl) (by kernel_rfl) (by kernel_rfl)) ?_
  intro W base args ds gs before hval0 hW hcnd _
  have hval : ∀ (j : Nat) t v, Try.f5.params[j]? = some t → args[j]? = some v → Value.okWide Try.prog W .any base t v := hval0
  have hW' := hW
  obtain ⟨p, q, hA0, hV, rfl, hfz, hnd⟩ := hW
  have hA : DataW.TrodAll enc Try.prog W 0 (fun _ => true) true Try.f5.params.toList args.toList ds p := hA0
  rw [Try.params5] at hA hval
  have hK := hA
  obtain ⟨rfl, rfl, rfl⟩ := trodAll_none hA
  obtain ⟨rfl, rfl⟩ := trodVars_none hV
  clear hA0 hval0
  simp only [List.append_nil] at hW' hK
  refine (law05_WireNames W).mono fun e W' ⟨he, bel⟩ => ?_
  subst he
  refine ⟨_, rfl, _, _, _, [], _, [], hW', trodAll_mk1 (shut_bool Try.underlying4 _), trodAll_below bel _ _ _ _ ?_ hK, rfl, bel.frame _, fun h => by cases h⟩
  intro t ht
  simp at ht <;> (rcases ht with rfl <;> exact ⟨by kernel_rfl, of_decide_eq_true (by kernel_rfl)⟩)

theorem holds_wireNames : Rows.wireNamesRow.holds Try.pinned (OpenSpec.ofChange Rows.wireNamesSpec) :=
  OpenClaim.holds_of_wide 5 Try.f5 rfl rfl rfl rfl rfl rfl rfl ⟨rfl, rfl, rfl, rfl, rfl⟩ rfl rfl rfl rfl rfl (by kernel_rfl) Try.func5 (by kernel_rfl)
    (of_decide_eq_true (by kernel_rfl)) (by unfold Func.isWrapper; first | (rw [if_pos (by decide +kernel)]; kernel_rfl) | (rw [if_neg (by decide +kernel)]; exact ⟨rfl, rfl⟩))
    (fun os started H enc _ => lift_wireNames os started H enc)

theorem WireNames_holds : Rows.WireNamesSaid := holds_wireNames
end Go.Proofs.Ytpooieghlceefaa
