/- FaultNames: the errors have their numbers, and the chapter's examples are so: the call returns true. -/
import Derived.Test.YtpooieghlceefaaFaultAlive
import Derived.Test.YtpooieghlceefaaRow
namespace Go.Proofs.Ytpooieghlceefaa
open Go.ChangeShapes Go.WideShapes Go.ChangeAt Go.RowKit Go.Shelf

set_option maxRecDepth 100000 in set_option maxHeartbeats 4000000 in
theorem law17_FaultNames (w : World) : Calls Try.prog 8 #[] w (RB w (.bool true)) := by
  have HAl := Lib.hid (fun W => law17_alive W)
  have p1 : clearE 8 [1, 3, 5] 3 = 0 := by decide +kernel
  have p2 : clearV 8 [1, 3, 5] 3 = [1, 5] := by decide +kernel
  have p3 : markE 8 [1, 5] 5 = 170 := by decide +kernel
  have p4 : clearE 8 [1, 5] 3 = 6 := by decide +kernel
  have p5 : markE 8 [1, 5] 8 = 2 := by decide +kernel
  have K1 := Lib.hid (fun W v (h : LS W v [1, 3, 5]) => by have := s_Clear h 8 3; rw [p1, p2] at this; exact this)
  have K2 := Lib.hid (fun W v (h : LS W v [1, 5]) => by have := s_Mark h 8 5; rw [p3] at this; exact this)
  have K3 := Lib.hid (fun W v (h : LS W v [1, 5]) => by have := s_Clear h 8 3; rw [p4] at this; exact this)
  have K4 := Lib.hid (fun W v (h : LS W v [1, 5]) => by have := s_Mark h 8 8; rw [p5] at this; exact this)
  have PS := Lib.hid (fun W v u (h : LS W v [1, 5]) (h2 : LS W u [1, 5]) => Calls.rb_eq (s_same h h2) (show Value.bool (decide _) = .bool true by rw [decide_eq_true rfl]))
  clear p1 p2 p3 p4 p5
  have HB := Lib.hid (Below.refl w.heap.size w)
  (have HX := Lib.hid (list_of_own' (l := ([1, 3, 5] : List Int)) (own_made1 (w := w) (cur := #[.int .i64 1, .int .i64 3, .int .i64 5]) (e := 3) (size := 1) (n := 3) rfl rfl (by decide)) (by decide)))
  go_enter Try.func8, Try.ntmps8
  go_wp2_with fail
  refine (K1.out _ _ HX.out).mono ?_
  rintro e w1 ⟨v, rfl, ho, hb⟩
  have HB := Lib.hid (below_then (show Below w.heap.size w _ by (repeat (first | (with_reducible exact Below.refl _ _) | (with_reducible assumption) | (with_reducible refine below_alloc ?_ _) | (with_reducible refine below_drewN ?_ _) | (with_reducible refine Below.drew ?_) | (with_reducible refine below_then ?_ (by with_reducible assumption)) | (with_reducible refine Below.setCell ?_ (by go_size) _)))) hb)
  have HA := Lib.hid (list_of_own' ho (by decide))
  clear ho hb HX
  (have HX := Lib.hid (list_of_own' (l := ([1, 5] : List Int)) (own_made1 (w := w1) (cur := #[.int .i64 1, .int .i64 5]) (e := 3) (size := 1) (n := 2) rfl rfl (by decide)) (by decide)))
  go_wp2_with fail
  refine (K2.out _ _ HX.out).mono ?_
  rintro e w2 ⟨v2, rfl, ho, hb⟩
  have hb' := below_then (show Below w1.heap.size w1 _ by (repeat (first | (with_reducible exact Below.refl _ _) | (with_reducible assumption) | (with_reducible refine below_alloc ?_ _) | (with_reducible refine below_drewN ?_ _) | (with_reducible refine Below.drew ?_) | (with_reducible refine below_then ?_ (by with_reducible assumption)) | (with_reducible refine Below.setCell ?_ (by go_size) _)))) hb
  (have HB := Lib.hid (below_then HB.out hb'); (try have HA := Lib.hid (HA.out.keep hb')))
  clear ho hb hb' HX
  (have HX := Lib.hid (list_of_own' (l := ([1, 5] : List Int)) (own_made1 (w := w2) (cur := #[.int .i64 1, .int .i64 5]) (e := 3) (size := 1) (n := 2) rfl rfl (by decide)) (by decide)))
  go_wp2_with fail
  refine (K3.out _ _ HX.out).mono ?_
  rintro e w3 ⟨v3, rfl, ho, hb⟩
  have hb' := below_then (show Below w2.heap.size w2 _ by (repeat (first | (with_reducible exact Below.refl _ _) | (with_reducible assumption) | (with_reducible refine below_alloc ?_ _) | (with_reducible refine below_drewN ?_ _) | (with_reducible refine Below.drew ?_) | (with_reducible refine below_then ?_ (by with_reducible assumption)) | (with_reducible refine Below.setCell ?_ (by go_size) _)))) hb
  (have HB := Lib.hid (below_then HB.out hb'); (try have HA := Lib.hid (HA.out.keep hb')))
  clear ho hb hb' HX
  (have HX := Lib.hid (list_of_own' (l := ([1, 5] : List Int)) (own_made1 (w := w3) (cur := #[.int .i64 1, .int .i64 5]) (e := 3) (size := 1) (n := 2) rfl rfl (by decide)) (by decide)))
  go_wp2_with fail
  refine (K4.out _ _ HX.out).mono ?_
  rintro e w4 ⟨v4, rfl, ho, hb⟩
  have hb' := below_then (show Below w3.heap.size w3 _ by (repeat (first | (with_reducible exact Below.refl _ _) | (with_reducible assumption) | (with_reducible refine below_alloc ?_ _) | (with_reducible refine below_drewN ?_ _) | (with_reducible refine Below.drew ?_) | (with_reducible refine below_then ?_ (by with_reducible assumption)) | (with_reducible refine Below.setCell ?_ (by go_size) _)))) hb
  (have HB := Lib.hid (below_then HB.out hb'); (try have HA := Lib.hid (HA.out.keep hb')))
  clear ho hb hb' HX
  go_wp2_with fail
  refine (HAl.out _).mono ?_
  rintro e w5 ⟨rfl, hb⟩
  (have HB := Lib.hid (below_then HB.out hb); (try have HA := Lib.hid (HA.out.keep hb)))
  clear hb
  (have HX := Lib.hid (list_of_own' (l := ([1, 5] : List Int)) (own_made1 (w := w5) (cur := #[.int .i64 1, .int .i64 5]) (e := 3) (size := 1) (n := 2) rfl rfl (by decide)) (by decide)))
  go_wp2_with fail
  refine (PS.out _ _ _ (HA.out.keep (by (repeat (first | (with_reducible exact Below.refl _ _) | (with_reducible assumption) | (with_reducible refine below_alloc ?_ _) | (with_reducible refine below_drewN ?_ _) | (with_reducible refine Below.drew ?_) | (with_reducible refine below_then ?_ (by with_reducible assumption)) | (with_reducible refine Below.setCell ?_ (by go_size) _))))) HX.out).mono ?_
  rintro e w6 ⟨rfl, hb⟩
  have hBf := below_then (below_alloc HB.out _) hb
  clear hb
  go_wp2_with fail
  go_returns
  exact ⟨rfl, hBf⟩

set_option maxRecDepth 100000 in set_option maxHeartbeats 4000000 in
theorem lift_faultNames (os : Os) (started : os.Started) (H : Type) (enc : TypeId × Value → H) :
    ReturnsInHanded {} Try.checked os 8 .any (Rows.faultNamesSpec.pre6 enc Try.prog Try.f8 Rows.faultNamesRow.domain false) (Rows.faultNamesSpec.post enc Try.prog Try.f8 false true false false) := by
  refine returnsInHanded_of_change (C := Try.checked) ownKnob0 started (by kernel_rfl) Try.func8
    (ChangeSpec.witness6 (enc := enc) (C := Try.checked) false ⟨#[], #[], []⟩ 8 (by kernel_rfl) (by kernel_rfl) (by kernel_rfl) (by kernel_rfl)) ?_
  intro W base args ds gs before hval0 hW hcnd _
  have hval : ∀ (j : Nat) t v, Try.f8.params[j]? = some t → args[j]? = some v → Value.okWide Try.prog W .any base t v := hval0
  have hW' := hW
  obtain ⟨p, q, hA0, hV, rfl, hfz, hnd⟩ := hW
  have hA : DataW.TrodAll enc Try.prog W 0 (fun _ => true) true Try.f8.params.toList args.toList ds p := hA0
  rw [Try.params8] at hA hval
  have hK := hA
  obtain ⟨rfl, rfl, rfl⟩ := trodAll_none hA
  obtain ⟨rfl, rfl⟩ := trodVars_none hV
  clear hA0 hval0
  simp only [List.append_nil] at hW' hK
  refine (law17_FaultNames W).mono fun e W' ⟨he, bel⟩ => ?_
  subst he
  refine ⟨_, rfl, _, _, _, [], _, [], hW', trodAll_mk1 (shut_bool Try.underlying4 _), trodAll_below bel _ _ _ _ ?_ hK, rfl, bel.frame _, fun h => by cases h⟩
  intro t ht
  simp at ht <;> (rcases ht with rfl <;> exact ⟨by kernel_rfl, of_decide_eq_true (by kernel_rfl)⟩)

theorem holds_faultNames : Rows.faultNamesRow.holds Try.pinned (OpenSpec.ofChange Rows.faultNamesSpec) :=
  OpenClaim.holds_of_wide 8 Try.f8 rfl rfl rfl rfl rfl rfl rfl ⟨rfl, rfl, rfl, rfl, rfl⟩ rfl rfl rfl rfl rfl (by kernel_rfl) Try.func8 (by kernel_rfl)
    (of_decide_eq_true (by kernel_rfl)) (by unfold Func.isWrapper; first | (rw [if_pos (by decide +kernel)]; kernel_rfl) | (rw [if_neg (by decide +kernel)]; exact ⟨rfl, rfl⟩))
    (fun os started H enc _ => lift_faultNames os started H enc)

theorem FaultNames_holds : Rows.FaultNamesSaid := holds_faultNames
end Go.Proofs.Ytpooieghlceefaa
