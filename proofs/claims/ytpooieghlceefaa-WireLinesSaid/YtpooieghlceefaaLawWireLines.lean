/- WireLines: lines along an axis share out its cables: the call returns true. -/
import Derived.Test.YtpooieghlceefaaWireLines0
import Derived.Test.YtpooieghlceefaaWireLines1
import Derived.Test.YtpooieghlceefaaWireLines2
namespace Go.Proofs.Ytpooieghlceefaa
open Go.ChangeShapes Go.WideShapes Go.ChangeAt Go.RowKit Go.Shelf

theorem wireLines_ax0 (d : V3) (a m o : Int) (w : World) (h0 : 0 ≤ a ∧ a ≤ 255) (hx : a % 3 = 0) : Calls Try.prog 4 #[.agg #[.int .i64 d.x, .int .i64 d.y, .int .i64 d.z], .int .u8 a, .int .i64 m, .int .i64 o] w (RB w (.bool true)) := by
  have HAl := Lib.hid (fun W => law05_alive W)
  have l1 := V3.line_len (d := d) 0 m
  have l2 := V3.line_len (d := d) 0 o
  by_cases h1 : d.askE 0 m = 0
  · by_cases h2 : d.askE 0 o = 0
    · obtain ⟨hd, _, m0, m1⟩ := V3.askE_0 h1
      have F := line_facts (k := 0) (by decide) h1 h2
      have e1 : Hid (∀ W, Calls Try.prog 16 #[.agg #[.int .i64 d.x, .int .i64 d.y, .int .i64 d.z], .int .i64 0, .int .i64 m] W (RLE W (d.lineV 0 m) 0)) := Lib.hid (fun W => by have := wire_Line d 0 m W; rw [h1] at this; exact this)
      have e2 : Hid (∀ W, Calls Try.prog 16 #[.agg #[.int .i64 d.x, .int .i64 d.y, .int .i64 d.z], .int .i64 0, .int .i64 o] W (RLE W (d.lineV 0 o) 0)) := Lib.hid (fun W => by have := wire_Line d 0 o W; rw [h2] at this; exact this)
      have HS : Hid (∀ (i : Nat), i ≤ 1000 → ∀ W, Calls Try.prog 14 #[.agg #[.int .i64 d.x, .int .i64 d.y, .int .i64 d.z], .int .i64 m, .int .i64 0, .int .i64 i] W (RB W (.tuple #[.int .i64 (d.step m 0 (i : Int)), .int .i64 0]))) := Lib.hid (fun i hi W => pos_Step d m 0 i W hd m0 m1 (by decide) (by omega) (by omega))
      have hends : ∀ x, x ∈ d.lineV 0 m → ∃ fr t, (fr = m → x = 0 * d.n + m) ∧ Hid (∀ W, Calls Try.prog 13 #[.agg #[.int .i64 d.x, .int .i64 d.y, .int .i64 d.z], .int .i64 x] W (RB W (.tuple #[.int .i64 0, .int .i64 fr, .int .i64 t, .int .i64 0]))) := fun x hx => by
        obtain ⟨g1, g2, g3⟩ := F.ends x hx
        refine ⟨d.endM x, d.endT x, g3, Lib.hid (fun W => ?_)⟩
        have := wire_Ends d x W
        rw [g1, show d.endA x = 0 from g2] at this
        exact this
      cases hc : d.amongTo 0 m (d.x).toNat o with
      | true =>
        have e3 := F.one hc
        have e2' := e2
        rw [show d.lineV 0 o = d.lineV 0 m from e3.symm] at e2'
        exact wireLines_ok0true d a m o (d.lineV 0 m) (fun i => d.step m 0 (i : Int)) (fun i => d.amongTo 0 m i o) w h0 hx hd ⟨m0, m1⟩ F.len (V3.amongTo_zero ..) (fun i => V3.amongTo_succ ..) hc F.rise hends HAl e1 e2' HS
      | false =>
        exact wireLines_ok0false d a m o (d.lineV 0 m) (d.lineV 0 o) (fun i => d.step m 0 (i : Int)) (fun i => d.amongTo 0 m i o) w h0 hx hd ⟨m0, m1⟩ F.len F.len2 (V3.amongTo_zero ..) (fun i => V3.amongTo_succ ..) hc (F.apart hc) F.rise hends HAl e1 e2 HS
    · exact wireLines_bad0 d a m o _ _ _ _ w h0 hx (.inr h2) l1 l2 HAl (Lib.hid (fun W => wire_Line d 0 m W)) (Lib.hid (fun W => wire_Line d 0 o W))
  · exact wireLines_bad0 d a m o _ _ _ _ w h0 hx (.inl h1) l1 l2 HAl (Lib.hid (fun W => wire_Line d 0 m W)) (Lib.hid (fun W => wire_Line d 0 o W))
theorem wireLines_ax1 (d : V3) (a m o : Int) (w : World) (h0 : 0 ≤ a ∧ a ≤ 255) (hx : a % 3 = 1) : Calls Try.prog 4 #[.agg #[.int .i64 d.x, .int .i64 d.y, .int .i64 d.z], .int .u8 a, .int .i64 m, .int .i64 o] w (RB w (.bool true)) := by
  have HAl := Lib.hid (fun W => law05_alive W)
  have l1 := V3.line_len (d := d) 1 m
  have l2 := V3.line_len (d := d) 1 o
  by_cases h1 : d.askE 1 m = 0
  · by_cases h2 : d.askE 1 o = 0
    · obtain ⟨hd, _, m0, m1⟩ := V3.askE_0 h1
      have F := line_facts (k := 1) (by decide) h1 h2
      have e1 : Hid (∀ W, Calls Try.prog 16 #[.agg #[.int .i64 d.x, .int .i64 d.y, .int .i64 d.z], .int .i64 1, .int .i64 m] W (RLE W (d.lineV 1 m) 0)) := Lib.hid (fun W => by have := wire_Line d 1 m W; rw [h1] at this; exact this)
      have e2 : Hid (∀ W, Calls Try.prog 16 #[.agg #[.int .i64 d.x, .int .i64 d.y, .int .i64 d.z], .int .i64 1, .int .i64 o] W (RLE W (d.lineV 1 o) 0)) := Lib.hid (fun W => by have := wire_Line d 1 o W; rw [h2] at this; exact this)
      have HS : Hid (∀ (i : Nat), i ≤ 1000 → ∀ W, Calls Try.prog 14 #[.agg #[.int .i64 d.x, .int .i64 d.y, .int .i64 d.z], .int .i64 m, .int .i64 1, .int .i64 i] W (RB W (.tuple #[.int .i64 (d.step m 1 (i : Int)), .int .i64 0]))) := Lib.hid (fun i hi W => pos_Step d m 1 i W hd m0 m1 (by decide) (by omega) (by omega))
      have hends : ∀ x, x ∈ d.lineV 1 m → ∃ fr t, (fr = m → x = 1 * d.n + m) ∧ Hid (∀ W, Calls Try.prog 13 #[.agg #[.int .i64 d.x, .int .i64 d.y, .int .i64 d.z], .int .i64 x] W (RB W (.tuple #[.int .i64 1, .int .i64 fr, .int .i64 t, .int .i64 0]))) := fun x hx => by
        obtain ⟨g1, g2, g3⟩ := F.ends x hx
        refine ⟨d.endM x, d.endT x, g3, Lib.hid (fun W => ?_)⟩
        have := wire_Ends d x W
        rw [g1, show d.endA x = 1 from g2] at this
        exact this
      cases hc : d.amongTo 1 m (d.y).toNat o with
      | true =>
        have e3 := F.one hc
        have e2' := e2
        rw [show d.lineV 1 o = d.lineV 1 m from e3.symm] at e2'
        exact wireLines_ok1true d a m o (d.lineV 1 m) (fun i => d.step m 1 (i : Int)) (fun i => d.amongTo 1 m i o) w h0 hx hd ⟨m0, m1⟩ F.len (V3.amongTo_zero ..) (fun i => V3.amongTo_succ ..) hc F.rise hends HAl e1 e2' HS
      | false =>
        exact wireLines_ok1false d a m o (d.lineV 1 m) (d.lineV 1 o) (fun i => d.step m 1 (i : Int)) (fun i => d.amongTo 1 m i o) w h0 hx hd ⟨m0, m1⟩ F.len F.len2 (V3.amongTo_zero ..) (fun i => V3.amongTo_succ ..) hc (F.apart hc) F.rise hends HAl e1 e2 HS
    · exact wireLines_bad1 d a m o _ _ _ _ w h0 hx (.inr h2) l1 l2 HAl (Lib.hid (fun W => wire_Line d 1 m W)) (Lib.hid (fun W => wire_Line d 1 o W))
  · exact wireLines_bad1 d a m o _ _ _ _ w h0 hx (.inl h1) l1 l2 HAl (Lib.hid (fun W => wire_Line d 1 m W)) (Lib.hid (fun W => wire_Line d 1 o W))
theorem wireLines_ax2 (d : V3) (a m o : Int) (w : World) (h0 : 0 ≤ a ∧ a ≤ 255) (hx : a % 3 = 2) : Calls Try.prog 4 #[.agg #[.int .i64 d.x, .int .i64 d.y, .int .i64 d.z], .int .u8 a, .int .i64 m, .int .i64 o] w (RB w (.bool true)) := by
  have HAl := Lib.hid (fun W => law05_alive W)
  have l1 := V3.line_len (d := d) 2 m
  have l2 := V3.line_len (d := d) 2 o
  by_cases h1 : d.askE 2 m = 0
  · by_cases h2 : d.askE 2 o = 0
    · obtain ⟨hd, _, m0, m1⟩ := V3.askE_0 h1
      have F := line_facts (k := 2) (by decide) h1 h2
      have e1 : Hid (∀ W, Calls Try.prog 16 #[.agg #[.int .i64 d.x, .int .i64 d.y, .int .i64 d.z], .int .i64 2, .int .i64 m] W (RLE W (d.lineV 2 m) 0)) := Lib.hid (fun W => by have := wire_Line d 2 m W; rw [h1] at this; exact this)
      have e2 : Hid (∀ W, Calls Try.prog 16 #[.agg #[.int .i64 d.x, .int .i64 d.y, .int .i64 d.z], .int .i64 2, .int .i64 o] W (RLE W (d.lineV 2 o) 0)) := Lib.hid (fun W => by have := wire_Line d 2 o W; rw [h2] at this; exact this)
      have HS : Hid (∀ (i : Nat), i ≤ 1000 → ∀ W, Calls Try.prog 14 #[.agg #[.int .i64 d.x, .int .i64 d.y, .int .i64 d.z], .int .i64 m, .int .i64 2, .int .i64 i] W (RB W (.tuple #[.int .i64 (d.step m 2 (i : Int)), .int .i64 0]))) := Lib.hid (fun i hi W => pos_Step d m 2 i W hd m0 m1 (by decide) (by omega) (by omega))
      have hends : ∀ x, x ∈ d.lineV 2 m → ∃ fr t, (fr = m → x = 2 * d.n + m) ∧ Hid (∀ W, Calls Try.prog 13 #[.agg #[.int .i64 d.x, .int .i64 d.y, .int .i64 d.z], .int .i64 x] W (RB W (.tuple #[.int .i64 2, .int .i64 fr, .int .i64 t, .int .i64 0]))) := fun x hx => by
        obtain ⟨g1, g2, g3⟩ := F.ends x hx
        refine ⟨d.endM x, d.endT x, g3, Lib.hid (fun W => ?_)⟩
        have := wire_Ends d x W
        rw [g1, show d.endA x = 2 from g2] at this
        exact this
      cases hc : d.amongTo 2 m (d.z).toNat o with
      | true =>
        have e3 := F.one hc
        have e2' := e2
        rw [show d.lineV 2 o = d.lineV 2 m from e3.symm] at e2'
        exact wireLines_ok2true d a m o (d.lineV 2 m) (fun i => d.step m 2 (i : Int)) (fun i => d.amongTo 2 m i o) w h0 hx hd ⟨m0, m1⟩ F.len (V3.amongTo_zero ..) (fun i => V3.amongTo_succ ..) hc F.rise hends HAl e1 e2' HS
      | false =>
        exact wireLines_ok2false d a m o (d.lineV 2 m) (d.lineV 2 o) (fun i => d.step m 2 (i : Int)) (fun i => d.amongTo 2 m i o) w h0 hx hd ⟨m0, m1⟩ F.len F.len2 (V3.amongTo_zero ..) (fun i => V3.amongTo_succ ..) hc (F.apart hc) F.rise hends HAl e1 e2 HS
    · exact wireLines_bad2 d a m o _ _ _ _ w h0 hx (.inr h2) l1 l2 HAl (Lib.hid (fun W => wire_Line d 2 m W)) (Lib.hid (fun W => wire_Line d 2 o W))
  · exact wireLines_bad2 d a m o _ _ _ _ w h0 hx (.inl h1) l1 l2 HAl (Lib.hid (fun W => wire_Line d 2 m W)) (Lib.hid (fun W => wire_Line d 2 o W))
theorem law05_WireLines (d : V3) (a m o : Int) (w : World) (h0 : 0 ≤ a ∧ a ≤ 255) : Calls Try.prog 4 #[.agg #[.int .i64 d.x, .int .i64 d.y, .int .i64 d.z], .int .u8 a, .int .i64 m, .int .i64 o] w (RB w (.bool true)) := by
  have hc : a % 3 = 0 ∨ a % 3 = 1 ∨ a % 3 = 2 := by omega
  rcases hc with hx | hx | hx
  · exact wireLines_ax0 d a m o w h0 hx
  · exact wireLines_ax1 d a m o w h0 hx
  · exact wireLines_ax2 d a m o w h0 hx

set_option maxRecDepth 100000 in set_option maxHeartbeats 4000000 in
theorem lift_wireLines (os : Os) (started : os.Started) (H : Type) (enc : TypeId × Value → H) :
    ReturnsInHanded {} Try.checked os 4 .any (Rows.wireLinesSpec.pre6 enc Try.prog Try.f4 Rows.wireLinesRow.domain false) (Rows.wireLinesSpec.post enc Try.prog Try.f4 false true false false) := by
  refine returnsInHanded_of_change (C := Try.checked) ownKnob0 started (by kernel_rfl) Try.func4
    (ChangeSpec.witness6 (enc := enc) (C := Try.checked) false ⟨#[], #[.agg #[.int .i64 0, .int .i64 0, .int .i64 0], .int .u8 0, .int .i64 0, .int .i64 0], []⟩ 8 (by kernel_rfl) (by kernel_rfl) (by kernel_rfl) (by kernel_rfl)) ?_
  intro W base args ds gs before hval0 hW hcnd _
  have hval : ∀ (j : Nat) t v, Try.f4.params[j]? = some t → args[j]? = some v → Value.okWide Try.prog W .any base t v := hval0
  have hW' := hW
  obtain ⟨p, q, hA0, hV, rfl, hfz, hnd⟩ := hW
  have hA : DataW.TrodAll enc Try.prog W 0 (fun _ => true) true Try.f4.params.toList args.toList ds p := hA0
  rw [Try.params4] at hA hval
  have hK := hA
  obtain ⟨v0, vs0, d0, ds0, p0, q0, hargs, rfl, rfl, h0, r0⟩ := trodAll_cons hA
  obtain ⟨v1, vs1, d1, ds1, p1, q1, rfl, rfl, rfl, h1, r1⟩ := trodAll_cons r0
  obtain ⟨v2, vs2, d2, ds2, p2, q2, rfl, rfl, rfl, h2, r2⟩ := trodAll_cons r1
  obtain ⟨v3, vs3, d3, ds3, p3, q3, rfl, rfl, rfl, h3, r3⟩ := trodAll_cons r2
  obtain ⟨rfl, rfl, rfl⟩ := trodAll_nil r3
  obtain rfl : args = #[v0, v1, v2, v3] := by cases args; simp_all
  obtain ⟨d, rfl⟩ := open_dims (hval 0 _ v0 rfl rfl)
  obtain ⟨axis, rfl, hax⟩ := okWide_u8 Try.underlying5 (hval 1 _ v1 rfl rfl)
  obtain ⟨m, rfl⟩ := okWide_int Try.underlying3 (hval 2 _ v2 rfl rfl)
  obtain ⟨o, rfl⟩ := okWide_int Try.underlying3 (hval 3 _ v3 rfl rfl)
  obtain ⟨rfl, rfl⟩ := trodVars_none hV
  clear hA0 hval0
  simp only [List.append_nil] at hW' hK
  refine (law05_WireLines d axis m o W hax).mono fun e W' ⟨he, bel⟩ => ?_
  subst he
  refine ⟨_, rfl, _, _, _, [], _, [], hW', trodAll_mk1 (shut_bool Try.underlying4 _), trodAll_below bel _ _ _ _ ?_ hK, rfl, bel.frame _, fun h => by cases h⟩
  intro t ht
  simp at ht <;> (rcases ht with rfl | rfl | rfl | rfl <;> exact ⟨by kernel_rfl, of_decide_eq_true (by kernel_rfl)⟩)

theorem holds_wireLines : Rows.wireLinesRow.holds Try.pinned (OpenSpec.ofChange Rows.wireLinesSpec) :=
  OpenClaim.holds_of_wide 4 Try.f4 rfl rfl rfl rfl rfl rfl rfl ⟨rfl, rfl, rfl, rfl, rfl⟩ rfl rfl rfl rfl rfl (by kernel_rfl) Try.func4 (by kernel_rfl)
    (of_decide_eq_true (by kernel_rfl)) (by unfold Func.isWrapper; first | (rw [if_pos (by decide +kernel)]; kernel_rfl) | (rw [if_neg (by decide +kernel)]; exact ⟨rfl, rfl⟩))
    (fun os started H enc _ => lift_wireLines os started H enc)

theorem WireLines_holds : Rows.WireLinesSaid := holds_wireLines
end Go.Proofs.Ytpooieghlceefaa
