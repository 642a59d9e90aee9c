/- WireTells: what the document tells of wires is what they tell: the call returns true. -/
import Derived.Test.YtpooieghlceefaaIntsOwn
import Derived.Test.YtpooieghlceefaaRef05d
namespace Go.Proofs.Ytpooieghlceefaa
open Go.ChangeShapes Go.WideShapes Go.ChangeAt Go.RowKit Go.Shelf

set_option maxRecDepth 100000 in set_option maxHeartbeats 4000000 in
theorem wireTells_core (d : V3) (axis m link long : Int) (torus : Bool) (A B C E F G J K O R : Int) (la lr : List Int) (ha : la.length ≤ 4611686018427387904) (hr : lr.length ≤ 4611686018427387904) (w : World)
    (H1 : Hid (∀ W, Calls Try.prog 21 #[.agg #[.int .i64 d.x, .int .i64 d.y, .int .i64 d.z]] W (RB W (.tuple #[.int .i64 A, .int .i64 B]))))
    (H2 : Hid (∀ W, Calls Try.prog 22 #[.agg #[.int .i64 d.x, .int .i64 d.y, .int .i64 d.z]] W (RB W (.tuple #[.int .i64 A, .int .i64 B]))))
    (H3 : Hid (∀ W, Calls Try.prog 12 #[.agg #[.int .i64 d.x, .int .i64 d.y, .int .i64 d.z], .int .i64 axis, .int .i64 m] W (RB W (.tuple #[.int .i64 C, .int .i64 E]))))
    (H4 : Hid (∀ W, Calls Try.prog 23 #[.agg #[.int .i64 d.x, .int .i64 d.y, .int .i64 d.z], .int .i64 axis, .int .i64 m] W (RB W (.tuple #[.int .i64 C, .int .i64 E]))))
    (H5 : Hid (∀ W, Calls Try.prog 13 #[.agg #[.int .i64 d.x, .int .i64 d.y, .int .i64 d.z], .int .i64 link] W (RB W (.tuple #[.int .i64 F, .int .i64 G, .int .i64 J, .int .i64 K]))))
    (H6 : Hid (∀ W, Calls Try.prog 24 #[.agg #[.int .i64 d.x, .int .i64 d.y, .int .i64 d.z], .int .i64 link] W (RB W (.tuple #[.int .i64 F, .int .i64 G, .int .i64 J, .int .i64 K]))))
    (H7 : Hid (∀ W, Calls Try.prog 16 #[.agg #[.int .i64 d.x, .int .i64 d.y, .int .i64 d.z], .int .i64 axis, .int .i64 m] W (RLE W la O)))
    (H8 : Hid (∀ W, Calls Try.prog 25 #[.agg #[.int .i64 d.x, .int .i64 d.y, .int .i64 d.z], .int .i64 axis, .int .i64 m] W (RLE W la O)))
    (H9 : Hid (∀ W, Calls Try.prog 20 #[.agg #[.int .i64 d.x, .int .i64 d.y, .int .i64 d.z], .int .i64 axis, .int .i64 m, .int .i64 long, .bool torus] W (RLE W lr R)))
    (H10 : Hid (∀ W, Calls Try.prog 26 #[.agg #[.int .i64 d.x, .int .i64 d.y, .int .i64 d.z], .int .i64 axis, .int .i64 m, .int .i64 long, .bool torus] W (RLE W lr R))) :
    Calls Try.prog 6 #[.agg #[.int .i64 d.x, .int .i64 d.y, .int .i64 d.z], .int .i64 axis, .int .i64 m, .int .i64 link, .int .i64 long, .bool torus] w (RB w (.bool true)) := by
  have HB := Lib.hid (show Below w.heap.size w (w.alloc (.cells #[.int .i64 d.x, .int .i64 d.y, .int .i64 d.z] 23)) by (repeat (first | (with_reducible exact Below.refl _ _) | (with_reducible assumption) | (with_reducible refine below_alloc ?_ _) | (with_reducible refine below_drewN ?_ _) | (with_reducible refine Below.drew ?_) | (with_reducible refine below_then ?_ (by with_reducible assumption)) | (with_reducible refine Below.setCell ?_ (by go_size) _))))
  have BD := Lib.hid (Blk.new w 23 #[.int .i64 d.x, .int .i64 d.y, .int .i64 d.z]).dims
  have HL := Lib.hid ha
  have HR := Lib.hid hr
  clear ha hr
  go_enter Try.func6, Try.ntmps6
  go_wp2_with fail
  (refine (H1.out _).mono ?_; rintro e w1 ⟨rfl, hb⟩; (have BD := Lib.hid (BD.out.keep hb BD.out.lt); have HB := Lib.hid (below_then HB.out hb); (try have LA := Lib.hid (LA.out.keep hb)); (try have LB := Lib.hid (LB.out.keep hb)); (try have LC := Lib.hid (LC.out.keep hb)); (try have LD := Lib.hid (LD.out.keep hb))); clear hb; (have hlt := BD.out.lt; obtain ⟨d0, d1, d2⟩ := BD.out; go_wp2_with fail; clear d0 d1 d2 hlt))
  (refine (H2.out _).mono ?_; rintro e w1 ⟨rfl, hb⟩; (have BD := Lib.hid (BD.out.keep hb BD.out.lt); have HB := Lib.hid (below_then HB.out hb); (try have LA := Lib.hid (LA.out.keep hb)); (try have LB := Lib.hid (LB.out.keep hb)); (try have LC := Lib.hid (LC.out.keep hb)); (try have LD := Lib.hid (LD.out.keep hb))); clear hb; (have hlt := BD.out.lt; obtain ⟨d0, d1, d2⟩ := BD.out; go_wp2_with fail; clear d0 d1 d2 hlt))
  (refine (H3.out _).mono ?_; rintro e w1 ⟨rfl, hb⟩; (have BD := Lib.hid (BD.out.keep hb BD.out.lt); have HB := Lib.hid (below_then HB.out hb); (try have LA := Lib.hid (LA.out.keep hb)); (try have LB := Lib.hid (LB.out.keep hb)); (try have LC := Lib.hid (LC.out.keep hb)); (try have LD := Lib.hid (LD.out.keep hb))); clear hb; (have hlt := BD.out.lt; obtain ⟨d0, d1, d2⟩ := BD.out; go_wp2_with fail; clear d0 d1 d2 hlt))
  (refine (H4.out _).mono ?_; rintro e w1 ⟨rfl, hb⟩; (have BD := Lib.hid (BD.out.keep hb BD.out.lt); have HB := Lib.hid (below_then HB.out hb); (try have LA := Lib.hid (LA.out.keep hb)); (try have LB := Lib.hid (LB.out.keep hb)); (try have LC := Lib.hid (LC.out.keep hb)); (try have LD := Lib.hid (LD.out.keep hb))); clear hb; (have hlt := BD.out.lt; obtain ⟨d0, d1, d2⟩ := BD.out; go_wp2_with fail; clear d0 d1 d2 hlt))
  (refine (H5.out _).mono ?_; rintro e w1 ⟨rfl, hb⟩; (have BD := Lib.hid (BD.out.keep hb BD.out.lt); have HB := Lib.hid (below_then HB.out hb); (try have LA := Lib.hid (LA.out.keep hb)); (try have LB := Lib.hid (LB.out.keep hb)); (try have LC := Lib.hid (LC.out.keep hb)); (try have LD := Lib.hid (LD.out.keep hb))); clear hb; (have hlt := BD.out.lt; obtain ⟨d0, d1, d2⟩ := BD.out; go_wp2_with fail; clear d0 d1 d2 hlt))
  (refine (H6.out _).mono ?_; rintro e w1 ⟨rfl, hb⟩; (have BD := Lib.hid (BD.out.keep hb BD.out.lt); have HB := Lib.hid (below_then HB.out hb); (try have LA := Lib.hid (LA.out.keep hb)); (try have LB := Lib.hid (LB.out.keep hb)); (try have LC := Lib.hid (LC.out.keep hb)); (try have LD := Lib.hid (LD.out.keep hb))); clear hb; (have hlt := BD.out.lt; obtain ⟨d0, d1, d2⟩ := BD.out; go_wp2_with fail; clear d0 d1 d2 hlt))
  (refine (H7.out _).mono ?_; rintro e w1 ⟨v1, rfl, ho, hb⟩; (have BD := Lib.hid (BD.out.keep hb BD.out.lt); have HB := Lib.hid (below_then HB.out hb); (try have LA := Lib.hid (LA.out.keep hb)); (try have LB := Lib.hid (LB.out.keep hb)); (try have LC := Lib.hid (LC.out.keep hb)); (try have LD := Lib.hid (LD.out.keep hb))); have LA := Lib.hid (ls_of_own ho HL.out); clear ho hb; (have hlt := BD.out.lt; obtain ⟨d0, d1, d2⟩ := BD.out; go_wp2_with fail; clear d0 d1 d2 hlt))
  (refine (H8.out _).mono ?_; rintro e w1 ⟨v1, rfl, ho, hb⟩; (have BD := Lib.hid (BD.out.keep hb BD.out.lt); have HB := Lib.hid (below_then HB.out hb); (try have LA := Lib.hid (LA.out.keep hb)); (try have LB := Lib.hid (LB.out.keep hb)); (try have LC := Lib.hid (LC.out.keep hb)); (try have LD := Lib.hid (LD.out.keep hb))); have LB := Lib.hid (ls_of_own ho HL.out); clear ho hb; (have hlt := BD.out.lt; obtain ⟨d0, d1, d2⟩ := BD.out; go_wp2_with fail; clear d0 d1 d2 hlt))
  (refine (H9.out _).mono ?_; rintro e w1 ⟨v1, rfl, ho, hb⟩; (have BD := Lib.hid (BD.out.keep hb BD.out.lt); have HB := Lib.hid (below_then HB.out hb); (try have LA := Lib.hid (LA.out.keep hb)); (try have LB := Lib.hid (LB.out.keep hb)); (try have LC := Lib.hid (LC.out.keep hb)); (try have LD := Lib.hid (LD.out.keep hb))); have LC := Lib.hid (ls_of_own ho HR.out); clear ho hb; (have hlt := BD.out.lt; obtain ⟨d0, d1, d2⟩ := BD.out; go_wp2_with fail; clear d0 d1 d2 hlt))
  (refine (H10.out _).mono ?_; rintro e w1 ⟨v1, rfl, ho, hb⟩; (have BD := Lib.hid (BD.out.keep hb BD.out.lt); have HB := Lib.hid (below_then HB.out hb); (try have LA := Lib.hid (LA.out.keep hb)); (try have LB := Lib.hid (LB.out.keep hb)); (try have LC := Lib.hid (LC.out.keep hb)); (try have LD := Lib.hid (LD.out.keep hb))); have LD := Lib.hid (ls_of_own ho HR.out); clear ho hb; (have hlt := BD.out.lt; obtain ⟨d0, d1, d2⟩ := BD.out; go_wp2_with fail; clear d0 d1 d2 hlt))
  refine (s_Ints1 LA.out LB.out).mono ?_
  rintro e w1 ⟨rfl, hb⟩
  (have BD := Lib.hid (BD.out.keep hb BD.out.lt); have HB := Lib.hid (below_then HB.out hb); (try have LA := Lib.hid (LA.out.keep hb)); (try have LB := Lib.hid (LB.out.keep hb)); (try have LC := Lib.hid (LC.out.keep hb)); (try have LD := Lib.hid (LD.out.keep hb)))
  clear hb
  go_wp2_with fail
  refine (s_Ints1 LC.out LD.out).mono ?_
  rintro e w1 ⟨rfl, hb⟩
  (have BD := Lib.hid (BD.out.keep hb BD.out.lt); have HB := Lib.hid (below_then HB.out hb); (try have LA := Lib.hid (LA.out.keep hb)); (try have LB := Lib.hid (LB.out.keep hb)); (try have LC := Lib.hid (LC.out.keep hb)); (try have LD := Lib.hid (LD.out.keep hb)))
  clear hb
  go_wp2_with fail
  go_returns
  exact ⟨rfl, HB.out⟩
theorem V3.run_len {d : V3} (axis m long : Int) (torus : Bool) : (d.runV axis m long torus).length ≤ 16 := by
  unfold V3.runV
  split
  · next h =>
    have h1 : d.askE axis m = 0 := by
      have := h.1
      unfold V3.runE at this
      split at this
      · assumption
      · next h2 => exact absurd this h2
    have h2 : long ≤ d.at axis.toNat := by
      have := h.1
      rw [V3.runE, if_pos h1] at this
      split at this
      · next h => exact h.2
      · cases this
    obtain ⟨hd, hr, _⟩ := V3.askE_0 h1
    rw [sorted_len, V3.links_len]
    unfold V3.may at hd
    have hc : axis = 0 ∨ axis = 1 ∨ axis = 2 := by omega
    rcases hc with rfl | rfl | rfl
    · change long ≤ d.x at h2
      cases torus
      · show (long - 1).toNat ≤ 16; omega
      · show (d.x).toNat ≤ 16; omega
    · change long ≤ d.y at h2
      cases torus
      · show (long - 1).toNat ≤ 16; omega
      · show (d.y).toNat ≤ 16; omega
    · change long ≤ d.z at h2
      cases torus
      · show (long - 1).toNat ≤ 16; omega
      · show (d.z).toNat ≤ 16; omega
  · exact Nat.zero_le _
theorem law05_WireTells (d : V3) (axis m link long : Int) (torus : Bool) (w : World) :
    Calls Try.prog 6 #[.agg #[.int .i64 d.x, .int .i64 d.y, .int .i64 d.z], .int .i64 axis, .int .i64 m, .int .i64 link, .int .i64 long, .bool torus] w (RB w (.bool true)) :=
  wireTells_core d axis m link long torus _ _ _ _ _ _ _ _ _ _ _ _ (by have := V3.line_len (d := d) axis m; omega) (by have := V3.run_len (d := d) axis m long torus; omega) w
    (Lib.hid fun W => wire_Many d W) (Lib.hid fun W => ref05_Many d W) (Lib.hid fun W => wire_Link d axis m W) (Lib.hid fun W => ref05_Link d axis m W) (Lib.hid fun W => wire_Ends d link W) (Lib.hid fun W => ref05_Ends d link W)
    (Lib.hid fun W => wire_Line d axis m W) (Lib.hid fun W => ref05_Line d axis m W) (Lib.hid fun W => wire_Run d axis m long torus W) (Lib.hid fun W => ref05_Run d axis m long torus W)

set_option maxRecDepth 100000 in set_option maxHeartbeats 4000000 in
theorem lift_wireTells (os : Os) (started : os.Started) (H : Type) (enc : TypeId × Value → H) :
    ReturnsInHanded {} Try.checked os 6 .any (Rows.wireTellsSpec.pre6 enc Try.prog Try.f6 Rows.wireTellsRow.domain false) (Rows.wireTellsSpec.post enc Try.prog Try.f6 false true false false) := by
  refine returnsInHanded_of_change (C := Try.checked) ownKnob0 started (by kernel_rfl) Try.func6
    (ChangeSpec.witness6 (enc := enc) (C := Try.checked) false ⟨#[], #[.agg #[.int .i64 0, .int .i64 0, .int .i64 0], .int .i64 0, .int .i64 0, .int .i64 0, .int .i64 0, .bool false], []⟩ 8 (by kernel_rfl) (by kernel_rfl) (by kernel_rfl) (by kernel_rfl)) ?_
  intro W base args ds gs before hval0 hW hcnd _
  have hval : ∀ (j : Nat) t v, Try.f6.params[j]? = some t → args[j]? = some v → Value.okWide Try.prog W .any base t v := hval0
  have hW' := hW
  obtain ⟨p, q, hA0, hV, rfl, hfz, hnd⟩ := hW
  have hA : DataW.TrodAll enc Try.prog W 0 (fun _ => true) true Try.f6.params.toList args.toList ds p := hA0
  rw [Try.params6] at hA hval
  have hK := hA
  obtain ⟨v0, vs0, d0, ds0, p0, q0, hargs, rfl, rfl, h0, r0⟩ := trodAll_cons hA
  obtain ⟨v1, vs1, d1, ds1, p1, q1, rfl, rfl, rfl, h1, r1⟩ := trodAll_cons r0
  obtain ⟨v2, vs2, d2, ds2, p2, q2, rfl, rfl, rfl, h2, r2⟩ := trodAll_cons r1
  obtain ⟨v3, vs3, d3, ds3, p3, q3, rfl, rfl, rfl, h3, r3⟩ := trodAll_cons r2
  obtain ⟨v4, vs4, d4, ds4, p4, q4, rfl, rfl, rfl, h4, r4⟩ := trodAll_cons r3
  obtain ⟨v5, vs5, d5, ds5, p5, q5, rfl, rfl, rfl, h5, r5⟩ := trodAll_cons r4
  obtain ⟨rfl, rfl, rfl⟩ := trodAll_nil r5
  obtain rfl : args = #[v0, v1, v2, v3, v4, v5] := by cases args; simp_all
  obtain ⟨d, rfl⟩ := open_dims (hval 0 _ v0 rfl rfl)
  obtain ⟨axis, rfl⟩ := okWide_int Try.underlying3 (hval 1 _ v1 rfl rfl)
  obtain ⟨m, rfl⟩ := okWide_int Try.underlying3 (hval 2 _ v2 rfl rfl)
  obtain ⟨link, rfl⟩ := okWide_int Try.underlying3 (hval 3 _ v3 rfl rfl)
  obtain ⟨long, rfl⟩ := okWide_int Try.underlying3 (hval 4 _ v4 rfl rfl)
  obtain ⟨torus, rfl⟩ := okWide_bool Try.underlying4 (hval 5 _ v5 rfl rfl)
  obtain ⟨rfl, rfl⟩ := trodVars_none hV
  clear hA0 hval0
  simp only [List.append_nil] at hW' hK
  refine (law05_WireTells d axis m link long torus W).mono fun e W' ⟨he, bel⟩ => ?_
  subst he
  refine ⟨_, rfl, _, _, _, [], _, [], hW', trodAll_mk1 (shut_bool Try.underlying4 _), trodAll_below bel _ _ _ _ ?_ hK, rfl, bel.frame _, fun h => by cases h⟩
  intro t ht
  simp at ht <;> (rcases ht with rfl | rfl | rfl | rfl | rfl | rfl <;> exact ⟨by kernel_rfl, of_decide_eq_true (by kernel_rfl)⟩)

theorem holds_wireTells : Rows.wireTellsRow.holds Try.pinned (OpenSpec.ofChange Rows.wireTellsSpec) :=
  OpenClaim.holds_of_wide 6 Try.f6 rfl rfl rfl rfl rfl rfl rfl ⟨rfl, rfl, rfl, rfl, rfl⟩ rfl rfl rfl rfl rfl (by kernel_rfl) Try.func6 (by kernel_rfl)
    (of_decide_eq_true (by kernel_rfl)) (by unfold Func.isWrapper; first | (rw [if_pos (by decide +kernel)]; kernel_rfl) | (rw [if_neg (by decide +kernel)]; exact ⟨rfl, rfl⟩))
    (fun os started H enc _ => lift_wireTells os started H enc)

theorem WireTells_holds : Rows.WireTellsSaid := holds_wireTells
end Go.Proofs.Ytpooieghlceefaa
