/- PlacePasses: a place passes none of its own, and some just if a torus does not take its axis whole: the call returns true. -/
import Derived.Test.YthabpiphfaedaaaPasses2
import Derived.Test.YthabpiphfaedaaaPassLaw
import Derived.Test.YthabpiphfaedaaaPlApart
import Derived.Test.YthabpiphfaedaaaBoxHas
import Derived.Test.YthabpiphfaedaaaRowPlace
namespace Go.Proofs.Ythabpiphfaedaaa
open Go.ChangeShapes Go.WideShapes Go.ChangeAt Go.RowKit Go.Shelf

set_option maxRecDepth 100000 in set_option maxHeartbeats 4000000 in
theorem law06_PlacePasses (d : V3) (p : Pl) (w : World) : Calls Try.prog 3 #[.agg #[.int .i64 d.x, .int .i64 d.y, .int .i64 d.z], .agg #[.int .i64 p.b.b.x, .int .i64 p.b.b.y, .int .i64 p.b.b.z, .int .i64 p.b.s.x, .int .i64 p.b.s.y, .int .i64 p.b.s.z, .bool p.t0, .bool p.t1, .bool p.t2]] w (RB w (.bool true)) := by
  have H1 := Lib.hid (fun W => place_Passes d p W)
  by_cases hz : plChk d p = 0
  · obtain ⟨hd, hb, _, _⟩ := plChk_0 hz
    obtain ⟨f1, f2, f3⟩ := pass_facts hz
    have hpl : (passV d p).length ≤ 65536 := by
      rw [show passV d p = Lib.compact (sorted (outsOf d p (cabsV d p))) from if_pos hz]
      have h1 := Lib.compact_length_le (sorted (outsOf d p (cabsV d p)))
      rw [sorted_len] at h1
      have h2 := outsOf_len d p (cabsV d p)
      have h3 := cabsV_le hd hb
      omega
    have hch : chk d p.b = 0 := chk_of hd hb
    have HH := Lib.hid (fun x (hx : x ∈ passV d p) W => by
      have h2 := f2 x hx
      have h3 : hasE d p.b x = 0 := by rw [hasE, if_pos hch, if_pos h2.1]
      have h4 : hasB d p.b x = false := by rw [hasB, if_pos h3]; exact h2.2
      have := box_Has d p.b x W
      rw [h3, h4] at this
      exact this)
    have HS := Lib.hid (fun k => loose_succ d p k)
    have HF := Lib.hid f3
    have HR := Lib.hid f1
    rw [hz] at H1
    generalize passV d p = L at *
    clear hz hd hb f1 f2 f3 hch
    go_enter Try.func3, Try.ntmps3
    go_wp2_with fail
    refine (law06_alive _).mono ?_
    rintro e w1 ⟨rfl, hb⟩
    have BD := Lib.hid (((Blk.new w 23 #[.int .i64 d.x, .int .i64 d.y, .int .i64 d.z]).alloc (.cells #[.int .i64 p.b.b.x, .int .i64 p.b.b.y, .int .i64 p.b.b.z, .int .i64 p.b.s.x, .int .i64 p.b.s.y, .int .i64 p.b.s.z, .bool p.t0, .bool p.t1, .bool p.t2] 28)).below hb)
    have bp := (Blk.new (w.alloc (.cells #[.int .i64 d.x, .int .i64 d.y, .int .i64 d.z] 23)) 28 #[.int .i64 p.b.b.x, .int .i64 p.b.b.y, .int .i64 p.b.b.z, .int .i64 p.b.s.x, .int .i64 p.b.s.y, .int .i64 p.b.s.z, .bool p.t0, .bool p.t1, .bool p.t2]).below hb
    simp only [World.size_alloc] at bp
    have BP := Lib.hid bp
    have HB := Lib.hid (below_then (show Below w.heap.size w ((w.alloc (.cells #[.int .i64 d.x, .int .i64 d.y, .int .i64 d.z] 23)).alloc (.cells #[.int .i64 p.b.b.x, .int .i64 p.b.b.y, .int .i64 p.b.b.z, .int .i64 p.b.s.x, .int .i64 p.b.s.y, .int .i64 p.b.s.z, .bool p.t0, .bool p.t1, .bool p.t2] 28)) by (repeat (first | (with_reducible exact Below.refl _ _) | (with_reducible assumption) | (with_reducible refine below_alloc ?_ _) | (with_reducible refine below_drewN ?_ _) | (with_reducible refine Below.drew ?_) | (with_reducible refine below_then ?_ (by with_reducible assumption)) | (with_reducible refine Below.setCell ?_ (by go_size) _)))) hb)
    clear hb bp
    ((have d0 := (BD.out).cell 0 _ rfl; have d1 := (BD.out).cell 1 _ rfl; have d2 := (BD.out).cell 2 _ rfl); (have p0 := (BP.out).cell 0 _ rfl; have p1 := (BP.out).cell 1 _ rfl; have p2 := (BP.out).cell 2 _ rfl; have p3 := (BP.out).cell 3 _ rfl; have p4 := (BP.out).cell 4 _ rfl; have p5 := (BP.out).cell 5 _ rfl; have p6 := (BP.out).cell 6 _ rfl; have p7 := (BP.out).cell 7 _ rfl; have p8 := (BP.out).cell 8 _ rfl); go_wp2_with fail)
    refine (H1.out _).mono ?_
    rintro e w2 ⟨v1, rfl, o1, hb⟩
    obtain ⟨ba, ca, rfl, la, _⟩ := own_rd o1
    have LL := Lib.hid la
    (have BD := Lib.hid (BD.out.below hb); have BP := Lib.hid (BP.out.below hb); have HB := Lib.hid (below_then HB.out hb))
    clear hb o1 la
    (clear d0 d1 d2 p0 p1 p2 p3 p4 p5 p6 p7 p8)
    go_wp2_with fail
    go_loopw [8, 9] (fun v i wr => ∃ k : Nat, k ≤ 3 ∧ i = .int .i64 k ∧ v = .bool (p.loose d k) ∧ ∃ q, wr = w2.drewN q) (fun _ i _ => 3 - (intOf i).toNat)
    case atStart => exact ⟨0, by omega, rfl, rfl, 0, rfl⟩
    case round =>
      obtain ⟨k, hk, rfl, rfl, q, rfl⟩ := hrel
      by_cases hlt : k < 3
      · have hcs := size_cell BP.out k hlt
        have hct := tor_cell BP.out k hlt
        have hcd := BD.out.dims.at k hlt
        have hs := HS.out k
        have hlp := BP.out.lt
        have hld := BD.out.lt
        generalize p.b.s.at k = S at *
        generalize d.at k = D at *
        generalize p.loose d k = z at *
        cases hz : z <;> cases ht : p.tor k
        all_goals
          rw [ht] at hct
          rw [hz, ht] at hs
          have HS2 := Lib.hid hs
          clear hz ht hs
          go_wp2_with (refine wp_region_quiet_lit (by kernel_rfl) (by kernel_rfl) ?_; (repeat (any_goals (first | go_big_quiet_step (fail) | quiet_step (fail) | (refine wpQuiet_step (fun K hK => ?_); go_simp; split <;> (refine hK _ ?_; clear hK K))))); all_goals (refine wpQuiet_nil ?_; intro _ hw'; obtain ⟨nq, hw''⟩ := hw'; subst hw''))
          all_goals
            go_roundw
            case rel => exact ⟨k + 1, by omega, by go_num, by rw [HS2.out]; simp, _, rfl⟩
            case measure => (simp [intOf] <;> omega)
      · obtain rfl : k = 3 := by omega
        rw [HF.out]
        obtain ⟨sm, hsm⟩ : ∃ sm, sm = decide (0 < L.length) := ⟨_, rfl⟩
        rw [← hsm]
        have HSM := Lib.hid hsm
        clear hsm
        go_wp2_with fail
        go_loopw [10] (fun i wr => ∃ j : Nat, j ≤ L.length ∧ i = .int .i64 j ∧ Below w2.heap.size w2 wr) (fun i _ => L.length - (intOf i).toNat)
        case atStart => exact ⟨0, Nat.zero_le _, rfl, below_drewN (Below.refl _ _) q⟩
        case round =>
          clear hk
          obtain ⟨j, hj, rfl, hbe⟩ := hrel
          have HBE := Lib.hid hbe
          by_cases hlj : j < L.length
          · obtain ⟨b0, off, e, hc0⟩ := LL.out j _ (getElem?_map_int hlj)
            subst e
            obtain ⟨x, hx⟩ : ∃ x, x = L[j] := ⟨_, rfl⟩
            have HX := Lib.hid (HH.out x (by rw [hx]; exact List.getElem_mem hlj))
            have hc := (hbe.cell (p := ⟨b0, off + j, none⟩) (World.block_lt_of_cell? w2 _ hc0)).trans hc0
            rw [← hx] at hc
            have hlb := World.block_lt_of_cell? w2 _ hc0
            have hzb := hbe.size
            have bd := BD.out.below hbe
            have bp := BP.out.below hbe
            (have d0 := (bd).cell 0 _ rfl; have d1 := (bd).cell 1 _ rfl; have d2 := (bd).cell 2 _ rfl)
            (have p0 := (bp).cell 0 _ rfl; have p1 := (bp).cell 1 _ rfl; have p2 := (bp).cell 2 _ rfl; have p3 := (bp).cell 3 _ rfl; have p4 := (bp).cell 4 _ rfl; have p5 := (bp).cell 5 _ rfl; have p6 := (bp).cell 6 _ rfl; have p7 := (bp).cell 7 _ rfl; have p8 := (bp).cell 8 _ rfl)
            have bdl := bd.lt
            have bpl := bp.lt
            have hbl : b0 < wr.heap.size := Nat.lt_of_lt_of_le hlb hzb
            have HXJ := Lib.hid hx
            clear bd bp hbe hc0 hlb hx
            have HX2 := Lib.hid (fun (y : Aft wr) => Calls.aft_of (x := y) (HX.out y.to))
            go_wp2_with fail
            (refine wp_region_aft (by kernel_rfl) (by kernel_rfl) ?_; (repeat (any_goals (first | go_big_quiet_step ((go_at_call 10; with_reducible exact HX2.out _)) | quiet_step ((go_at_call 10; with_reducible exact HX2.out _)) | (refine wpQuiet_step (fun K hK => ?_); go_simp; split <;> (refine hK _ ?_; clear hK K))))); all_goals (refine wpQuiet_nil ?_; intro wq hw'; obtain ⟨x1, hx1⟩ := hw'; have hbq := x1.h; rw [← hx1] at hbq; clear hx1 x1))
            all_goals
              have hb3 := hbq
              have hb3' := hbq
              obtain ⟨w3, hw3⟩ : ∃ w3, w3 = wq := ⟨_, rfl⟩
              subst hw3
              have HB3 := Lib.hid (HBE.out.trans (hbq.mono hzb))
              clear hbq hb3 hb3' HX2 d0 d1 d2 p0 p1 p2 p3 p4 p5 p6 p7 p8 hc bdl bpl
              by_cases h0 : j = 0
              · subst h0
                go_wp2_with (refine wp_region_quiet_lit (by kernel_rfl) (by kernel_rfl) ?_; (repeat (any_goals (first | go_big_quiet_step (fail) | quiet_step (fail) | (refine wpQuiet_step (fun K hK => ?_); go_simp; split <;> (refine hK _ ?_; clear hK K))))); all_goals (refine wpQuiet_nil ?_; intro _ hw'; obtain ⟨nq, hw''⟩ := hw'; subst hw''))
                all_goals
                  go_roundw
                  case rel => exact ⟨0 + 1, by omega, by go_num, by first | exact HB3.out | exact below_drewN HB3.out _⟩
                  case measure => (simp [intOf] <;> omega)
              · obtain ⟨i, rfl⟩ : ∃ i, j = i + 1 := ⟨j - 1, by omega⟩
                obtain ⟨y, hy⟩ : ∃ y, y = L[i]'(by omega) := ⟨_, rfl⟩
                have hlt2 : y < x := by rw [hy, HXJ.out]; exact List.pairwise_iff_getElem.1 HR.out i (i + 1) (by omega) hlj (by omega)
                obtain ⟨b1, o1, e1, c1⟩ := LL.out i _ (getElem?_map_int (show i < L.length by omega))
                obtain ⟨b2, o2, e2, c2⟩ := LL.out (i + 1) _ (getElem?_map_int hlj)
                rw [← hy] at c1
                rw [← HXJ.out] at c2
                cases e1
                cases e2
                have f1 := (HB3.out.cell (p := ⟨b0, off + i, none⟩) (World.block_lt_of_cell? w2 _ c1)).trans c1
                have f2 := (HB3.out.cell (p := ⟨b0, off + (i + 1), none⟩) (World.block_lt_of_cell? w2 _ c2)).trans c2
                have hl3 : b0 < w3.heap.size := World.block_lt_of_cell? w3 _ f1
                have hge : decide (x ≤ y) = false := decide_eq_false (by omega)
                have hci : ((i + 1 : Nat) : Int) - 1 = (i : Int) := by omega
                clear c1 c2 hy h0
                go_wp2_with (refine wp_region_quiet_lit (by kernel_rfl) (by kernel_rfl) ?_; (repeat (any_goals (first | go_big_quiet_step (fail) | quiet_step (fail) | (refine wpQuiet_step (fun K hK => ?_); go_simp; split <;> (refine hK _ ?_; clear hK K))))); all_goals (refine wpQuiet_nil ?_; intro _ hw'; obtain ⟨nq, hw''⟩ := hw'; subst hw''))
                all_goals
                  go_roundw
                  case rel => exact ⟨i + 1 + 1, by omega, by go_num, by first | exact HB3.out | exact below_drewN HB3.out _⟩
                  case measure => (simp [intOf] <;> omega)
          · obtain rfl : j = L.length := by omega
            clear hbe
            go_wp2_with fail
            go_returns
            exact ⟨by rw [HSM.out]; simp, HB.out.trans (HBE.out.mono (HB.out.size))⟩
  · have hv : passV d p = [] := if_neg hz
    have hy : (plChk d p != 0) = true := by simpa using hz
    rw [hv] at H1
    generalize plChk d p = E at *
    clear hz hv
    go_enter Try.func3, Try.ntmps3
    go_wp2_with fail
    refine (law06_alive _).mono ?_
    rintro e w1 ⟨rfl, hb⟩
    have BD := Lib.hid (((Blk.new w 23 #[.int .i64 d.x, .int .i64 d.y, .int .i64 d.z]).alloc (.cells #[.int .i64 p.b.b.x, .int .i64 p.b.b.y, .int .i64 p.b.b.z, .int .i64 p.b.s.x, .int .i64 p.b.s.y, .int .i64 p.b.s.z, .bool p.t0, .bool p.t1, .bool p.t2] 28)).below hb)
    have bp := (Blk.new (w.alloc (.cells #[.int .i64 d.x, .int .i64 d.y, .int .i64 d.z] 23)) 28 #[.int .i64 p.b.b.x, .int .i64 p.b.b.y, .int .i64 p.b.b.z, .int .i64 p.b.s.x, .int .i64 p.b.s.y, .int .i64 p.b.s.z, .bool p.t0, .bool p.t1, .bool p.t2]).below hb
    simp only [World.size_alloc] at bp
    have BP := Lib.hid bp
    have HB := Lib.hid (below_then (show Below w.heap.size w ((w.alloc (.cells #[.int .i64 d.x, .int .i64 d.y, .int .i64 d.z] 23)).alloc (.cells #[.int .i64 p.b.b.x, .int .i64 p.b.b.y, .int .i64 p.b.b.z, .int .i64 p.b.s.x, .int .i64 p.b.s.y, .int .i64 p.b.s.z, .bool p.t0, .bool p.t1, .bool p.t2] 28)) by (repeat (first | (with_reducible exact Below.refl _ _) | (with_reducible assumption) | (with_reducible refine below_alloc ?_ _) | (with_reducible refine below_drewN ?_ _) | (with_reducible refine Below.drew ?_) | (with_reducible refine below_then ?_ (by with_reducible assumption)) | (with_reducible refine Below.setCell ?_ (by go_size) _)))) hb)
    clear hb bp
    ((have d0 := (BD.out).cell 0 _ rfl; have d1 := (BD.out).cell 1 _ rfl; have d2 := (BD.out).cell 2 _ rfl); (have p0 := (BP.out).cell 0 _ rfl; have p1 := (BP.out).cell 1 _ rfl; have p2 := (BP.out).cell 2 _ rfl; have p3 := (BP.out).cell 3 _ rfl; have p4 := (BP.out).cell 4 _ rfl; have p5 := (BP.out).cell 5 _ rfl; have p6 := (BP.out).cell 6 _ rfl; have p7 := (BP.out).cell 7 _ rfl; have p8 := (BP.out).cell 8 _ rfl); go_wp2_with fail)
    refine (H1.out _).mono ?_
    rintro e w2 ⟨v1, rfl, o1, hb⟩
    obtain ⟨ba, ca, rfl, _, _⟩ := own_rd o1
    have HB3 := below_then HB.out hb
    clear hb o1
    (clear d0 d1 d2 p0 p1 p2 p3 p4 p5 p6 p7 p8)
    go_wp2_with fail
    go_returns
    exact ⟨rfl, HB3⟩
set_option maxRecDepth 100000 in set_option maxHeartbeats 4000000 in
theorem lift_placePasses (os : Os) (started : os.Started) (H : Type) (enc : TypeId × Value → H) :
    ReturnsInHanded {} Try.checked os 3 .any (Rows.placePassesSpec.pre6 enc Try.prog Try.f3 Rows.placePassesRow.domain false) (Rows.placePassesSpec.post enc Try.prog Try.f3 false true false false) := by
  refine returnsInHanded_of_change (C := Try.checked) ownKnob0 started (by kernel_rfl) Try.func3
    (ChangeSpec.witness6 (enc := enc) (C := Try.checked) false ⟨#[], #[.agg #[.int .i64 0, .int .i64 0, .int .i64 0], .agg #[.int .i64 0, .int .i64 0, .int .i64 0, .int .i64 0, .int .i64 0, .int .i64 0, .bool false, .bool false, .bool false]], []⟩ 8 (by kernel_rfl) (by kernel_rfl) (by kernel_rfl) (by kernel_rfl)) ?_
  intro W base args ds gs before hval0 hW hcnd _
  have hval : ∀ (j : Nat) t v, Try.f3.params[j]? = some t → args[j]? = some v → Value.okWide Try.prog W .any base t v := hval0
  have hW' := hW
  obtain ⟨p, q, hA0, hV, rfl, hfz, hnd⟩ := hW
  have hA : DataW.TrodAll enc Try.prog W 0 (fun _ => true) true Try.f3.params.toList args.toList ds p := hA0
  rw [Try.params3] at hA hval
  have hK := hA
  obtain ⟨v0, vs0, d0, ds0, p0, q0, hargs, rfl, rfl, h0, r0⟩ := trodAll_cons hA
  obtain ⟨v1, vs1, d1, ds1, p1, q1, rfl, rfl, rfl, h1, r1⟩ := trodAll_cons r0
  obtain ⟨rfl, rfl, rfl⟩ := trodAll_nil r1
  obtain rfl : args = #[v0, v1] := by cases args; simp_all
  obtain ⟨d, rfl⟩ := open_dims (hval 0 _ v0 rfl rfl)
  obtain ⟨p, rfl⟩ := open_place (hval 1 _ v1 rfl rfl)
  obtain ⟨rfl, rfl⟩ := trodVars_none hV
  clear hA0 hval0
  simp only [List.append_nil] at hW' hK
  refine (law06_PlacePasses d p W).mono fun e W' ⟨he, bel⟩ => ?_
  subst he
  refine ⟨_, rfl, _, _, _, [], _, [], hW', trodAll_mk1 (shut_bool Try.underlying4 _), trodAll_below bel _ _ _ _ ?_ hK, rfl, bel.frame _, fun h => by cases h⟩
  intro t ht
  simp at ht <;> (rcases ht with rfl | rfl <;> exact ⟨by kernel_rfl, of_decide_eq_true (by kernel_rfl)⟩)

theorem holds_placePasses : Rows.placePassesRow.holds Try.pinned (OpenSpec.ofChange Rows.placePassesSpec) :=
  OpenClaim.holds_of_wide 3 Try.f3 rfl rfl rfl rfl rfl rfl rfl ⟨rfl, rfl, rfl, rfl, rfl⟩ rfl rfl rfl rfl rfl (by kernel_rfl) Try.func3 (by kernel_rfl)
    (of_decide_eq_true (by kernel_rfl)) (by unfold Func.isWrapper; first | (rw [if_pos (by decide +kernel)]; kernel_rfl) | (rw [if_neg (by decide +kernel)]; exact ⟨rfl, rfl⟩))
    (fun os started H enc _ => lift_placePasses os started H enc)

theorem PlacePasses_holds : Rows.PlacePassesSaid := holds_placePasses
end Go.Proofs.Ythabpiphfaedaaa
