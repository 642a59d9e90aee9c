/- CalAsks: whether a span is free, who has a moment, and the first moment from which something is free, are the document's: the call returns true. -/
import Derived.Test.YtfikgjcmnooglaaCalLaw
import Derived.Test.YtfikgjcmnooglaaCal8
import Derived.Test.YtfikgjcmnooglaaRowCal
import Derived.Test.YtfikgjcmnooglaaCopyE
namespace Go.Proofs.Ytfikgjcmnooglaa
open Go.ChangeShapes Go.WideShapes Go.ChangeAt Go.RowKit Go.Shelf

theorem infoSlot : (Try.prog.info? 57).map (fun i => (i.zero, i.size, i.bytes)) = some (some (.agg #[.int .i64 0, .int .i64 0, .int .i64 0]), 3, 24) := by kernel_rfl
theorem slc_one (c : List Sl) : ∀ u ∈ slc c, u.oneCell' = true := by
  intro u hu
  unfold slc at hu
  obtain ⟨s, _, h⟩ := List.mem_flatMap.1 hu
  simp [Sl.cells] at h
  rcases h with rfl | rfl | rfl <;> rfl
theorem cal_of_own {W : World} {B : Nat} {v : Value} {c : List Sl} (h : W.ownsRow B 57 3 v c.length (slc c)) (hl : c.length ≤ 1000000) :
    ∃ base cap, v = .slice base c.length cap ∧ CIn W base c ∧ c.length ≤ cap ∧ (base = none → cap = 0) := by
  have h' := h
  rcases h.2 with ⟨rfl, hz⟩ | ⟨g, cap, cur, rfl, _⟩
  · obtain ⟨base, cap, e, rd, hc⟩ := own_rd h'
    obtain rfl : c = [] := List.eq_nil_of_length_eq_zero hz
    cases e
    exact ⟨none, 0, rfl, ⟨rd, hl⟩, Nat.le_refl _, fun _ => rfl⟩
  · obtain ⟨base, cap', e, rd, hc⟩ := own_rd h'
    cases e
    exact ⟨_, cap, rfl, ⟨rd, hl⟩, hc, fun h => by cases h⟩

theorem cal_Next (base : Option Addr) (cap : Nat) (c : List Sl) (fr long : Int) (w : World) (hc : CIn w base c) (hcap : c.length ≤ cap) (hb0 : base = none → cap = 0) (h3 : long ≤ 9223372036854775807) :
    Calls Try.prog 23 #[.slice base c.length cap, .int .i64 fr, .int .i64 long] w (RB w (.tuple #[.int .i64 (nextV c fr long), .int .i64 (nextE c fr long)])) := by
  by_cases he : calE c = 0
  · by_cases ha : (0 ≤ fr ∧ fr < 1099511627776) ∧ 1 ≤ long
    · have hal := aft_le c fr
      by_cases hlt : aft c fr < c.length
      · obtain ⟨b, off, rfl, _⟩ := hc.at hlt
        exact cal_Next_in b off cap c fr long w hc hcap he ha.1.1 ha.1.2 ha.2 h3 hlt
      · exact cal_Next_end base cap c fr long w hc hcap hb0 he ha.1.1 ha.1.2 ha.2 h3 (by omega)
    · exact cal_Next_arg base cap c fr long w hc he ha
  · exact cal_Next_bad base cap c fr long w hc he

set_option maxRecDepth 100000 in set_option maxHeartbeats 4000000 in
theorem own_empty (w : World) (o : Obj) (e : TypeId) (size : Nat) : ((w.alloc o).alloc (.cells #[] e)).ownsRow (w.heap.size + 1) e size (.slice (some ⟨w.heap.size + 1, 0, none⟩) 0 0) 0 [] :=
  ⟨by simp, .inr ⟨w.heap.size + 1, 0, #[], rfl, Nat.le_refl _, (show ((w.heap.push o).push (.cells #[] e))[w.heap.size + 1]? = _ by rw [show w.heap.size + 1 = (w.heap.push o).size by rw [Array.size_push]]; exact Array.getElem?_push_size), Nat.le_refl _, Nat.zero_le _, by simp, by simp⟩⟩
/-- A span lies in a block. -/
structure SpAt (w : World) (B : Nat) (f t : Int) : Prop where
  c0 : w.cell? ⟨B, 0, none⟩ = some (.int .i64 f)
  c1 : w.cell? ⟨B, 1, none⟩ = some (.int .i64 t)
  lt : B < w.heap.size
theorem SpAt.keep {w W : World} {B : Nat} {f t : Int} (h : SpAt w B f t) (hb : Below w.heap.size w W) : SpAt W B f t := by
  obtain ⟨hc, _⟩ := bcell hb
  exact ⟨by rw [hc _ _ h.lt]; exact h.c0, by rw [hc _ _ h.lt]; exact h.c1, Nat.lt_of_lt_of_le h.lt hb.size⟩

set_option maxRecDepth 100000 in set_option maxHeartbeats 4000000 in
theorem core_CalAsks (ba : Option Addr) (ca : Nat) (c : List Sl) (f t a long : Int) (w : World) (hr : Rd w ba (slc c)) (hna : ba = none → c.length = 0 ∧ ca = 0) (h3 : long ≤ 9223372036854775807) (h1 : c.length ≤ 300 ∨ (4096 < c.length ∧ c.length ≤ 5000)) :
    Calls Try.prog 3 #[.slice ba c.length ca, .agg #[.int .i64 f, .int .i64 t], .int .i64 a, .int .i64 long] w (RB w (.bool true)) := by
  obtain ⟨i0, hi, iz0, iz1, iz2⟩ := info_parts infoSlot
  have HC := Lib.hid (CIn.mk hr (by omega))
  have h5 : c.length ≤ 5000 := by omega
  have hg1 : (decide (300 < c.length) && decide (c.length ≤ 4096)) = false := by
    rw [Bool.and_eq_false_iff, decide_eq_false_iff_not, decide_eq_false_iff_not]; omega
  have C1 := Lib.hid (fun base cap W h => cal_Free base cap c f t W h)
  have D1 := Lib.hid (fun base cap W h => ref08_Free base cap c f t W h)
  have C2 := Lib.hid (fun base cap W h => cal_At base cap c a W h)
  have D2 := Lib.hid (fun base cap W h => ref08_At base cap c a W h)
  have C3 := Lib.hid (fun base cap W h hcap hb0 => cal_Next base cap c a long W h hcap hb0 h3)
  have D3 := Lib.hid (fun base cap W h => ref08_Next base cap c a long W h h3)
  have D4 := Lib.hid (fun ba bb ca cb W ha hb => Calls.rb_eq (ref08_Same ba bb ca cb c c W ha hb) (show Value.bool (decide (c = c)) = .bool true by simp))
  rw [clearV_eq] at D1
  rw [nrE_eq, nrV_eq] at D3
  generalize freeV c f t = x1 at *
  generalize freeE c f t = x2 at *
  generalize atO c a = x3 at *
  generalize atE c a = x4 at *
  generalize nextV c a long = x5 at *
  generalize nextE c a long = x6 at *
  clear hr
  go_enter Try.func3, Try.ntmps3
  go_upto_region 3 with fail
  all_goals
    go_wp2_with (at_builtin; refine wpList_copyE _ rfl _ _ 22 rfl 57 i0 (.agg #[.int .i64 0, .int .i64 0, .int .i64 0]) 3 24 Try.underlying22 hi iz0 iz1 iz2 rfl (by decide) (by decide) (w.heap.size + 1) (by simp [go_sem]) _ rfl (own_empty w _ _ _) ba c.length ca (slc c) rfl (slc_len c) hna (HC.out.rd.keep (by (repeat (first | (with_reducible exact Below.refl _ _) | (with_reducible assumption) | (with_reducible refine below_alloc ?_ _) | (with_reducible refine below_drewN ?_ _) | (with_reducible refine Below.drew ?_) | (with_reducible refine below_then ?_ (by with_reducible assumption)) | (with_reducible refine Below.setCell ?_ (by go_size) _))))) (slc_one c) (by omega) ?_)
    intro v' w1 r1 hb1
    have hz1 := hb1.size
    simp at hz1
    have hb0 : Below w.heap.size w w1 := (show Below w.heap.size w _ by (repeat (first | (with_reducible exact Below.refl _ _) | (with_reducible assumption) | (with_reducible refine below_alloc ?_ _) | (with_reducible refine below_drewN ?_ _) | (with_reducible refine Below.drew ?_) | (with_reducible refine below_then ?_ (by with_reducible assumption)) | (with_reducible refine Below.setCell ?_ (by go_size) _)))).trans (hb1.mono (Nat.le_succ _))
    have HB := Lib.hid hb0
    have HSp := Lib.hid (show SpAt w1 w.heap.size f t from ⟨(hb1.cell (p := ⟨w.heap.size, 0, none⟩) (Nat.lt_succ_self _)).trans (by simp [go_sem]), (hb1.cell (p := ⟨w.heap.size, 1, none⟩) (Nat.lt_succ_self _)).trans (by simp [go_sem]), by omega⟩)
    obtain ⟨ob, oc, rfl, so, hoc, hob⟩ := cal_of_own r1 (by omega)
    have HO := Lib.hid so
    have HC := Lib.hid (HC.out.keep hb0)
    clear so r1 hb1 hb0
    (obtain ⟨s0, s1, s2⟩ := HSp.out; go_wp2_with fail)
    refine (C1.out ob oc _ HO.out).mono ?_
    rintro e w2 ⟨rfl, hb1⟩
    (have HC := Lib.hid (HC.out.keep hb1); have HO := Lib.hid (HO.out.keep hb1); have HSp := Lib.hid (HSp.out.keep hb1); have HB := Lib.hid (below_then HB.out hb1))
    clear hb1 s0 s1 s2
    (obtain ⟨s0, s1, s2⟩ := HSp.out; go_wp2_with fail)
    refine (D1.out ba ca _ HC.out).mono ?_
    rintro e w3 ⟨rfl, hb1⟩
    (have HC := Lib.hid (HC.out.keep hb1); have HO := Lib.hid (HO.out.keep hb1); have HSp := Lib.hid (HSp.out.keep hb1); have HB := Lib.hid (below_then HB.out hb1))
    clear hb1 s0 s1 s2
    (obtain ⟨s0, s1, s2⟩ := HSp.out; go_wp2_with fail)
    refine (C2.out ob oc _ HO.out).mono ?_
    rintro e w4 ⟨rfl, hb1⟩
    (have HC := Lib.hid (HC.out.keep hb1); have HO := Lib.hid (HO.out.keep hb1); have HSp := Lib.hid (HSp.out.keep hb1); have HB := Lib.hid (below_then HB.out hb1))
    clear hb1 s0 s1 s2
    go_wp2_with fail
    refine (D2.out ba ca _ HC.out).mono ?_
    rintro e w5 ⟨rfl, hb1⟩
    (have HC := Lib.hid (HC.out.keep hb1); have HO := Lib.hid (HO.out.keep hb1); have HSp := Lib.hid (HSp.out.keep hb1); have HB := Lib.hid (below_then HB.out hb1))
    clear hb1
    go_wp2_with fail
    refine (C3.out ob oc _ HO.out hoc hob).mono ?_
    rintro e w6 ⟨rfl, hb1⟩
    (have HC := Lib.hid (HC.out.keep hb1); have HO := Lib.hid (HO.out.keep hb1); have HSp := Lib.hid (HSp.out.keep hb1); have HB := Lib.hid (below_then HB.out hb1))
    clear hb1
    go_wp2_with fail
    refine (D3.out ba ca _ HC.out).mono ?_
    rintro e w7 ⟨rfl, hb1⟩
    (have HC := Lib.hid (HC.out.keep hb1); have HO := Lib.hid (HO.out.keep hb1); have HSp := Lib.hid (HSp.out.keep hb1); have HB := Lib.hid (below_then HB.out hb1))
    clear hb1
    go_wp2_with fail
    refine (D4.out ob ba oc ca _ HO.out HC.out).mono ?_
    rintro e w8 ⟨rfl, hb1⟩
    (have HC := Lib.hid (HC.out.keep hb1); have HO := Lib.hid (HO.out.keep hb1); have HSp := Lib.hid (HSp.out.keep hb1); have HB := Lib.hid (below_then HB.out hb1))
    go_wp2_with fail
    go_returns
    exact ⟨rfl, HB.out⟩

set_option maxRecDepth 100000 in set_option maxHeartbeats 4000000 in
theorem law08_CalAsks (ba : Option Addr) (ca : Nat) (c : List Sl) (f t a long : Int) (w : World) (hr : Rd w ba (slc c)) (hna : ba = none → c.length = 0 ∧ ca = 0) (h3 : long ≤ 9223372036854775807) :
    Calls Try.prog 3 #[.slice ba c.length ca, .agg #[.int .i64 f, .int .i64 t], .int .i64 a, .int .i64 long] w (RB w (.bool true)) := by
  by_cases h1 : c.length ≤ 300 ∨ (4096 < c.length ∧ c.length ≤ 5000)
  · exact core_CalAsks ba ca c f t a long w hr hna h3 h1
  · by_cases h2 : c.length ≤ 4096
    · have h4 : 300 < c.length := by omega
      clear h1
      go_enter Try.func3, Try.ntmps3
      go_wp2_with fail
      go_returns
      exact ⟨rfl, by (repeat (first | (with_reducible exact Below.refl _ _) | (with_reducible assumption) | (with_reducible refine below_alloc ?_ _) | (with_reducible refine below_drewN ?_ _) | (with_reducible refine Below.drew ?_) | (with_reducible refine below_then ?_ (by with_reducible assumption)) | (with_reducible refine Below.setCell ?_ (by go_size) _)))⟩
    · have h4 : 5000 < c.length := by omega
      clear h1
      go_enter Try.func3, Try.ntmps3
      go_wp2_with fail
      go_returns
      exact ⟨rfl, by (repeat (first | (with_reducible exact Below.refl _ _) | (with_reducible assumption) | (with_reducible refine below_alloc ?_ _) | (with_reducible refine below_drewN ?_ _) | (with_reducible refine Below.drew ?_) | (with_reducible refine below_then ?_ (by with_reducible assumption)) | (with_reducible refine Below.setCell ?_ (by go_size) _)))⟩

theorem int_top {H : Type} {enc : TypeId × Value → H} {P : Program} {W : World} {t : TypeId} {n : Int} {d : DataW H} {p : List MemPlace} (ht : P.underlying t = some (.int .i64)) (h : DataW.Trod enc P W 0 (fun _ => true) true t (.int .i64 n) d p) : n ≤ 9223372036854775807 := by
  obtain ⟨fuel, hf⟩ := h
  obtain ⟨m, e, _, hw⟩ := DataW.trod_int ht hf
  simp [Value.cells] at e
  subst e
  simp [Lit.wf, IntKind.max, IntKind.min, IntKind.signed, IntKind.bits] at hw
  omega
set_option maxRecDepth 100000 in set_option maxHeartbeats 4000000 in
theorem lift_calAsks (os : Os) (started : os.Started) (H : Type) (enc : TypeId × Value → H) :
    ReturnsInHanded {} Try.checked os 3 .any (Rows.calAsksSpec.pre6 enc Try.prog Try.f3 Rows.calAsksRow.domain false) (Rows.calAsksSpec.post enc Try.prog Try.f3 false true false false) := by
  refine returnsInHanded_of_change (C := Try.checked) ownKnob0 started (by kernel_rfl) Try.func3
    (ChangeSpec.witness6 (enc := enc) (C := Try.checked) false ⟨#[], #[.slice none 0 0, .agg #[.int .i64 0, .int .i64 0], .int .i64 0, .int .i64 0], []⟩ 8 (by kernel_rfl) (by kernel_rfl) (by kernel_rfl) (by kernel_rfl)) ?_
  intro W base args ds gs before hval0 hW hcnd _
  have hval : ∀ (j : Nat) t v, Try.f3.params[j]? = some t → args[j]? = some v → Value.okWide Try.prog W .any base t v := hval0
  have hW' := hW
  obtain ⟨p, q, hA0, hV, rfl, hfz, hnd⟩ := hW
  have hA : DataW.TrodAll enc Try.prog W 0 (fun _ => true) true Try.f3.params.toList args.toList ds p := hA0
  rw [Try.params3] at hA hval
  have hK := hA
  obtain ⟨v0, vs0, d0, ds0, p0, q0, hargs, rfl, rfl, h0, r0⟩ := trodAll_cons hA
  obtain ⟨v1, vs1, d1, ds1, p1, q1, rfl, rfl, rfl, h1, r1⟩ := trodAll_cons r0
  obtain ⟨v2, vs2, d2, ds2, p2, q2, rfl, rfl, rfl, h2, r2⟩ := trodAll_cons r1
  obtain ⟨v3, vs3, d3, ds3, p3, q3, rfl, rfl, rfl, h3, r3⟩ := trodAll_cons r2
  obtain ⟨rfl, rfl, rfl⟩ := trodAll_nil r3
  obtain rfl : args = #[v0, v1, v2, v3] := by cases args; simp_all
  obtain ⟨ba, c, ca, rfl, hc, _, hna⟩ := open_slots (hval 0 _ v0 rfl rfl) h0
  obtain ⟨f, t, rfl⟩ := open_span (hval 1 _ v1 rfl rfl)
  obtain ⟨a, rfl⟩ := okWide_int Try.underlying3 (hval 2 _ v2 rfl rfl)
  obtain ⟨long, rfl⟩ := okWide_int Try.underlying3 (hval 3 _ v3 rfl rfl)
  have hlg : long ≤ 9223372036854775807 := int_top Try.underlying3 h3
  obtain ⟨rfl, rfl⟩ := trodVars_none hV
  clear hA0 hval0
  simp only [List.append_nil] at hW' hK
  refine (law08_CalAsks ba ca c f t a long W hc hna hlg).mono fun e W' ⟨he, bel⟩ => ?_
  subst he
  refine ⟨_, rfl, _, _, _, [], _, [], hW', trodAll_mk1 (shut_bool Try.underlying4 _), trodAll_below bel _ _ _ _ ?_ hK, rfl, bel.frame _, fun h => by cases h⟩
  intro t ht
  simp at ht <;> (rcases ht with rfl | rfl | rfl | rfl <;> exact ⟨by kernel_rfl, of_decide_eq_true (by kernel_rfl)⟩)

theorem holds_calAsks : Rows.calAsksRow.holds Try.pinned (OpenSpec.ofChange Rows.calAsksSpec) :=
  OpenClaim.holds_of_wide 3 Try.f3 rfl rfl rfl rfl rfl rfl rfl ⟨rfl, rfl, rfl, rfl, rfl⟩ rfl rfl rfl rfl rfl (by kernel_rfl) Try.func3 (by kernel_rfl)
    (of_decide_eq_true (by kernel_rfl)) (by unfold Func.isWrapper; first | (rw [if_pos (by decide +kernel)]; kernel_rfl) | (rw [if_neg (by decide +kernel)]; exact ⟨rfl, rfl⟩))
    (fun os started H enc _ => lift_calAsks os started H enc)

theorem CalAsks_holds : Rows.CalAsksSaid := holds_calAsks
end Go.Proofs.Ytfikgjcmnooglaa
