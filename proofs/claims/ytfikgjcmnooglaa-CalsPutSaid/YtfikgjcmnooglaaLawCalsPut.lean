/- CalsPut: what is put is its owner's at each moment of the span, and no other owner's turns; it may be put just where nothing is busy; taken, all is as it was: the call returns true. -/
import Derived.Test.YtfikgjcmnooglaaPutWalk
import Derived.Test.YtfikgjcmnooglaaRowYard
namespace Go.Proofs.Ytfikgjcmnooglaa
open Go.ChangeShapes Go.WideShapes Go.ChangeAt Go.RowKit Go.Shelf

theorem cal_small {c : List Sl} (h : calE c = 0) : c.length ≤ 10000 := by have := (calE_ok h).2; omega
theorem calE_true {c : List Sl} (h : calE c = 0) : calOk c = true := by
  unfold calE at h
  split at h
  · assumption
  · cases h
theorem pair_fst {α β : Type} {p : α × β} {x : α} {y : β} (h : p = (x, y)) : p.1 = x ∧ p.2 = y := by subst h; exact ⟨rfl, rfl⟩
theorem law_put_yes (d : V3) (bn bl : Option Addr) (cn cl : Nat) (ns ls : List (List Sl)) (bm bk : Option Addr) (cm ck : Nat) (ms ks : List Nat) (ow ot a f t : Int) (w : World) (hn : CR w bn ns) (hl : CR w bl ls) (hs : (ns.length ≤ 1000 ∧ ∀ c ∈ ns, c.length ≤ 10000) ∧ (ls.length ≤ 1000 ∧ ∀ c ∈ ls, c.length ≤ 10000))
    (hG : ∀ W, CR W bn ns → CR W bl ls → Calls Try.prog 26 #[.agg #[.int .i64 d.x, .int .i64 d.y, .int .i64 d.z, (.slice bn ns.length cn), (.slice bl ls.length cl)]] W (RB W (.bool false))) (hm : SS w (.slice bm ms.length cm) ms) (hk : SS w (.slice bk ks.length ck) ks) (m1 : ms.length ≤ 100) (k1 : ks.length ≤ 100) (wm : W64 ms) (wk : W64 ks)
    (he : yPutE ⟨d, ns, ls⟩ ms ks ⟨f, t, ow⟩ = 0) :
    Calls Try.prog 15 #[.agg #[.int .i64 d.x, .int .i64 d.y, .int .i64 d.z, (.slice bn ns.length cn), (.slice bl ls.length cl)], .int .i64 ow, .slice bm ms.length cm, .slice bk ks.length ck, .agg #[.int .i64 f, .int .i64 t], .int .i64 a, .int .i64 ot] w (RB w (.bool true)) := by
  have hp := yPut_ok he
  have hM := Yd.ok_many hp.ok
  have hA := Yd.ok_all hp.ok
  have hL := Yd.ok_len hp.ok
  have hk3 : sChk ls.length ks = 0 := by rw [hL]; exact hp.k
  have cn0 := calAll_ok (a := ms) (s := ⟨f, t, ow⟩) hp.n0 hA.1
  have cl0 := calAll_ok (a := ks) (s := ⟨f, t, ow⟩) hp.l0 hA.2
  have hln : (calTo ms ⟨f, t, ow⟩ ns ns.length).length = ns.length := calTo_len ..
  have hll : (calTo ks ⟨f, t, ow⟩ ls ls.length).length = ls.length := calTo_len ..
  have hok' : Yd.okB ⟨d, calTo ms ⟨f, t, ow⟩ ns ns.length, calTo ks ⟨f, t, ow⟩ ls ls.length⟩ = true := by
    have h := hp.ok
    unfold Yd.okB at h ⊢
    simp only [Bool.and_eq_true, decide_eq_true_eq, List.all_eq_true] at h ⊢
    rw [hln, hll]
    exact ⟨h.1, h.2.1, h.2.2.1, fun c hc => calE_true (cn0 c hc), fun c hc => calE_true (cl0 c hc)⟩
  have hV : yPutV ⟨d, ns, ls⟩ ms ks ⟨f, t, ow⟩ = ⟨d, calTo ms ⟨f, t, ow⟩ ns ns.length, calTo ks ⟨f, t, ow⟩ ls ls.length⟩ := if_pos he
  have hb0 : busyE ⟨d, ns, ls⟩ f t = 0 := by unfold busyE; rw [hp.ok, if_pos rfl, okIf_yes hp.may.1]
  have hbV : busyV ⟨d, ns, ls⟩ f t = (whS (fun c => !clearB c f t) ns, whS (fun c => !clearB c f t) ls) := if_pos hb0
  have hE : ownE ⟨d, calTo ms ⟨f, t, ow⟩ ns ns.length, calTo ks ⟨f, t, ow⟩ ls ls.length⟩ a = ownE ⟨d, ns, ls⟩ a := by unfold ownE; rw [hok', hp.ok]
  have hz1 : yCutV ow 0 ⟨d, ns, ls⟩ = ⟨d, ns.map (cutV ow 0), ls.map (cutV ow 0)⟩ := if_pos hp.ok
  have hz2 : yCutV ow 0 ⟨d, calTo ms ⟨f, t, ow⟩ ns ns.length, calTo ks ⟨f, t, ow⟩ ls ls.length⟩ = ⟨d, ns.map (cutV ow 0), ls.map (cutV ow 0)⟩ := by
    rw [show yCutV ow 0 ⟨d, calTo ms ⟨f, t, ow⟩ ns ns.length, calTo ks ⟨f, t, ow⟩ ls ls.length⟩ = ⟨d, (calTo ms ⟨f, t, ow⟩ ns ns.length).map (cutV ow 0), (calTo ks ⟨f, t, ow⟩ ls ls.length).map (cutV ow 0)⟩ from if_pos hok']
    rw [calAll_cut (s := ⟨f, t, ow⟩) hp.n0 hA.1, calAll_cut (s := ⟨f, t, ow⟩) hp.l0 hA.2]
  have hch1 : Yd.chk ⟨d, ns, ls⟩ = 0 := by unfold Yd.chk; rw [hp.ok]; rfl
  have hch2 : Yd.chk ⟨d, calTo ms ⟨f, t, ow⟩ ns ns.length, calTo ks ⟨f, t, ow⟩ ls ls.length⟩ = 0 := by unfold Yd.chk; rw [hok']; rfl
  have hB1 := calAll_busy (s := ⟨f, t, ow⟩) hp.n0 hA.1 hM.1 hp.m wm hp.may
  have hB2 := calAll_busy (s := ⟨f, t, ow⟩) hp.l0 hA.2 hM.2 hk3 wk hp.may
  have hown : ∀ o, ownE ⟨d, ns, ls⟩ a = 0 → ownV ⟨d, ns, ls⟩ o a = (whS (ownB o a) ns, whS (ownB o a) ls) := fun o h => if_pos h
  have hown' : ∀ o, ownE ⟨d, ns, ls⟩ a = 0 → ownV ⟨d, calTo ms ⟨f, t, ow⟩ ns ns.length, calTo ks ⟨f, t, ow⟩ ls ls.length⟩ o a = (whS (ownB o a) (calTo ms ⟨f, t, ow⟩ ns ns.length), whS (ownB o a) (calTo ks ⟨f, t, ow⟩ ls ls.length)) := fun o h => if_pos (hE.trans h)
  have hsame : ∀ o, ¬ ((f ≤ a ∧ a < t) ∧ ow = o) → ownV ⟨d, ns, ls⟩ o a = ownV ⟨d, calTo ms ⟨f, t, ow⟩ ns ns.length, calTo ks ⟨f, t, ow⟩ ls ls.length⟩ o a := by
    intro o hno
    by_cases h0 : ownE ⟨d, ns, ls⟩ a = 0
    · obtain ⟨_, a0, a1⟩ := ownE_00 h0
      rw [hown o h0, hown' o h0, calAll_same (s := ⟨f, t, ow⟩) hp.n0 hA.1 a0 a1 o hno, calAll_same (s := ⟨f, t, ow⟩) hp.l0 hA.2 a0 a1 o hno]
    · rw [show ownV ⟨d, ns, ls⟩ o a = ([], []) from if_neg h0, show ownV ⟨d, calTo ms ⟨f, t, ow⟩ ns ns.length, calTo ks ⟨f, t, ow⟩ ls ls.length⟩ o a = ([], []) from if_neg (by rw [hE]; exact h0)]
  refine put_walk d bn bl cn cl ns ls bm bk cm ck ms ks ow ot a f t w hn hl hs hG hm hk m1 k1 ⟨d, calTo ms ⟨f, t, ow⟩ ns ns.length, calTo ks ⟨f, t, ow⟩ ls ls.length⟩ ⟨d, ns.map (cutV ow 0), ls.map (cutV ow 0)⟩
    (whS (fun c => !clearB c f t) ns) (whS (fun c => !clearB c f t) ls) _ _ _ _ _ _ _ _ (ownE ⟨d, ns, ls⟩ a)
    ⟨⟨by show (calTo ms ⟨f, t, ow⟩ ns ns.length).length ≤ 1000; rw [hln]; exact hs.1.1, fun c hc => cal_small (cn0 c hc)⟩, ⟨by show (calTo ks ⟨f, t, ow⟩ ls ls.length).length ≤ 1000; rw [hll]; exact hs.2.1, fun c hc => cal_small (cl0 c hc)⟩⟩
    ⟨⟨by show (ns.map (cutV ow 0)).length ≤ 1000; rw [List.length_map]; exact hs.1.1, fun c hc => by obtain ⟨x, hx, rfl⟩ := List.mem_map.1 hc; exact Nat.le_trans (cutV_len ow 0 x) (hs.1.2 x hx)⟩, ⟨by show (ls.map (cutV ow 0)).length ≤ 1000; rw [List.length_map]; exact hs.2.1, fun c hc => by obtain ⟨x, hx, rfl⟩ := List.mem_map.1 hc; exact Nat.le_trans (cutV_len ow 0 x) (hs.2.2 x hx)⟩⟩
    ?_ ?_ ?_ ?_ ?_ (fun W v h => by have := y_Owned h ow a; rw [hE] at this; exact this) (fun W v h => y_Owned h ow a) (fun W v h => by have := y_Owned h ot a; rw [hE] at this; exact this) (fun W v h => y_Owned h ot a) ?_ ?_ ?_ ?_ ?_ ?_
  · intro W v x y h ha hb
    have := y_Put ⟨f, t, ow⟩ h ha hb
    rw [he, hV] at this
    exact this
  · intro W v h
    have := y_Busy h f t
    rw [hbV, hb0] at this
    exact this
  · intro W x y h1 h2
    have := ss_Meet h1 h2 hB1.1
    rw [hB1.2] at this
    exact this
  · intro W x y h1 h2
    have := ss_Meet h1 h2 hB2.1
    rw [hB2.2, hL] at this
    exact this
  · intro W v h
    obtain ⟨b1, b2, j1, j2, rfl, g1, g2⟩ := h.ex
    have := cals_Check d b1 b2 j1 j2 (calTo ms ⟨f, t, ow⟩ ns ns.length) (calTo ks ⟨f, t, ow⟩ ls ls.length) W g1 g2
    rw [hch2] at this
    exact this
  · intro W v h
    have := y_Take h ow
    rw [hch2, hz2] at this
    exact this
  · intro W v h
    have := y_Take h ow
    rw [hch1, hz1] at this
    exact this
  · intro W x y h0 i1 i2 h1 h2
    obtain ⟨_, a0, a1⟩ := ownE_00 h0
    rw [hown ow h0] at h1
    have hq := calAll_own (s := ⟨f, t, ow⟩) hp.n0 hA.1 hM.1 hp.m wm a0 a1 ⟨i1, i2⟩
    have := ss_Or h1 h2 hq.1
    rw [show joinIf orW ns.length (whS (ownB ow a) ns) ms = _ from hq.2] at this
    rw [hown' ow h0]
    exact this
  · intro W x y h0 i1 i2 h1 h2
    obtain ⟨_, a0, a1⟩ := ownE_00 h0
    rw [hown ow h0] at h1
    have hq := calAll_own (s := ⟨f, t, ow⟩) hp.l0 hA.2 hM.2 hk3 wk a0 a1 ⟨i1, i2⟩
    have := ss_Or h1 h2 hq.1
    rw [show joinIf orW ls.length (whS (ownB ow a) ls) ks = _ from hq.2, hL] at this
    rw [hown' ow h0]
    exact this
  · intro h0 hno
    have := hsame ow (fun h => hno h.1)
    rw [this]
    exact ⟨rfl, rfl⟩
  · intro hne
    have := hsame ot (fun h => hne h.2.symm)
    rw [this]
    exact ⟨rfl, rfl⟩
theorem law09_CalsPut (d : V3) (bn bl : Option Addr) (cn cl : Nat) (ns ls : List (List Sl)) (bm bk : Option Addr) (cm ck : Nat) (ms ks : List Nat) (ow ot a f t : Int) (w : World) (hn : CR w bn ns) (hl : CR w bl ls)
    (hz : (ns.length * 24 ≤ reachBytes ∧ ∀ c ∈ ns, c.length * 24 ≤ reachBytes) ∧ (ls.length * 24 ≤ reachBytes ∧ ∀ c ∈ ls, c.length * 24 ≤ reachBytes))
    (hm : Rd w bm (wcells ms) ∧ W64 ms) (hk : Rd w bk (wcells ks) ∧ W64 ks) :
    Calls Try.prog 15 #[.agg #[.int .i64 d.x, .int .i64 d.y, .int .i64 d.z, (.slice bn ns.length cn), (.slice bl ls.length cl)], .int .i64 ow, .slice bm ms.length cm, .slice bk ks.length ck, .agg #[.int .i64 f, .int .i64 t], .int .i64 a, .int .i64 ot] w (RB w (.bool true)) := by
  have hG := fun W (h1 : CR W bn ns) (h2 : CR W bl ls) => great_reach d bn bl cn cl ns ls W h1 h2 hz
  cases hg : greatB ns ls with
  | true =>
    rw [hg] at hG
    exact put_great d bn bl cn cl ns ls bm bk cm ck ms ks ow ot a f t w hn hl true hG (.inl rfl)
  | false =>
    rw [hg] at hG
    have hs := great_small hg
    by_cases m1 : ms.length ≤ 100
    · by_cases k1 : ks.length ≤ 100
      · have sm : SS w (.slice bm ms.length cm) ms := ⟨bm, cm, rfl, ⟨hm.1, by omega, hm.2⟩⟩
        have sk : SS w (.slice bk ks.length ck) ks := ⟨bk, ck, rfl, ⟨hk.1, by omega, hk.2⟩⟩
        by_cases he : yPutE ⟨d, ns, ls⟩ ms ks ⟨f, t, ow⟩ = 0
        · exact law_put_yes d bn bl cn cl ns ls bm bk cm ck ms ks ow ot a f t w hn hl hs hG sm sk m1 k1 hm.2 hk.2 he
        · exact put_no d bn bl cn cl ns ls bm bk cm ck ms ks ow ot a f t w hn hl hs hG sm sk m1 k1 he
      · exact put_great d bn bl cn cl ns ls bm bk cm ck ms ks ow ot a f t w hn hl false hG (.inr (.inr ⟨rfl, m1, by omega⟩))
    · exact put_great d bn bl cn cl ns ls bm bk cm ck ms ks ow ot a f t w hn hl false hG (.inr (.inl ⟨rfl, by omega⟩))

set_option maxRecDepth 100000 in set_option maxHeartbeats 4000000 in
theorem lift_calsPut (os : Os) (started : os.Started) (H : Type) (enc : TypeId × Value → H) :
    ReturnsInHanded {} Try.checked os 15 .any (Rows.calsPutSpec.pre6 enc Try.prog Try.f15 Rows.calsPutRow.domain false) (Rows.calsPutSpec.post enc Try.prog Try.f15 false true false false) := by
  refine returnsInHanded_of_change_sized (C := Try.checked) ownKnob0 started (by kernel_rfl) Try.func15
    (ChangeSpec.witness6 (enc := enc) (C := Try.checked) false ⟨#[], #[.agg #[.int .i64 (⟨0, 0, 0⟩ : V3).x, .int .i64 (⟨0, 0, 0⟩ : V3).y, .int .i64 (⟨0, 0, 0⟩ : V3).z, (.slice none 0 0), (.slice none 0 0)], .int .i64 0, .slice none 0 0, .slice none 0 0, .agg #[.int .i64 0, .int .i64 0], .int .i64 0, .int .i64 0], []⟩ 8 (by kernel_rfl) (by kernel_rfl) (by kernel_rfl) (by kernel_rfl)) ?_
  intro W base args ds gs before hval0 hW hcnd hwt _
  have hval : ∀ (j : Nat) t v, Try.f15.params[j]? = some t → args[j]? = some v → Value.okWide Try.prog W .any base t v := hval0
  have hW' := hW
  obtain ⟨p, q, hA0, hV, rfl, hfz, hnd⟩ := hW
  have hA : DataW.TrodAll enc Try.prog W 0 (fun _ => true) true Try.f15.params.toList args.toList ds p := hA0
  rw [Try.params15] at hA hval hwt
  have hK := hA
  obtain ⟨v0, vs0, d0, ds0, p0, q0, hargs, rfl, rfl, h0, r0⟩ := trodAll_cons hA
  obtain ⟨v1, vs1, d1, ds1, p1, q1, rfl, rfl, rfl, h1, r1⟩ := trodAll_cons r0
  obtain ⟨v2, vs2, d2, ds2, p2, q2, rfl, rfl, rfl, h2, r2⟩ := trodAll_cons r1
  obtain ⟨v3, vs3, d3, ds3, p3, q3, rfl, rfl, rfl, h3, r3⟩ := trodAll_cons r2
  obtain ⟨v4, vs4, d4, ds4, p4, q4, rfl, rfl, rfl, h4, r4⟩ := trodAll_cons r3
  obtain ⟨v5, vs5, d5, ds5, p5, q5, rfl, rfl, rfl, h5, r5⟩ := trodAll_cons r4
  obtain ⟨v6, vs6, d6, ds6, p6, q6, rfl, rfl, rfl, h6, r6⟩ := trodAll_cons r5
  obtain ⟨rfl, rfl, rfl⟩ := trodAll_nil r6
  obtain rfl : args = #[v0, v1, v2, v3, v4, v5, v6] := by cases args; simp_all
  obtain ⟨d, bn, bl, ns, ls, cn, cl, rfl, hn, hl, hz⟩ := open_yard (hval 0 _ v0 rfl rfl) h0
  obtain ⟨ow, rfl⟩ := okWide_int Try.underlying3 (hval 1 _ v1 rfl rfl)
  obtain ⟨bm, ms, cm, rfl, hms, _⟩ := open_set (hval 2 _ v2 rfl rfl) h2
  obtain ⟨bk, ks, ck, rfl, hks, _⟩ := open_set (hval 3 _ v3 rfl rfl) h3
  obtain ⟨f, t, rfl⟩ := open_span (hval 4 _ v4 rfl rfl)
  obtain ⟨a, rfl⟩ := okWide_int Try.underlying3 (hval 5 _ v5 rfl rfl)
  obtain ⟨ot, rfl⟩ := okWide_int Try.underlying3 (hval 6 _ v6 rfl rfl)
  have hz' := hz reachBytes (fun k hk => by have := List.all_eq_true.1 hwt k (DataW.weights_mem_each (j := 0) rfl rfl k hk); simpa using this)
  obtain ⟨rfl, rfl⟩ := trodVars_none hV
  clear hA0 hval0
  simp only [List.append_nil] at hW' hK
  refine (law09_CalsPut d bn bl cn cl ns ls bm bk cm ck ms ks ow ot a f t W hn hl hz' hms hks).mono fun e W' ⟨he, bel⟩ => ?_
  subst he
  refine ⟨_, rfl, _, _, _, [], _, [], hW', trodAll_mk1 (shut_bool Try.underlying4 _), trodAll_below bel _ _ _ _ ?_ hK, rfl, bel.frame _, fun h => by cases h⟩
  intro t ht
  simp at ht <;> (rcases ht with rfl | rfl | rfl | rfl | rfl | rfl | rfl <;> exact ⟨by kernel_rfl, of_decide_eq_true (by kernel_rfl)⟩)

theorem holds_calsPut : Rows.calsPutRow.holds Try.pinned (OpenSpec.ofChange Rows.calsPutSpec) :=
  OpenClaim.holds_of_wide 15 Try.f15 rfl rfl rfl rfl rfl rfl rfl ⟨rfl, rfl, rfl, rfl, rfl⟩ rfl rfl rfl rfl rfl (by kernel_rfl) Try.func15 (by kernel_rfl)
    (of_decide_eq_true (by kernel_rfl)) (by unfold Func.isWrapper; first | (rw [if_pos (by decide +kernel)]; kernel_rfl) | (rw [if_neg (by decide +kernel)]; exact ⟨rfl, rfl⟩))
    (fun os started H enc _ => lift_calsPut os started H enc)

theorem CalsPut_holds : Rows.CalsPutSaid := holds_calsPut
end Go.Proofs.Ytfikgjcmnooglaa
