/- GrowAll: with nothing taken the whole machine is the only one that lies in no other; with more taken the largest is no larger, and it has no more than is free: the call returns true. -/
import Derived.Test.YtofoenlhbmammaaQ0GrowXG13
import Derived.Test.YtofoenlhbmammaaQ0RowSG13
import Derived.Test.YtofoenlhbmammaaQ0GrowQG13
set_option linter.unusedVariables false
set_option linter.unusedSimpArgs false
namespace Go.Proofs.Ytofoenlhbmammaa

section
open Go.ChangeShapes Go.WideShapes Go.ChangeAt Go.RowKit Go.Shelf

/-- Dimensions, two sets, as they lie. -/
structure GaW (w W : World) (d : V3) (bs bt : Option Addr) (ms mt : List Nat) : Prop where
  d : Blk W w.heap.size 23 #[.int .i64 d.x, .int .i64 d.y, .int .i64 d.z]
  s : SetIn W bs ms
  t : SetIn W bt mt
  hb : Below w.heap.size w W
theorem GaW.keep {w W W' : World} {d : V3} {bs bt : Option Addr} {ms mt : List Nat} (h : GaW w W d bs bt ms mt) (hb : Below W.heap.size W W') : GaW w W' d bs bt ms mt := ⟨h.d.below hb, h.s.keep hb, h.t.keep hb, below_then h.hb hb⟩
set_option maxRecDepth 100000 in set_option maxHeartbeats 4000000 in
theorem core_GrowAll (d : V3) (bs bt : Option Addr) (cs ct : Nat) (ms mt : List Nat) (w : World) (hs : SetIn w bs ms) (ht : SetIn w bt mt) (l1 : ms.length ≤ 100) (l2 : mt.length ≤ 100) (hsm : smallB d = true) (hz : frE d ms = 0) : Calls Try.prog 7 #[.agg #[.int .i64 d.x, .int .i64 d.y, .int .i64 d.z], .slice bs ms.length cs, .slice bt mt.length ct] w (RB w (.bool true)) := by
  have AL := Lib.hid (fun W => law13_alive W)
  have SM := Lib.hid (fun W => Calls.rb_eq (law13_small d W) (show Value.bool (smallB d) = .bool true by rw [hsm]))
  obtain ⟨hd, hc, hn⟩ := frE_0 hz
  have hm := nMay_of hc
  obtain ⟨z1, z2, z3⟩ := none_set hm
  have LG := Lib.hid (fun W (h : SetIn W bs ms) => by have h2 := grow_Largest d bs cs ms W h; rw [show frV d ms = freeL d ms from if_pos hz, hz] at h2; exact h2)
  have OF := Lib.hid (fun W => show Calls Try.prog 26 #[.int .i64 d.n, .slice none 0 0] W (RUE W (ofSet d.n []) 0) from by have h := set_Of d.n none 0 [] W ⟨Rd.nil _ _, by simp⟩; rw [z1] at h; exact h)
  have MO := Lib.hid (fun W b c (h : SetIn W b (ofSet d.n [])) => by
    have h2 := grow_Most d b c (ofSet d.n []) W h
    have h3 := frE_of hd z2 hn
    rw [show frV d (ofSet d.n []) = freeL d (ofSet d.n []) from if_pos h3, h3, most_none hd z3] at h2
    exact h2)
  have OR := Lib.hid (fun W (h1 : SetIn W bs ms) (h2 : SetIn W bt mt) => (show Calls Try.prog 27 #[.int .i64 d.n, .slice bs ms.length cs, .slice bt mt.length ct] W (RUE W (joinIf orW d.n ms mt) (sChk2 d.n ms mt)) from set_Or d.n bs bt cs ct ms mt W h1 h2))
  have MN := Lib.hid (fun W (h : SetIn W bs ms) => by have h2 := set_Many d.n bs cs ms W h; rw [hc] at h2; exact h2)
  have hroom := top_room hd hc hs.fit
  have hnn := topL_nonneg (freeL d ms)
  have hfit := ofSet_fit d.n []
  have holen : (ofSet d.n []).length ≤ 4611686018427387904 := by rw [(sMay_len z2).2.1]; unfold nWords; unfold nMay at hm; omega
  have HLESS := Lib.hid (fun h => top_less hd h hs.fit ht.fit)
  have LG2 := Lib.hid (fun h2 W b c (h : SetIn W b (joinIf orW d.n ms mt)) => by
    have h3 := grow_Largest d b c (joinIf orW d.n ms mt) W h
    have h4 := frE_of hd (HLESS.out h2).1 hn
    rw [show frV d (joinIf orW d.n ms mt) = freeL d (joinIf orW d.n ms mt) from if_pos h4, h4] at h3
    exact h3)
  have hjl : (joinIf orW d.n ms mt).length ≤ 4611686018427387904 := Nat.le_trans joinIf_len (by omega)
  have hjf := joinIf_fit (n := d.n) orW_fit hs.fit ht.fit
  have hmv : 0 ≤ manyV d.n ms := by unfold manyV; split <;> omega
  have q1 : decide (100 < ms.length) = false := decide_eq_false (by omega)
  have q2 : decide (100 < mt.length) = false := decide_eq_false (by omega)
  have T := Lib.hid (show GaW w (w.alloc (.cells #[.int .i64 d.x, .int .i64 d.y, .int .i64 d.z] 23)) d bs bt ms mt from ⟨Blk.new w _ _, hs.keep (by (repeat (first | (with_reducible exact Below.refl _ _) | (with_reducible assumption) | (with_reducible refine below_alloc ?_ _) | (with_reducible refine below_drewN ?_ _) | (with_reducible refine Below.drew ?_) | (with_reducible refine below_then ?_ (by with_reducible assumption)) | (with_reducible refine Below.setCell ?_ (by go_size) _)))), ht.keep (by (repeat (first | (with_reducible exact Below.refl _ _) | (with_reducible assumption) | (with_reducible refine below_alloc ?_ _) | (with_reducible refine below_drewN ?_ _) | (with_reducible refine Below.drew ?_) | (with_reducible refine below_then ?_ (by with_reducible assumption)) | (with_reducible refine Below.setCell ?_ (by go_size) _)))), by (repeat (first | (with_reducible exact Below.refl _ _) | (with_reducible assumption) | (with_reducible refine below_alloc ?_ _) | (with_reducible refine below_drewN ?_ _) | (with_reducible refine Below.drew ?_) | (with_reducible refine below_then ?_ (by with_reducible assumption)) | (with_reducible refine Below.setCell ?_ (by go_size) _)))⟩)
  have hnl := V3.n_le hd
  obtain ⟨⟨x1, x2⟩, ⟨y1, y2⟩, _⟩ := hd
  have hxy : 1 ≤ d.x * d.y := Int.mul_pos (by omega) (by omega)
  have hxy2 : d.x * d.y ≤ 256 := Int.le_trans (Int.mul_le_mul x2 y2 (by omega) (by omega)) (by omega)
  have m1 : IntKind.i64.wrap (d.x * d.y) = d.x * d.y := IntWalk.i64_in _ (by omega)
  have m2 : IntKind.i64.wrap (d.x * d.y * d.z) = d.n := IntWalk.i64_in d.n (by omega)
  have hgd : Try.prog.eqGuardType Try.prog.depth 27 = false := by kernel_rfl
  have hneq : ∀ w, (binOp .neq 27 (.agg #[.int .i64 0, .int .i64 0, .int .i64 0, .int .i64 d.x, .int .i64 d.y, .int .i64 d.z]) (.agg #[.int .i64 0, .int .i64 0, .int .i64 0, .int .i64 d.x, .int .i64 d.y, .int .i64 d.z])).run Try.prog w = .ok (.bool false) w := fun w => by
    have := run_neq_box ⟨⟨0, 0, 0⟩, d⟩ ⟨⟨0, 0, 0⟩, d⟩ w
    rw [decide_eq_true rfl] at this
    exact this
  have hlast : (topL (freeL d ms) == 0) = (manyV d.n ms == d.n) := by
    rw [Bool.eq_iff_iff, beq_iff_eq, beq_iff_eq]
    exact hroom.2
  have hle : topL (freeL d ms) ≤ d.n - manyV d.n ms := hroom.1
  clear hs ht hsm hz hc hn hm z1 z2 z3 x1 x2 y1 y2 hroom
  generalize topL (freeL d ms) = n at *
  generalize manyV d.n ms = k at *
  generalize ofSet d.n [] = os at *
  generalize joinIf orW d.n ms mt = js at *
  generalize topL (freeL d js) = m at *
  generalize hE : sChk2 d.n ms mt = E at *
  have HLAST := Lib.hid hlast
  clear hlast hE
  generalize d.n = N at *
  go_enter Try.func7, Try.ntmps7
  go_wp2_with fail
  refine (AL.out _).mono ?_
  rintro e w1 ⟨rfl, hb⟩
  have T := Lib.hid (T.out.keep hb)
  clear hb AL
  (have d0 := T.out.d.cell 0 _ rfl; have d1 := T.out.d.cell 1 _ rfl; have d2 := T.out.d.cell 2 _ rfl; have dl := T.out.d.lt)
  go_wp2_with fail
  refine (SM.out _).mono ?_
  rintro e w2 ⟨rfl, hb⟩
  clear d0 d1 d2 dl
  have T := Lib.hid (T.out.keep hb)
  clear hb SM
  (have d0 := T.out.d.cell 0 _ rfl; have d1 := T.out.d.cell 1 _ rfl; have d2 := T.out.d.cell 2 _ rfl; have dl := T.out.d.lt)
  go_wp2_with fail
  refine (LG.out _ T.out.s).mono ?_
  rintro e w3 ⟨rfl, hb⟩
  clear d0 d1 d2 dl
  have T := Lib.hid (T.out.keep hb)
  clear hb LG
  (have d0 := T.out.d.cell 0 _ rfl; have d1 := T.out.d.cell 1 _ rfl; have d2 := T.out.d.cell 2 _ rfl; have dl := T.out.d.lt)
  go_wp2_with fail
  refine (OF.out _).mono ?_
  rintro e w4 ⟨v, rfl, ho, hb⟩
  clear d0 d1 d2 dl
  have T := Lib.hid (T.out.keep hb)
  obtain ⟨bo, co, rfl, hso, _⟩ := set_of_own ho holen hfit
  have HSO := Lib.hid hso
  clear hb OF ho hso
  (have d0 := T.out.d.cell 0 _ rfl; have d1 := T.out.d.cell 1 _ rfl; have d2 := T.out.d.cell 2 _ rfl; have dl := T.out.d.lt)
  go_wp2_with fail
  refine (MO.out _ _ _ HSO.out).mono ?_
  rintro e w5 ⟨v, rfl, ho, hb⟩
  clear d0 d1 d2 dl
  have T := Lib.hid (T.out.keep hb)
  obtain ⟨bv, cv, rfl, rd, _⟩ := own_rd ho
  obtain ⟨bx, off, rfl, hO⟩ := (show XIn w5 bv [⟨⟨0, 0, 0⟩, d⟩] from ⟨rd, by simp⟩).at (k := 0) (by simp)
  have c0 : w5.cell? ⟨bx, off, none⟩ = some (.int .i64 0) := by simpa using hO.c0
  have c1 : w5.cell? ⟨bx, off + 1, none⟩ = some (.int .i64 0) := by simpa using hO.c1
  have c2 : w5.cell? ⟨bx, off + 2, none⟩ = some (.int .i64 0) := by simpa using hO.c2
  have c3 : w5.cell? ⟨bx, off + 3, none⟩ = some (.int .i64 d.x) := by simpa using hO.c3
  have c4 : w5.cell? ⟨bx, off + 4, none⟩ = some (.int .i64 d.y) := by simpa using hO.c4
  have c5 : w5.cell? ⟨bx, off + 5, none⟩ = some (.int .i64 d.z) := by simpa using hO.c5
  have hcl := hO.lt
  clear hb MO ho rd hO HSO
  (have d0 := T.out.d.cell 0 _ rfl; have d1 := T.out.d.cell 1 _ rfl; have d2 := T.out.d.cell 2 _ rfl; have dl := T.out.d.lt)
  go_wp2_with fail
  (refine wp_region_quiet_lit (by kernel_rfl) (by kernel_rfl) ?_; (repeat (any_goals (first | go_big_quiet_step (fail) | quiet_step (fail) | (refine wpQuiet_step (fun K hK => ?_); go_simp; split <;> (refine hK _ ?_; clear hK K))))); all_goals (refine wpQuiet_nil ?_; intro _ hw'; obtain ⟨nq, hw''⟩ := hw'; subst hw''))
  have T := Lib.hid (T.out.keep (below_drewN (Below.refl _ _) nq))
  obtain ⟨W5, hW5⟩ : ∃ W5, W5 = w5.drewN nq := ⟨_, rfl⟩
  rw [← hW5] at T ⊢
  clear hW5 c0 c1 c2 c3 c4 c5 hcl
  clear d0 d1 d2 dl
  go_wp2_with fail
  refine (OR.out _ T.out.s T.out.t).mono ?_
  rintro e w6 ⟨v, rfl, ho, hb⟩
  have T := Lib.hid (T.out.keep hb)
  obtain ⟨bj, cj, rfl, hsj, _⟩ := set_of_own ho hjl hjf
  have HSJ := Lib.hid hsj
  clear hb OR ho hsj
  by_cases h0 : E = 0
  · subst h0
    have hml := (HLESS.out rfl).2
    have LG3 := Lib.hid (LG2.out rfl)
    clear HLESS LG2
    (have d0 := T.out.d.cell 0 _ rfl; have d1 := T.out.d.cell 1 _ rfl; have d2 := T.out.d.cell 2 _ rfl; have dl := T.out.d.lt)
    go_wp2_with fail
    refine (LG3.out _ _ _ HSJ.out).mono ?_
    rintro e w7 ⟨rfl, hb⟩
    clear d0 d1 d2 dl
    have T := Lib.hid (T.out.keep hb)
    clear hb LG3 HSJ
    go_wp2_with fail
    refine (MN.out _ T.out.s).mono ?_
    rintro e w8 ⟨rfl, hb⟩
    have T := Lib.hid (T.out.keep hb)
    clear hb MN
    have p1 : decide (m ≤ n) = true := decide_eq_true hml
    have p2 : decide (n ≤ N - k) = true := decide_eq_true hle
    have p3 : IntKind.i64.wrap (N - k) = N - k := IntWalk.i64_in _ (by omega)
    have hl := HLAST.out
    cases hk : (k == N) with
    | true =>
      rw [hk] at hl
      go_wp2_with fail
      go_returns
      exact ⟨by first | rfl | simp [hl, hk], T.out.hb⟩
    | false =>
      rw [hk] at hl
      go_wp2_with fail
      go_returns
      exact ⟨by first | rfl | simp [hl, hk], T.out.hb⟩
  · have hy : (E != 0) = true := by simpa using h0
    clear h0 HLESS LG2
    go_wp2_with fail
    go_returns
    exact ⟨rfl, T.out.hb⟩
set_option maxRecDepth 100000 in set_option maxHeartbeats 4000000 in
theorem law13_GrowAll (d : V3) (bs bt : Option Addr) (cs ct : Nat) (ms mt : List Nat) (w : World) (ha : Rd w bs (wcells ms) ∧ W64 ms) (hb' : Rd w bt (wcells mt) ∧ W64 mt) : Calls Try.prog 7 #[.agg #[.int .i64 d.x, .int .i64 d.y, .int .i64 d.z], .slice bs ms.length cs, .slice bt mt.length ct] w (RB w (.bool true)) := by
  have AL := Lib.hid (fun W => law13_alive W)
  by_cases l1 : 100 < ms.length
  · have q1 : decide (100 < ms.length) = true := decide_eq_true l1
    clear ha hb'
    go_enter Try.func7, Try.ntmps7
    go_wp2_with fail
    refine (AL.out _).mono ?_
    rintro e w1 ⟨rfl, hb⟩
    have BD := Lib.hid ((Blk.new w 23 #[.int .i64 d.x, .int .i64 d.y, .int .i64 d.z]).below hb)
    have HB := Lib.hid (below_then (show Below w.heap.size w (w.alloc (.cells #[.int .i64 d.x, .int .i64 d.y, .int .i64 d.z] 23)) by (repeat (first | (with_reducible exact Below.refl _ _) | (with_reducible assumption) | (with_reducible refine below_alloc ?_ _) | (with_reducible refine below_drewN ?_ _) | (with_reducible refine Below.drew ?_) | (with_reducible refine below_then ?_ (by with_reducible assumption)) | (with_reducible refine Below.setCell ?_ (by go_size) _)))) hb)
    clear hb
    go_wp2_with fail
    go_returns
    exact ⟨rfl, HB.out⟩
  by_cases l2 : 100 < mt.length
  · have q1 : decide (100 < ms.length) = false := decide_eq_false l1
    have q2 : decide (100 < mt.length) = true := decide_eq_true l2
    clear ha hb'
    go_enter Try.func7, Try.ntmps7
    go_wp2_with fail
    refine (AL.out _).mono ?_
    rintro e w1 ⟨rfl, hb⟩
    have BD := Lib.hid ((Blk.new w 23 #[.int .i64 d.x, .int .i64 d.y, .int .i64 d.z]).below hb)
    have HB := Lib.hid (below_then (show Below w.heap.size w (w.alloc (.cells #[.int .i64 d.x, .int .i64 d.y, .int .i64 d.z] 23)) by (repeat (first | (with_reducible exact Below.refl _ _) | (with_reducible assumption) | (with_reducible refine below_alloc ?_ _) | (with_reducible refine below_drewN ?_ _) | (with_reducible refine Below.drew ?_) | (with_reducible refine below_then ?_ (by with_reducible assumption)) | (with_reducible refine Below.setCell ?_ (by go_size) _)))) hb)
    clear hb
    go_wp2_with fail
    go_returns
    exact ⟨rfl, HB.out⟩
  have q1 : decide (100 < ms.length) = false := decide_eq_false l1
  have q2 : decide (100 < mt.length) = false := decide_eq_false l2
  cases hsm : smallB d with
  | true =>
    have hs := SetIn.mk ha.1 (by omega) ha.2
    by_cases hz : frE d ms = 0
    · exact core_GrowAll d bs bt cs ct ms mt w hs (SetIn.mk hb'.1 (by omega) hb'.2) (by omega) (by omega) hsm hz
    have SM := Lib.hid (fun W => Calls.rb_eq (law13_small d W) (show Value.bool (smallB d) = .bool true by rw [hsm]))
    have LG := Lib.hid (fun W (h : SetIn W bs ms) => by have h2 := grow_Largest d bs cs ms W h; rw [show frV d ms = [] from if_neg hz, show topL [] = 0 from rfl] at h2; exact h2)
    have hy : (frE d ms != 0) = true := by simpa using hz
    have HS := Lib.hid hs
    generalize frE d ms = E at *
    clear hz ha hb' hs hsm
    go_enter Try.func7, Try.ntmps7
    go_wp2_with fail
    refine (AL.out _).mono ?_
    rintro e w1 ⟨rfl, hb⟩
    have BD := Lib.hid ((Blk.new w 23 #[.int .i64 d.x, .int .i64 d.y, .int .i64 d.z]).below hb)
    have HB := Lib.hid (below_then (show Below w.heap.size w (w.alloc (.cells #[.int .i64 d.x, .int .i64 d.y, .int .i64 d.z] 23)) by (repeat (first | (with_reducible exact Below.refl _ _) | (with_reducible assumption) | (with_reducible refine below_alloc ?_ _) | (with_reducible refine below_drewN ?_ _) | (with_reducible refine Below.drew ?_) | (with_reducible refine below_then ?_ (by with_reducible assumption)) | (with_reducible refine Below.setCell ?_ (by go_size) _)))) hb)
    clear hb
    have d0 := BD.out.cell 0 _ rfl
    have d1 := BD.out.cell 1 _ rfl
    have d2 := BD.out.cell 2 _ rfl
    go_wp2_with fail
    refine (SM.out _).mono ?_
    rintro e w2 ⟨rfl, hb⟩
    have HB := Lib.hid (below_then HB.out hb)
    have BD := Lib.hid (BD.out.below hb)
    clear hb d0 d1 d2
    have d0 := BD.out.cell 0 _ rfl
    have d1 := BD.out.cell 1 _ rfl
    have d2 := BD.out.cell 2 _ rfl
    go_wp2_with fail
    refine (LG.out _ (HS.out.keep HB.out)).mono ?_
    rintro e w3 ⟨rfl, hb⟩
    have HB := Lib.hid (below_then HB.out hb)
    clear hb d0 d1 d2
    go_wp2_with fail
    go_returns
    exact ⟨rfl, HB.out⟩
  | false =>
    have SM := Lib.hid (fun W => Calls.rb_eq (law13_small d W) (show Value.bool (smallB d) = .bool false by rw [hsm]))
    clear ha hb' hsm
    go_enter Try.func7, Try.ntmps7
    go_wp2_with fail
    refine (AL.out _).mono ?_
    rintro e w1 ⟨rfl, hb⟩
    have BD := Lib.hid ((Blk.new w 23 #[.int .i64 d.x, .int .i64 d.y, .int .i64 d.z]).below hb)
    have HB := Lib.hid (below_then (show Below w.heap.size w (w.alloc (.cells #[.int .i64 d.x, .int .i64 d.y, .int .i64 d.z] 23)) by (repeat (first | (with_reducible exact Below.refl _ _) | (with_reducible assumption) | (with_reducible refine below_alloc ?_ _) | (with_reducible refine below_drewN ?_ _) | (with_reducible refine Below.drew ?_) | (with_reducible refine below_then ?_ (by with_reducible assumption)) | (with_reducible refine Below.setCell ?_ (by go_size) _)))) hb)
    clear hb
    have d0 := BD.out.cell 0 _ rfl
    have d1 := BD.out.cell 1 _ rfl
    have d2 := BD.out.cell 2 _ rfl
    go_wp2_with fail
    refine (SM.out _).mono ?_
    rintro e w2 ⟨rfl, hb⟩
    have HB := Lib.hid (below_then HB.out hb)
    clear hb d0 d1 d2
    go_wp2_with fail
    go_returns
    exact ⟨rfl, HB.out⟩

set_option maxRecDepth 100000 in set_option maxHeartbeats 4000000 in
theorem lift_growAll (os : Os) (started : os.Started) (H : Type) (enc : TypeId × Value → H) :
    ReturnsInHanded {} Try.checked os 7 .any (Rows.growAllSpec.pre6 enc Try.prog Try.f7 Rows.growAllRow.domain false) (Rows.growAllSpec.post enc Try.prog Try.f7 false true false false) := by
  refine returnsInHanded_of_change (C := Try.checked) ownKnob0 started (by kernel_rfl) Try.func7
    (ChangeSpec.witness6 (enc := enc) (C := Try.checked) false ⟨#[], #[.agg #[.int .i64 0, .int .i64 0, .int .i64 0], .slice none 0 0, .slice none 0 0], []⟩ 8 (by kernel_rfl) (by kernel_rfl) (by kernel_rfl) (by kernel_rfl)) ?_
  intro W base args ds gs before hval0 hW hcnd _
  have hval : ∀ (j : Nat) t v, Try.f7.params[j]? = some t → args[j]? = some v → Value.okWide Try.prog W .any base t v := hval0
  have hW' := hW
  obtain ⟨p, q, hA0, hV, rfl, hfz, hnd⟩ := hW
  have hA : DataW.TrodAll enc Try.prog W 0 (fun _ => true) true Try.f7.params.toList args.toList ds p := hA0
  rw [Try.params7] at hA hval
  have hK := hA
  obtain ⟨v0, vs0, d0, ds0, p0, q0, hargs, rfl, rfl, h0, r0⟩ := trodAll_cons hA
  obtain ⟨v1, vs1, d1, ds1, p1, q1, rfl, rfl, rfl, h1, r1⟩ := trodAll_cons r0
  obtain ⟨v2, vs2, d2, ds2, p2, q2, rfl, rfl, rfl, h2, r2⟩ := trodAll_cons r1
  obtain ⟨rfl, rfl, rfl⟩ := trodAll_nil r2
  obtain rfl : args = #[v0, v1, v2] := by cases args; simp_all
  obtain ⟨d, rfl⟩ := open_dims (hval 0 _ v0 rfl rfl)
  obtain ⟨bs, ms, cs, rfl, ha, _⟩ := open_set (hval 1 _ v1 rfl rfl) h1
  obtain ⟨bt, mt, ct, rfl, hb', _⟩ := open_set (hval 2 _ v2 rfl rfl) h2
  obtain ⟨rfl, rfl⟩ := trodVars_none hV
  clear hA0 hval0
  simp only [List.append_nil] at hW' hK
  refine (law13_GrowAll d bs bt cs ct ms mt W ha hb').mono fun e W' ⟨he, bel⟩ => ?_
  subst he
  refine ⟨_, rfl, _, _, _, [], _, [], hW', trodAll_mk1 (shut_bool Try.underlying4 _), trodAll_below bel _ _ _ _ ?_ hK, rfl, bel.frame _, fun h => by cases h⟩
  intro t ht
  simp at ht <;> (rcases ht with rfl | rfl | rfl <;> exact ⟨by kernel_rfl, of_decide_eq_true (by kernel_rfl)⟩)

theorem holds_growAll : Rows.growAllRow.holds Try.pinned (OpenSpec.ofChange Rows.growAllSpec) :=
  OpenClaim.holds_of_wide 7 Try.f7 rfl rfl rfl rfl rfl rfl rfl ⟨rfl, rfl, rfl, rfl, rfl⟩ rfl rfl rfl rfl rfl (by kernel_rfl) Try.func7 (by kernel_rfl)
    (of_decide_eq_true (by kernel_rfl)) (by unfold Func.isWrapper; first | (rw [if_pos (by decide +kernel)]; kernel_rfl) | (rw [if_neg (by decide +kernel)]; exact ⟨rfl, rfl⟩))
    (fun os started H enc _ => lift_growAll os started H enc)

theorem GrowAll_holds : Rows.GrowAllSaid := holds_growAll
end
end Go.Proofs.Ytofoenlhbmammaa
