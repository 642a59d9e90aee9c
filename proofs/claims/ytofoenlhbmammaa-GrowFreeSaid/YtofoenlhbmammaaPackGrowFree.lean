/- GrowFree: a box is listed just if it is canonical and has none of the set; the largest has as many midplanes as is told: the call returns true. -/
import Derived.Deep.RegionHeld3
import Derived.Test.YtofoenlhbmammaaQ0GrowXG13
import Derived.Test.YtofoenlhbmammaaQ0RowSG13
set_option linter.unusedVariables false
set_option linter.unusedSimpArgs false
namespace Go.Proofs.Ytofoenlhbmammaa

section
open Go.ChangeShapes Go.WideShapes Go.ChangeAt Go.RowKit Go.Shelf

theorem BxO.keep {w W : World} {b o : Nat} {x : Bx} (h : BxO w b o x) (hb : Below w.heap.size w W) : BxO W b o x :=
  ⟨(hb.cell (p := ⟨b, o, none⟩) h.lt).trans h.c0, (hb.cell (p := ⟨b, o + 1, none⟩) h.lt).trans h.c1, (hb.cell (p := ⟨b, o + 2, none⟩) h.lt).trans h.c2, (hb.cell (p := ⟨b, o + 3, none⟩) h.lt).trans h.c3, (hb.cell (p := ⟨b, o + 4, none⟩) h.lt).trans h.c4, (hb.cell (p := ⟨b, o + 5, none⟩) h.lt).trans h.c5, Nat.lt_of_lt_of_le h.lt hb.size⟩
/-- Dimensions, a box, a set, as they lie. -/
structure GfW (w W : World) (d : V3) (b : Bx) (bs : Option Addr) (ms : List Nat) : Prop where
  d : Blk W w.heap.size 23 #[.int .i64 d.x, .int .i64 d.y, .int .i64 d.z]
  b : Blk W (w.heap.size + 1) 27 #[.int .i64 b.b.x, .int .i64 b.b.y, .int .i64 b.b.z, .int .i64 b.s.x, .int .i64 b.s.y, .int .i64 b.s.z]
  s : SetIn W bs ms
  hb : Below w.heap.size w W
theorem GfW.keep {w W W' : World} {d : V3} {b : Bx} {bs : Option Addr} {ms : List Nat} (h : GfW w W d b bs ms) (hb : Below W.heap.size W W') : GfW w W' d b bs ms := ⟨h.d.below hb, h.b.below hb, h.s.keep hb, below_then h.hb hb⟩
theorem mem_take_succ' {l : List Bx} {k : Nat} (h : k < l.length) (b : Bx) : decide (b ∈ l.take (k + 1)) = (decide (b ∈ l.take k) || decide (l[k] = b)) := by
  have e : b ∈ l.take (k + 1) ↔ (b ∈ l.take k ∨ l[k] = b) := by
    rw [List.take_succ_eq_append_getElem h, List.mem_append, List.mem_singleton]
    exact or_congr Iff.rfl eq_comm
  rw [decide_eq_decide.2 e, Bool.decide_or]
set_option maxRecDepth 100000 in set_option maxHeartbeats 4000000 in
theorem core_GrowFree (d : V3) (b : Bx) (bs : Option Addr) (cs : Nat) (ms : List Nat) (w : World) (hs : SetIn w bs ms) (l1 : ms.length ≤ 100) (hsm : smallB d = true) : Calls Try.prog 3 #[.agg #[.int .i64 d.x, .int .i64 d.y, .int .i64 d.z], .slice bs ms.length cs, .agg #[.int .i64 b.b.x, .int .i64 b.b.y, .int .i64 b.b.z, .int .i64 b.s.x, .int .i64 b.s.y, .int .i64 b.s.z]] w (RB w (.bool true)) := by
  have AL := Lib.hid (fun W => law13_alive W)
  have SM := Lib.hid (fun W => Calls.rb_eq (law13_small d W) (show Value.bool (smallB d) = .bool true by rw [hsm]))
  have FR := Lib.hid (fun W (h : SetIn W bs ms) => grow_Free d bs cs ms W h)
  have LG := Lib.hid (fun W (h : SetIn W bs ms) => grow_Largest d bs cs ms W h)
  have q1 : decide (100 < ms.length) = false := decide_eq_false (by omega)
  have T := Lib.hid (show GfW w ((w.alloc (.cells #[.int .i64 d.x, .int .i64 d.y, .int .i64 d.z] 23)).alloc (.cells #[.int .i64 b.b.x, .int .i64 b.b.y, .int .i64 b.b.z, .int .i64 b.s.x, .int .i64 b.s.y, .int .i64 b.s.z] 27)) d b bs ms from ⟨(Blk.new w _ _).alloc _, (by have h := Blk.new (w.alloc (.cells #[.int .i64 d.x, .int .i64 d.y, .int .i64 d.z] 23)) 27 #[.int .i64 b.b.x, .int .i64 b.b.y, .int .i64 b.b.z, .int .i64 b.s.x, .int .i64 b.s.y, .int .i64 b.s.z]; rw [World.size_alloc] at h; exact h), hs.keep (by (repeat (first | (with_reducible exact Below.refl _ _) | (with_reducible assumption) | (with_reducible refine below_alloc ?_ _) | (with_reducible refine below_drewN ?_ _) | (with_reducible refine Below.drew ?_) | (with_reducible refine below_then ?_ (by with_reducible assumption)) | (with_reducible refine Below.setCell ?_ (by go_size) _)))), by (repeat (first | (with_reducible exact Below.refl _ _) | (with_reducible assumption) | (with_reducible refine below_alloc ?_ _) | (with_reducible refine below_drewN ?_ _) | (with_reducible refine Below.drew ?_) | (with_reducible refine below_then ?_ (by with_reducible assumption)) | (with_reducible refine Below.setCell ?_ (by go_size) _)))⟩)
  clear hs hsm
  by_cases hz : frE d ms = 0
  · obtain ⟨hd, hc, hn⟩ := frE_0 hz
    have hv : frV d ms = freeL d ms := if_pos hz
    rw [hz, hv] at FR LG
    have hlen : (freeL d ms).length ≤ 4096 := Nat.le_trans (List.length_filter_le _ _) (boxes_len hn)
    have MN := Lib.hid (fun x (hx : x ∈ freeL d ms) W => by
      have h := box_Many d x W
      have h0 := chk_of hd ((mem_freeL hd).1 hx).1.1
      rw [show volV d x = x.vol from if_pos h0, h0] at h
      exact h)
    have VB := Lib.hid (fun x (hx : x ∈ freeL d ms) => vol_le hd ((mem_freeL hd).1 hx).1.1)
    have HIFF := Lib.hid (fun x => mem_freeL (s := ms) (b := x) hd)
    have CN := Lib.hid (fun W => box_Canon d b W)
    have ND := Lib.hid (fun W => box_Nodes d b W)
    have HS := Lib.hid (fun x W (h : SetIn W bs ms) => by have h := set_Has d.n bs cs ms x W h; rw [show hasV d.n ms x = hasI ms x from if_pos hc, hc] at h; exact h)
    have TT := Lib.hid (fun k (h : k < (freeL d ms).length) => topL_take h)
    have MT := Lib.hid (fun k (h : k < (freeL d ms).length) => mem_take_succ' h b)
    have HD := Lib.hid hd
    have hnl := V3.n_le hd
    generalize freeL d ms = l at *
    clear hz hc hv hd
    go_enter Try.func3, Try.ntmps3
    go_wp2_with fail
    refine (AL.out _).mono ?_
    rintro e w1 ⟨rfl, hb⟩
    have T := Lib.hid (T.out.keep hb)
    clear hb AL
    (have d0 := T.out.d.cell 0 _ rfl; have d1 := T.out.d.cell 1 _ rfl; have d2 := T.out.d.cell 2 _ rfl; have dl := T.out.d.lt)
    go_wp2_with fail
    refine (SM.out _).mono ?_
    rintro e w2 ⟨rfl, hb⟩
    clear d0 d1 d2 dl
    have T := Lib.hid (T.out.keep hb)
    clear hb SM
    (have d0 := T.out.d.cell 0 _ rfl; have d1 := T.out.d.cell 1 _ rfl; have d2 := T.out.d.cell 2 _ rfl; have dl := T.out.d.lt)
    go_wp2_with fail
    refine (FR.out _ T.out.s).mono ?_
    rintro e w3 ⟨v, rfl, ho, hb⟩
    have T := Lib.hid (T.out.keep hb)
    have HX := Lib.hid (xs_of_own ho (by omega))
    obtain ⟨bv, cv, rfl, _⟩ := own_rd ho
    clear hb FR ho
    clear d0 d1 d2 dl
    (have d0 := T.out.d.cell 0 _ rfl; have d1 := T.out.d.cell 1 _ rfl; have d2 := T.out.d.cell 2 _ rfl; have dl := T.out.d.lt)
    go_wp2_with fail
    refine (LG.out _ T.out.s).mono ?_
    rintro e w4 ⟨rfl, hb⟩
    have T := Lib.hid (T.out.keep hb)
    have HX := Lib.hid (HX.out.keep hb)
    clear hb LG
    clear d0 d1 d2 dl
    go_wp2_with fail
    obtain ⟨b9, c9, e9, hx9, _⟩ := HX.out.ex
    cases e9
    have HXI := Lib.hid hx9
    clear hx9 HX
    go_loopw [12, 13, 14] (fun th tp i wr => ∃ k : Nat, k ≤ l.length ∧ i = .int .i64 k ∧ th = .bool (decide (b ∈ l.take k)) ∧ tp = .int .i64 (topL (l.take k)) ∧ Below w4.heap.size w4 wr) (fun _ _ i _ => l.length - (intOf i).toNat)
    case atStart => exact ⟨0, Nat.zero_le _, rfl, by simp, rfl, Below.refl _ _⟩
    case round =>
      obtain ⟨k, hk, rfl, rfl, rfl, hb⟩ := hrel
      have HB := Lib.hid hb
      by_cases hlt : k < l.length
      · obtain ⟨bx, off, rfl, hO⟩ := (HXI.out.keep hb).at hlt
        have TR := Lib.hid (T.out.keep hb)
        have MNk := Lib.hid (MN.out l[k] (List.getElem_mem hlt))
        have VBk := VB.out l[k] (List.getElem_mem hlt)
        have TTk := Lib.hid (TT.out k hlt)
        have MTk := Lib.hid (MT.out k hlt)
        obtain ⟨x, hx⟩ : ∃ x, x = l[k] := ⟨_, rfl⟩
        rw [← hx] at hO MNk VBk TTk MTk
        have HO := Lib.hid hO
        obtain ⟨c0, c1, c2, c3, c4, c5, hcl⟩ := hO
        clear hb hx
        have heq : ∀ w, (binOp .eql 27 (.agg #[.int .i64 x.b.x, .int .i64 x.b.y, .int .i64 x.b.z, .int .i64 x.s.x, .int .i64 x.s.y, .int .i64 x.s.z]) (.agg #[.int .i64 b.b.x, .int .i64 b.b.y, .int .i64 b.b.z, .int .i64 b.s.x, .int .i64 b.s.y, .int .i64 b.s.z])).run Try.prog w = .ok (.bool (decide (x = b))) w := fun w => by rw [run_eql_box]
        have hgd : Try.prog.eqGuardType Try.prog.depth 27 = false := by kernel_rfl
        generalize decide (x = b) = xb at *
        generalize topL (l.take k) = tp at *
        (have d0 := TR.out.d.cell 0 _ rfl; have d1 := TR.out.d.cell 1 _ rfl; have d2 := TR.out.d.cell 2 _ rfl; have dl := TR.out.d.lt)
        (have b0 := TR.out.b.cell 0 _ rfl; have b1 := TR.out.b.cell 1 _ rfl; have b2 := TR.out.b.cell 2 _ rfl; have b3 := TR.out.b.cell 3 _ rfl; have b4 := TR.out.b.cell 4 _ rfl; have b5 := TR.out.b.cell 5 _ rfl; have bl := TR.out.b.lt)
        have I1 := Lib.hid (fun (W : World) (y : Aft W) => Calls.aft_of (x := y) (MNk.out _))
        cases hth : decide (b ∈ l.take k) with
        | true =>
          rw [hth] at MTk
          clear hth
          go_wp2_with fail
          (refine wp_region_quiet_lit (by kernel_rfl) (by kernel_rfl) ?_; (repeat (any_goals (first | go_big_quiet_step (fail) | quiet_step (fail) | (refine wpQuiet_step (fun K hK => ?_); go_simp; split <;> (refine hK _ ?_; clear hK K))))); all_goals (refine wpQuiet_nil ?_; intro _ hw'; obtain ⟨nq, hw''⟩ := hw'; subst hw''))
          obtain ⟨W5, hW5⟩ : ∃ W5, W5 = wr.drewN nq := ⟨_, rfl⟩
          rw [← hW5]
          have hb5 : Below wr.heap.size wr W5 := by rw [hW5]; exact below_drewN (Below.refl _ _) _
          have T5 := Lib.hid (TR.out.keep hb5)
          have hO5 := HO.out.keep hb5
          have hs5 : wr.heap.size ≤ W5.heap.size := hb5.size
          clear hW5 c0 c1 c2 c3 c4 c5 hcl
          clear d0 d1 d2 dl
          clear b0 b1 b2 b3 b4 b5 bl
          obtain ⟨c0, c1, c2, c3, c4, c5, hcl⟩ := hO5
          (have d0 := T5.out.d.cell 0 _ rfl; have d1 := T5.out.d.cell 1 _ rfl; have d2 := T5.out.d.cell 2 _ rfl; have dl := T5.out.d.lt)
          go_wp2_with fail
          (refine wp_region_aft (by kernel_rfl) (by kernel_rfl) ?_; (repeat (any_goals (first | go_big_quiet_step (with_reducible exact I1.out _ _) | quiet_step (with_reducible exact I1.out _ _) | (refine wpQuiet_step (fun K hK => ?_); go_simp; split <;> (refine hK _ ?_; clear hK K))))); all_goals (refine wpQuiet_nil ?_; intro wq hw'; obtain ⟨x1, hx1⟩ := hw'; have hbq := x1.h; rw [← hx1] at hbq; clear hx1 x1))
          go_wp2_with fail
          go_roundw
          case rel => exact ⟨k + 1, by omega, by go_num, by rw [MTk.out]; rfl, by rw [TTk.out]; rfl, HB.out.trans ((below_then hb5 hbq).mono HB.out.size)⟩
          case measure => (simp [intOf] <;> omega)
        | false =>
          rw [hth] at MTk
          clear hth
          go_wp2_with fail
          (refine wp_region_quiet_lit (by kernel_rfl) (by kernel_rfl) ?_; (repeat (any_goals (first | go_big_quiet_step (fail) | quiet_step (fail) | (refine wpQuiet_step (fun K hK => ?_); go_simp; split <;> (refine hK _ ?_; clear hK K))))); all_goals (refine wpQuiet_nil ?_; intro _ hw'; obtain ⟨nq, hw''⟩ := hw'; subst hw''))
          obtain ⟨W5, hW5⟩ : ∃ W5, W5 = wr.drewN nq := ⟨_, rfl⟩
          rw [← hW5]
          have hb5 : Below wr.heap.size wr W5 := by rw [hW5]; exact below_drewN (Below.refl _ _) _
          have T5 := Lib.hid (TR.out.keep hb5)
          have hO5 := HO.out.keep hb5
          have hs5 : wr.heap.size ≤ W5.heap.size := hb5.size
          clear hW5 c0 c1 c2 c3 c4 c5 hcl
          clear d0 d1 d2 dl
          clear b0 b1 b2 b3 b4 b5 bl
          obtain ⟨c0, c1, c2, c3, c4, c5, hcl⟩ := hO5
          (have d0 := T5.out.d.cell 0 _ rfl; have d1 := T5.out.d.cell 1 _ rfl; have d2 := T5.out.d.cell 2 _ rfl; have dl := T5.out.d.lt)
          go_wp2_with fail
          (refine wp_region_aft (by kernel_rfl) (by kernel_rfl) ?_; (repeat (any_goals (first | go_big_quiet_step (with_reducible exact I1.out _ _) | quiet_step (with_reducible exact I1.out _ _) | (refine wpQuiet_step (fun K hK => ?_); go_simp; split <;> (refine hK _ ?_; clear hK K))))); all_goals (refine wpQuiet_nil ?_; intro wq hw'; obtain ⟨x1, hx1⟩ := hw'; have hbq := x1.h; rw [← hx1] at hbq; clear hx1 x1))
          go_wp2_with fail
          go_roundw
          case rel => exact ⟨k + 1, by omega, by go_num, by rw [MTk.out]; rfl, by rw [TTk.out]; rfl, HB.out.trans ((below_then hb5 hbq).mono HB.out.size)⟩
          case measure => (simp [intOf] <;> omega)
      · obtain rfl : k = l.length := by omega
        rw [show l.take l.length = l from List.take_length]
        have T := Lib.hid (T.out.keep hb)
        have HIB := Lib.hid (HIFF.out b)
        clear hb HB HXI MN VB TT MT HIFF
        obtain ⟨th, hth⟩ : ∃ th, th = decide (b ∈ l) := ⟨_, rfl⟩
        rw [← hth]
        have HTH := Lib.hid hth
        clear hth
        generalize topL l = tl at *
        have m1 : IntKind.i64.wrap (d.x * d.y) = d.x * d.y := IntWalk.i64_in _ (by
          obtain ⟨⟨x1, x2⟩, ⟨y1, y2⟩, _⟩ := HD.out
          have h1 : 1 ≤ d.x * d.y := Int.mul_pos (by omega) (by omega)
          have h2 : d.x * d.y ≤ 256 := Int.le_trans (Int.mul_le_mul x2 y2 (by omega) (by omega)) (by omega)
          omega)
        have m2 : IntKind.i64.wrap (d.x * d.y * d.z) = d.n := IntWalk.i64_in d.n (by omega)
        have hgd : Try.prog.eqGuardType Try.prog.depth 27 = false := by kernel_rfl
        by_cases z1 : chk d b = 0
        · have hcv : canV d b = b.can d := if_pos z1
          have hnv : nodesV d b = b.all d := if_pos z1
          have hal : (b.all d).length ≤ 4096 := by
            have h1 := Bx.upto_len d b d.n.toNat
            show (b.upto d d.n.toNat).length ≤ 4096
            omega
          rw [z1, hcv] at CN
          rw [z1, hnv] at ND
          have HFIN := Lib.hid (show th = (decide (b.can d = b) && !(b.all d).any (hasI ms)) by
            rw [HTH.out]
            have h := HIB.out
            by_cases h1 : b.can d = b
            · rw [decide_eq_true h1, Bool.true_and]
              show decide (b ∈ l) = clearS d ms b
              cases hc : clearS d ms b with
              | true => rw [decide_eq_true_iff]; exact h.2 ⟨⟨(chk_may z1).2, h1⟩, hc⟩
              | false => rw [decide_eq_false_iff_not]; intro hm; have := (h.1 hm).2; rw [hc] at this; cases this
            · rw [decide_eq_false h1, Bool.false_and, decide_eq_false_iff_not]
              exact fun hm => h1 (h.1 hm).1.2)
          have heq : ∀ w, (binOp .eql 27 (.agg #[.int .i64 (b.can d).b.x, .int .i64 (b.can d).b.y, .int .i64 (b.can d).b.z, .int .i64 (b.can d).s.x, .int .i64 (b.can d).s.y, .int .i64 (b.can d).s.z]) (.agg #[.int .i64 b.b.x, .int .i64 b.b.y, .int .i64 b.b.z, .int .i64 b.s.x, .int .i64 b.s.y, .int .i64 b.s.z])).run Try.prog w = .ok (.bool (decide (b.can d = b))) w := fun w => by rw [run_eql_box]
          generalize decide (b.can d = b) = cb at *
          generalize b.can d = c at *
          generalize b.all d = L at *
          clear z1 hcv hnv HIB HTH
          (have d0 := T.out.d.cell 0 _ rfl; have d1 := T.out.d.cell 1 _ rfl; have d2 := T.out.d.cell 2 _ rfl; have dl := T.out.d.lt)
          (have b0 := T.out.b.cell 0 _ rfl; have b1 := T.out.b.cell 1 _ rfl; have b2 := T.out.b.cell 2 _ rfl; have b3 := T.out.b.cell 3 _ rfl; have b4 := T.out.b.cell 4 _ rfl; have b5 := T.out.b.cell 5 _ rfl; have bl := T.out.b.lt)
          go_wp2_with fail
          refine (CN.out _).mono ?_
          rintro e w5 ⟨rfl, hb⟩
          have hb5 := below_alloc hb (.cells #[.int .i64 c.b.x, .int .i64 c.b.y, .int .i64 c.b.z, .int .i64 c.s.x, .int .i64 c.s.y, .int .i64 c.s.z] 27)
          have HC5 := Lib.hid (Blk.new w5 27 #[.int .i64 c.b.x, .int .i64 c.b.y, .int .i64 c.b.z, .int .i64 c.s.x, .int .i64 c.s.y, .int .i64 c.s.z])
          have T := Lib.hid (T.out.keep hb5)
          clear hb hb5 CN
          clear d0 d1 d2 dl
          clear b0 b1 b2 b3 b4 b5 bl
          (have d0 := T.out.d.cell 0 _ rfl; have d1 := T.out.d.cell 1 _ rfl; have d2 := T.out.d.cell 2 _ rfl; have dl := T.out.d.lt)
          (have b0 := T.out.b.cell 0 _ rfl; have b1 := T.out.b.cell 1 _ rfl; have b2 := T.out.b.cell 2 _ rfl; have b3 := T.out.b.cell 3 _ rfl; have b4 := T.out.b.cell 4 _ rfl; have b5 := T.out.b.cell 5 _ rfl; have bl := T.out.b.lt)
          go_wp2_with fail
          refine (ND.out _).mono ?_
          rintro e w6 ⟨vn, rfl, hon, hb⟩
          have hC6 := HC5.out.below hb
          have T := Lib.hid (T.out.keep hb)
          obtain ⟨bn, cn, rfl, rdn, _⟩ := own_rd hon
          have HL := Lib.hid rdn
          clear hb hon rdn ND
          clear d0 d1 d2 dl
          clear b0 b1 b2 b3 b4 b5 bl
          (have b0 := T.out.b.cell 0 _ rfl; have b1 := T.out.b.cell 1 _ rfl; have b2 := T.out.b.cell 2 _ rfl; have b3 := T.out.b.cell 3 _ rfl; have b4 := T.out.b.cell 4 _ rfl; have b5 := T.out.b.cell 5 _ rfl; have bl := T.out.b.lt)
          have g0 := hC6.cell 0 _ rfl
          have g1 := hC6.cell 1 _ rfl
          have g2 := hC6.cell 2 _ rfl
          have g3 := hC6.cell 3 _ rfl
          have g4 := hC6.cell 4 _ rfl
          have g5 := hC6.cell 5 _ rfl
          have gl := hC6.lt
          clear hC6
          go_wp2_with fail
          go_loopw [21, 22] (fun wt i wr => ∃ k : Nat, k ≤ L.length ∧ i = .int .i64 k ∧ wt = .bool (cb && !(L.take k).any (hasI ms)) ∧ Below w6.heap.size w6 wr) (fun _ i _ => L.length - (intOf i).toNat)
          case atStart => exact ⟨0, Nat.zero_le _, rfl, by simp, Below.refl _ _⟩
          case round =>
            obtain ⟨k, hk, rfl, rfl, hb⟩ := hrel
            have HB := Lib.hid hb
            by_cases hlt : k < L.length
            · obtain ⟨bx, off, rfl, hc⟩ := (HL.out.keep hb) k _ (getElem?_map_int hlt)
              have TR := Lib.hid (T.out.keep hb)
              have hany := Lib.hid (show (L.take (k + 1)).any (hasI ms) = ((L.take k).any (hasI ms) || hasI ms L[k]) by rw [List.take_succ_eq_append_getElem hlt, List.any_append]; simp)
              have HSk := Lib.hid (fun W h => HS.out L[k] W h)
              obtain ⟨x, hx⟩ : ∃ x, x = L[k] := ⟨_, rfl⟩
              rw [← hx] at hc hany HSk
              have hcl := World.block_lt_of_cell? wr _ hc
              simp only [] at hcl
              clear hb hx
              generalize (L.take k).any (hasI ms) = aa at *
              generalize hasI ms x = hx at *
              (have d0 := TR.out.d.cell 0 _ rfl; have d1 := TR.out.d.cell 1 _ rfl; have d2 := TR.out.d.cell 2 _ rfl; have dl := TR.out.d.lt)
              have I1 := Lib.hid (fun (y : Aft wr) => Calls.aft_of (x := y) (HSk.out _ (TR.out.s.keep y.h)))
              have hcs : (cb && !aa) = true ∨ (cb && !aa) = false := by cases (cb && !aa) <;> simp
              go_wp2_with fail
              (refine wp_region_aft (by kernel_rfl) (by kernel_rfl) ?_; (repeat (any_goals (first | go_big_quiet_step (with_reducible exact I1.out _) | quiet_step (with_reducible exact I1.out _) | (refine wpQuiet_step (fun K hK => ?_); go_simp; split <;> (refine hK _ ?_; clear hK K))))); all_goals (refine wpQuiet_nil ?_; intro wq hw'; obtain ⟨x1, hx1⟩ := hw'; have hbq := x1.h; rw [← hx1] at hbq; clear hx1 x1))
              rcases hcs with hcs | hcs
              · rw [hcs]
                have HN := Lib.hid (show (cb && !(aa || hx)) = !hx by cases cb <;> cases aa <;> simp_all)
                clear hcs
                go_wp2_with fail
                go_roundw
                case rel => exact ⟨k + 1, by omega, by go_num, by rw [hany.out, HN.out], HB.out.trans (hbq.mono HB.out.size)⟩
                case measure => (simp [intOf] <;> omega)
              · rw [hcs]
                have HN := Lib.hid (show (cb && !(aa || hx)) = false by cases cb <;> cases aa <;> simp_all)
                clear hcs
                go_wp2_with fail
                go_roundw
                case rel => exact ⟨k + 1, by omega, by go_num, by rw [hany.out, HN.out], HB.out.trans (hbq.mono HB.out.size)⟩
                case measure => (simp [intOf] <;> omega)
            · obtain rfl : k = L.length := by omega
              have hw : (cb && !(L.take L.length).any (hasI ms)) = th := by rw [List.take_length]; exact HFIN.out.symm
              rw [hw]
              have HBZ := Lib.hid (below_then T.out.hb hb)
              clear hb hw HFIN
              cases th <;> (go_wp2_with fail; go_returns; exact ⟨rfl, HBZ.out⟩)
        · have hy : (chk d b == 0) = false := by simpa using z1
          have CN2 := Lib.hid (fun W => by have h := CN.out W; rw [show canV d b = Bx.zero from if_neg z1] at h; exact (show Calls Try.prog 13 #[.agg #[.int .i64 d.x, .int .i64 d.y, .int .i64 d.z], .agg #[.int .i64 b.b.x, .int .i64 b.b.y, .int .i64 b.b.z, .int .i64 b.s.x, .int .i64 b.s.y, .int .i64 b.s.z]] W (RB W (.tuple #[.agg #[.int .i64 0, .int .i64 0, .int .i64 0, .int .i64 0, .int .i64 0, .int .i64 0], .int .i64 (chk d b)])) from h))
          rw [show nodesV d b = [] from if_neg z1] at ND
          have HFIN := Lib.hid (show th = false by
            rw [HTH.out, decide_eq_false_iff_not]
            exact fun hm => z1 (chk_of HD.out (HIB.out.1 hm).1.1))
          generalize chk d b = E at *
          clear z1 HIB HTH CN
          (have d0 := T.out.d.cell 0 _ rfl; have d1 := T.out.d.cell 1 _ rfl; have d2 := T.out.d.cell 2 _ rfl; have dl := T.out.d.lt)
          (have b0 := T.out.b.cell 0 _ rfl; have b1 := T.out.b.cell 1 _ rfl; have b2 := T.out.b.cell 2 _ rfl; have b3 := T.out.b.cell 3 _ rfl; have b4 := T.out.b.cell 4 _ rfl; have b5 := T.out.b.cell 5 _ rfl; have bl := T.out.b.lt)
          go_wp2_with fail
          refine (CN2.out _).mono ?_
          rintro e w5 ⟨rfl, hb⟩
          have hb5 := below_alloc hb (.cells #[.int .i64 0, .int .i64 0, .int .i64 0, .int .i64 0, .int .i64 0, .int .i64 0] 27)
          have T := Lib.hid (T.out.keep hb5)
          clear hb hb5 CN2
          clear d0 d1 d2 dl
          clear b0 b1 b2 b3 b4 b5 bl
          (have d0 := T.out.d.cell 0 _ rfl; have d1 := T.out.d.cell 1 _ rfl; have d2 := T.out.d.cell 2 _ rfl; have dl := T.out.d.lt)
          (have b0 := T.out.b.cell 0 _ rfl; have b1 := T.out.b.cell 1 _ rfl; have b2 := T.out.b.cell 2 _ rfl; have b3 := T.out.b.cell 3 _ rfl; have b4 := T.out.b.cell 4 _ rfl; have b5 := T.out.b.cell 5 _ rfl; have bl := T.out.b.lt)
          go_wp2_with fail
          refine (ND.out _).mono ?_
          rintro e w6 ⟨vn, rfl, hon, hb⟩
          have T := Lib.hid (T.out.keep hb)
          obtain ⟨bn, cn, rfl, _⟩ := own_rd hon
          rw [HFIN.out]
          clear hb hon ND HFIN
          clear d0 d1 d2 dl
          clear b0 b1 b2 b3 b4 b5 bl
          go_wp2_with fail
          refine wp_loop_rounds 1 ?_
          rw [rounds_succ]
          go_wp2_with fail
          go_returns
          exact ⟨rfl, T.out.hb⟩
  · have hv : frV d ms = [] := if_neg hz
    have hy : (frE d ms != 0) = true := by simpa using hz
    rw [hv] at FR LG
    generalize frE d ms = E at *
    clear hz hv
    go_enter Try.func3, Try.ntmps3
    go_wp2_with fail
    refine (AL.out _).mono ?_
    rintro e w1 ⟨rfl, hb⟩
    have T := Lib.hid (T.out.keep hb)
    clear hb AL
    (have d0 := T.out.d.cell 0 _ rfl; have d1 := T.out.d.cell 1 _ rfl; have d2 := T.out.d.cell 2 _ rfl; have dl := T.out.d.lt)
    go_wp2_with fail
    refine (SM.out _).mono ?_
    rintro e w2 ⟨rfl, hb⟩
    clear d0 d1 d2 dl
    have T := Lib.hid (T.out.keep hb)
    clear hb SM
    (have d0 := T.out.d.cell 0 _ rfl; have d1 := T.out.d.cell 1 _ rfl; have d2 := T.out.d.cell 2 _ rfl; have dl := T.out.d.lt)
    go_wp2_with fail
    refine (FR.out _ T.out.s).mono ?_
    rintro e w3 ⟨v, rfl, ho, hb⟩
    have T := Lib.hid (T.out.keep hb)
    obtain ⟨bv, cv, rfl, _⟩ := own_rd ho
    clear hb FR ho
    clear d0 d1 d2 dl
    (have d0 := T.out.d.cell 0 _ rfl; have d1 := T.out.d.cell 1 _ rfl; have d2 := T.out.d.cell 2 _ rfl; have dl := T.out.d.lt)
    go_wp2_with fail
    refine (LG.out _ T.out.s).mono ?_
    rintro e w4 ⟨rfl, hb⟩
    have T := Lib.hid (T.out.keep hb)
    clear hb LG
    clear d0 d1 d2 dl
    go_wp2_with fail
    go_returns
    exact ⟨by simp [topL], T.out.hb⟩
set_option maxRecDepth 100000 in set_option maxHeartbeats 4000000 in
theorem law13_GrowFree (d : V3) (b : Bx) (bs : Option Addr) (cs : Nat) (ms : List Nat) (w : World) (ha : Rd w bs (wcells ms) ∧ W64 ms) : Calls Try.prog 3 #[.agg #[.int .i64 d.x, .int .i64 d.y, .int .i64 d.z], .slice bs ms.length cs, .agg #[.int .i64 b.b.x, .int .i64 b.b.y, .int .i64 b.b.z, .int .i64 b.s.x, .int .i64 b.s.y, .int .i64 b.s.z]] w (RB w (.bool true)) := by
  have AL := Lib.hid (fun W => law13_alive W)
  by_cases l1 : 100 < ms.length
  · have q1 : decide (100 < ms.length) = true := decide_eq_true l1
    clear ha
    go_enter Try.func3, Try.ntmps3
    go_wp2_with fail
    refine (AL.out _).mono ?_
    rintro e w1 ⟨rfl, hb⟩
    have HB := Lib.hid (below_then (show Below w.heap.size w _ by (repeat (first | (with_reducible exact Below.refl _ _) | (with_reducible assumption) | (with_reducible refine below_alloc ?_ _) | (with_reducible refine below_drewN ?_ _) | (with_reducible refine Below.drew ?_) | (with_reducible refine below_then ?_ (by with_reducible assumption)) | (with_reducible refine Below.setCell ?_ (by go_size) _)))) hb)
    clear hb
    go_wp2_with fail
    go_returns
    exact ⟨rfl, HB.out⟩
  cases hsm : smallB d with
  | true => exact core_GrowFree d b bs cs ms w (SetIn.mk ha.1 (by omega) ha.2) (by omega) hsm
  | false =>
    have SM := Lib.hid (fun W => Calls.rb_eq (law13_small d W) (show Value.bool (smallB d) = .bool false by rw [hsm]))
    have q1 : decide (100 < ms.length) = false := decide_eq_false (by omega)
    clear ha hsm
    go_enter Try.func3, Try.ntmps3
    go_wp2_with fail
    refine (AL.out _).mono ?_
    rintro e w1 ⟨rfl, hb⟩
    have BD := Lib.hid (((Blk.new w 23 #[.int .i64 d.x, .int .i64 d.y, .int .i64 d.z]).alloc (.cells #[.int .i64 b.b.x, .int .i64 b.b.y, .int .i64 b.b.z, .int .i64 b.s.x, .int .i64 b.s.y, .int .i64 b.s.z] 27)).below hb)
    have HB := Lib.hid (below_then (show Below w.heap.size w ((w.alloc (.cells #[.int .i64 d.x, .int .i64 d.y, .int .i64 d.z] 23)).alloc (.cells #[.int .i64 b.b.x, .int .i64 b.b.y, .int .i64 b.b.z, .int .i64 b.s.x, .int .i64 b.s.y, .int .i64 b.s.z] 27)) by (repeat (first | (with_reducible exact Below.refl _ _) | (with_reducible assumption) | (with_reducible refine below_alloc ?_ _) | (with_reducible refine below_drewN ?_ _) | (with_reducible refine Below.drew ?_) | (with_reducible refine below_then ?_ (by with_reducible assumption)) | (with_reducible refine Below.setCell ?_ (by go_size) _)))) hb)
    clear hb
    have d0 := BD.out.cell 0 _ rfl
    have d1 := BD.out.cell 1 _ rfl
    have d2 := BD.out.cell 2 _ rfl
    go_wp2_with fail
    refine (SM.out _).mono ?_
    rintro e w2 ⟨rfl, hb⟩
    have HB := Lib.hid (below_then HB.out hb)
    clear hb d0 d1 d2
    go_wp2_with fail
    go_returns
    exact ⟨rfl, HB.out⟩

set_option maxRecDepth 100000 in set_option maxHeartbeats 4000000 in
theorem lift_growFree (os : Os) (started : os.Started) (H : Type) (enc : TypeId × Value → H) :
    ReturnsInHanded {} Try.checked os 3 .any (Rows.growFreeSpec.pre6 enc Try.prog Try.f3 Rows.growFreeRow.domain false) (Rows.growFreeSpec.post enc Try.prog Try.f3 false true false false) := by
  refine returnsInHanded_of_change (C := Try.checked) ownKnob0 started (by kernel_rfl) Try.func3
    (ChangeSpec.witness6 (enc := enc) (C := Try.checked) false ⟨#[], #[.agg #[.int .i64 0, .int .i64 0, .int .i64 0], .slice none 0 0, .agg #[.int .i64 0, .int .i64 0, .int .i64 0, .int .i64 0, .int .i64 0, .int .i64 0]], []⟩ 8 (by kernel_rfl) (by kernel_rfl) (by kernel_rfl) (by kernel_rfl)) ?_
  intro W base args ds gs before hval0 hW hcnd _
  have hval : ∀ (j : Nat) t v, Try.f3.params[j]? = some t → args[j]? = some v → Value.okWide Try.prog W .any base t v := hval0
  have hW' := hW
  obtain ⟨p, q, hA0, hV, rfl, hfz, hnd⟩ := hW
  have hA : DataW.TrodAll enc Try.prog W 0 (fun _ => true) true Try.f3.params.toList args.toList ds p := hA0
  rw [Try.params3] at hA hval
  have hK := hA
  obtain ⟨v0, vs0, d0, ds0, p0, q0, hargs, rfl, rfl, h0, r0⟩ := trodAll_cons hA
  obtain ⟨v1, vs1, d1, ds1, p1, q1, rfl, rfl, rfl, h1, r1⟩ := trodAll_cons r0
  obtain ⟨v2, vs2, d2, ds2, p2, q2, rfl, rfl, rfl, h2, r2⟩ := trodAll_cons r1
  obtain ⟨rfl, rfl, rfl⟩ := trodAll_nil r2
  obtain rfl : args = #[v0, v1, v2] := by cases args; simp_all
  obtain ⟨d, rfl⟩ := open_dims (hval 0 _ v0 rfl rfl)
  obtain ⟨bs, ms, cs, rfl, ha, _⟩ := open_set (hval 1 _ v1 rfl rfl) h1
  obtain ⟨b, rfl⟩ := open_box (hval 2 _ v2 rfl rfl)
  obtain ⟨rfl, rfl⟩ := trodVars_none hV
  clear hA0 hval0
  simp only [List.append_nil] at hW' hK
  refine (law13_GrowFree d b bs cs ms W ha).mono fun e W' ⟨he, bel⟩ => ?_
  subst he
  refine ⟨_, rfl, _, _, _, [], _, [], hW', trodAll_mk1 (shut_bool Try.underlying4 _), trodAll_below bel _ _ _ _ ?_ hK, rfl, bel.frame _, fun h => by cases h⟩
  intro t ht
  simp at ht <;> (rcases ht with rfl | rfl | rfl <;> exact ⟨by kernel_rfl, of_decide_eq_true (by kernel_rfl)⟩)

theorem holds_growFree : Rows.growFreeRow.holds Try.pinned (OpenSpec.ofChange Rows.growFreeSpec) :=
  OpenClaim.holds_of_wide 3 Try.f3 rfl rfl rfl rfl rfl rfl rfl ⟨rfl, rfl, rfl, rfl, rfl⟩ rfl rfl rfl rfl rfl (by kernel_rfl) Try.func3 (by kernel_rfl)
    (of_decide_eq_true (by kernel_rfl)) (by unfold Func.isWrapper; first | (rw [if_pos (by decide +kernel)]; kernel_rfl) | (rw [if_neg (by decide +kernel)]; exact ⟨rfl, rfl⟩))
    (fun os started H enc _ => lift_growFree os started H enc)

theorem GrowFree_holds : Rows.GrowFreeSaid := holds_growFree
end
end Go.Proofs.Ytofoenlhbmammaa
