/- WireLines: lines along an axis share out its cables: the walks along axis 1. -/
import Derived.Test.YtpooieghlceefaaWireHas
import Derived.Test.YtpooieghlceefaaWireLinesLaw
namespace Go.Proofs.Ytpooieghlceefaa
open Go.ChangeShapes Go.WideShapes Go.ChangeAt Go.RowKit Go.Shelf

set_option maxRecDepth 100000 in set_option maxHeartbeats 4000000 in
theorem wireLines_bad1 (d : V3) (a m o E F : Int) (la lb : List Int) (w : World) (h0 : 0 ≤ a ∧ a ≤ 255) (hx : a % 3 = 1) (hE : E ≠ 0 ∨ F ≠ 0) (ha : la.length ≤ 16) (hb : lb.length ≤ 16)
    (HAl : Hid (∀ W, Calls Try.prog 11 #[] W (RB W (.bool true))))
    (H1 : Hid (∀ W, Calls Try.prog 16 #[.agg #[.int .i64 d.x, .int .i64 d.y, .int .i64 d.z], .int .i64 1, .int .i64 m] W (RLE W la E))) (H2 : Hid (∀ W, Calls Try.prog 16 #[.agg #[.int .i64 d.x, .int .i64 d.y, .int .i64 d.z], .int .i64 1, .int .i64 o] W (RLE W lb F))) :
    Calls Try.prog 4 #[.agg #[.int .i64 d.x, .int .i64 d.y, .int .i64 d.z], .int .u8 a, .int .i64 m, .int .i64 o] w (RB w (.bool true)) := by
  have HL := Lib.hid (show la.length ≤ 4611686018427387904 by omega)
  have HR := Lib.hid (show lb.length ≤ 4611686018427387904 by omega)
  clear ha hb
  by_cases h1 : E = 0
  · have h2 : F ≠ 0 := by omega
    have g1 : (F != 0) = true := by simpa using h2
    subst h1
    clear hE h2
    (have HB := Lib.hid (show Below w.heap.size w (w.alloc (.cells #[.int .i64 d.x, .int .i64 d.y, .int .i64 d.z] 23)) by (repeat (first | (with_reducible exact Below.refl _ _) | (with_reducible assumption) | (with_reducible refine below_alloc ?_ _) | (with_reducible refine below_drewN ?_ _) | (with_reducible refine Below.drew ?_) | (with_reducible refine below_then ?_ (by with_reducible assumption)) | (with_reducible refine Below.setCell ?_ (by go_size) _)))); have BD := Lib.hid (Blk.new w 23 #[.int .i64 d.x, .int .i64 d.y, .int .i64 d.z]).dims)
    go_enter Try.func4, Try.ntmps4
    go_wp2_with fail
    (refine (HAl.out _).mono ?_; rintro e w1 ⟨rfl, hb⟩; (have BD := Lib.hid (BD.out.keep hb BD.out.lt); have HB := Lib.hid (below_then HB.out hb); (try have LA := Lib.hid (LA.out.keep hb)); (try have LB := Lib.hid (LB.out.keep hb))); clear hb; (have hlt := BD.out.lt; obtain ⟨d0, d1, d2⟩ := BD.out; go_wp2_with fail; clear d0 d1 d2 hlt))
    (refine (H1.out _).mono ?_; rintro e w1 ⟨v1, rfl, ho, hb⟩; (have BD := Lib.hid (BD.out.keep hb BD.out.lt); have HB := Lib.hid (below_then HB.out hb); (try have LA := Lib.hid (LA.out.keep hb)); (try have LB := Lib.hid (LB.out.keep hb))); have LA := Lib.hid (ls_of_own ho HL.out); clear ho hb; (have hlt := BD.out.lt; obtain ⟨d0, d1, d2⟩ := BD.out; go_wp2_with fail; clear d0 d1 d2 hlt))
    (refine (H2.out _).mono ?_; rintro e w1 ⟨v1, rfl, ho, hb⟩; (have BD := Lib.hid (BD.out.keep hb BD.out.lt); have HB := Lib.hid (below_then HB.out hb); (try have LA := Lib.hid (LA.out.keep hb)); (try have LB := Lib.hid (LB.out.keep hb))); have LB := Lib.hid (ls_of_own ho HR.out); clear ho hb; (have hlt := BD.out.lt; obtain ⟨d0, d1, d2⟩ := BD.out; go_wp2_with fail; clear d0 d1 d2 hlt))
    go_returns
    exact ⟨rfl, HB.out⟩
  · have g1 : (E != 0) = true := by simpa using h1
    clear hE h1
    (have HB := Lib.hid (show Below w.heap.size w (w.alloc (.cells #[.int .i64 d.x, .int .i64 d.y, .int .i64 d.z] 23)) by (repeat (first | (with_reducible exact Below.refl _ _) | (with_reducible assumption) | (with_reducible refine below_alloc ?_ _) | (with_reducible refine below_drewN ?_ _) | (with_reducible refine Below.drew ?_) | (with_reducible refine below_then ?_ (by with_reducible assumption)) | (with_reducible refine Below.setCell ?_ (by go_size) _)))); have BD := Lib.hid (Blk.new w 23 #[.int .i64 d.x, .int .i64 d.y, .int .i64 d.z]).dims)
    go_enter Try.func4, Try.ntmps4
    go_wp2_with fail
    (refine (HAl.out _).mono ?_; rintro e w1 ⟨rfl, hb⟩; (have BD := Lib.hid (BD.out.keep hb BD.out.lt); have HB := Lib.hid (below_then HB.out hb); (try have LA := Lib.hid (LA.out.keep hb)); (try have LB := Lib.hid (LB.out.keep hb))); clear hb; (have hlt := BD.out.lt; obtain ⟨d0, d1, d2⟩ := BD.out; go_wp2_with fail; clear d0 d1 d2 hlt))
    (refine (H1.out _).mono ?_; rintro e w1 ⟨v1, rfl, ho, hb⟩; (have BD := Lib.hid (BD.out.keep hb BD.out.lt); have HB := Lib.hid (below_then HB.out hb); (try have LA := Lib.hid (LA.out.keep hb)); (try have LB := Lib.hid (LB.out.keep hb))); have LA := Lib.hid (ls_of_own ho HL.out); clear ho hb; (have hlt := BD.out.lt; obtain ⟨d0, d1, d2⟩ := BD.out; go_wp2_with fail; clear d0 d1 d2 hlt))
    (refine (H2.out _).mono ?_; rintro e w1 ⟨v1, rfl, ho, hb⟩; (have BD := Lib.hid (BD.out.keep hb BD.out.lt); have HB := Lib.hid (below_then HB.out hb); (try have LA := Lib.hid (LA.out.keep hb)); (try have LB := Lib.hid (LB.out.keep hb))); have LB := Lib.hid (ls_of_own ho HR.out); clear ho hb; (have hlt := BD.out.lt; obtain ⟨d0, d1, d2⟩ := BD.out; go_wp2_with fail; clear d0 d1 d2 hlt))
    go_returns
    exact ⟨rfl, HB.out⟩
set_option maxRecDepth 100000 in set_option maxHeartbeats 4000000 in
theorem wireLines_ok1true (d : V3) (a m o : Int) (la : List Int) (S : Nat → Int) (am : Nat → Bool) (w : World) (h0 : 0 ≤ a ∧ a ≤ 255) (hx : a % 3 = 1) (hd : d.may) (m9 : 0 ≤ m ∧ m < d.n)
    (ha : (((la.length : Nat) : Int)) = if d.y = 1 then 0 else d.y)
    (am0 : am 0 = false) (ams : ∀ i, am (i + 1) = (am i || decide (S i = o))) (amN : am (d.y).toNat = true)
    (hrise : la.Pairwise (· < ·))
    (hends : ∀ x, x ∈ la → ∃ fr t, (fr = m → x = 1 * d.n + m) ∧ Hid (∀ W, Calls Try.prog 13 #[.agg #[.int .i64 d.x, .int .i64 d.y, .int .i64 d.z], .int .i64 x] W (RB W (.tuple #[.int .i64 1, .int .i64 fr, .int .i64 t, .int .i64 0]))))
    (HAl : Hid (∀ W, Calls Try.prog 11 #[] W (RB W (.bool true))))
    (H1 : Hid (∀ W, Calls Try.prog 16 #[.agg #[.int .i64 d.x, .int .i64 d.y, .int .i64 d.z], .int .i64 1, .int .i64 m] W (RLE W la 0))) (H2 : Hid (∀ W, Calls Try.prog 16 #[.agg #[.int .i64 d.x, .int .i64 d.y, .int .i64 d.z], .int .i64 1, .int .i64 o] W (RLE W la 0)))
    (HS : Hid (∀ (i : Nat), i ≤ 1000 → ∀ W, Calls Try.prog 14 #[.agg #[.int .i64 d.x, .int .i64 d.y, .int .i64 d.z], .int .i64 m, .int .i64 1, .int .i64 i] W (RB W (.tuple #[.int .i64 (S i), .int .i64 0])))) :
    Calls Try.prog 4 #[.agg #[.int .i64 d.x, .int .i64 d.y, .int .i64 d.z], .int .u8 a, .int .i64 m, .int .i64 o] w (RB w (.bool true)) := by
  have hnn := V3.n_le hd
  have hxy := V3.xy_le hd
  have hdd := hd
  unfold V3.may at hdd
  have z1 : la.length ≤ 16 := by split at ha <;> omega
  have HL := Lib.hid (show la.length ≤ 4611686018427387904 by omega)
  have HR := Lib.hid (show la.length ≤ 4611686018427387904 by omega)
  have HLa := Lib.hid ha
  have HAm0 := Lib.hid am0
  have HAms := Lib.hid ams
  have HAmN := Lib.hid amN
  have HRise := Lib.hid hrise
  have HEnds := Lib.hid hends
  have HNN := Lib.hid hnn
  have HXY := Lib.hid hxy
  have m0 := m9.1
  have m1 : m < 4096 := by omega
  clear ha am0 ams amN hrise hends hd hnn hxy m9
  (have HB := Lib.hid (show Below w.heap.size w (w.alloc (.cells #[.int .i64 d.x, .int .i64 d.y, .int .i64 d.z] 23)) by (repeat (first | (with_reducible exact Below.refl _ _) | (with_reducible assumption) | (with_reducible refine below_alloc ?_ _) | (with_reducible refine below_drewN ?_ _) | (with_reducible refine Below.drew ?_) | (with_reducible refine below_then ?_ (by with_reducible assumption)) | (with_reducible refine Below.setCell ?_ (by go_size) _)))); have BD := Lib.hid (Blk.new w 23 #[.int .i64 d.x, .int .i64 d.y, .int .i64 d.z]).dims)
  go_enter Try.func4, Try.ntmps4
  go_wp2_with fail
  (refine (HAl.out _).mono ?_; rintro e w1 ⟨rfl, hb⟩; (have BD := Lib.hid (BD.out.keep hb BD.out.lt); have HB := Lib.hid (below_then HB.out hb); (try have LA := Lib.hid (LA.out.keep hb)); (try have LB := Lib.hid (LB.out.keep hb))); clear hb; (have hlt := BD.out.lt; obtain ⟨d0, d1, d2⟩ := BD.out; go_wp2_with fail; clear d0 d1 d2 hlt))
  (refine (H1.out _).mono ?_; rintro e w1 ⟨v1, rfl, ho, hb⟩; (have BD := Lib.hid (BD.out.keep hb BD.out.lt); have HB := Lib.hid (below_then HB.out hb); (try have LA := Lib.hid (LA.out.keep hb)); (try have LB := Lib.hid (LB.out.keep hb))); have LA := Lib.hid (ls_of_own ho HL.out); clear ho hb; (have hlt := BD.out.lt; obtain ⟨d0, d1, d2⟩ := BD.out; go_wp2_with fail; clear d0 d1 d2 hlt))
  refine (H2.out _).mono ?_
  rintro e w1 ⟨v2, rfl, ho, hb⟩
  (have BD := Lib.hid (BD.out.keep hb BD.out.lt); have HB := Lib.hid (below_then HB.out hb); (try have LA := Lib.hid (LA.out.keep hb)); (try have LB := Lib.hid (LB.out.keep hb)))
  have LB := Lib.hid (ls_of_own ho HR.out)
  clear ho hb
  obtain ⟨ba, ca, rfl, _⟩ := LA.out.ex
  obtain ⟨bb, cb, rfl, _⟩ := LB.out.ex
  go_wp2_with fail
  go_loopw [15, 16] (fun v a wr => ∃ i : Nat, (i : Int) ≤ d.y ∧ a = .int .i64 i ∧ v = .bool (am i) ∧ Below w1.heap.size w1 wr) (fun _ a _ => (d.y).toNat - (intOf a).toNat)
  case atStart => exact ⟨0, by omega, rfl, by rw [HAm0.out], Below.refl _ _⟩
  case round =>
    obtain ⟨i, hi, rfl, rfl, hbel⟩ := hrel
    (have BD := Lib.hid (BD.out.keep hbel BD.out.lt); have HB := Lib.hid (below_then HB.out hbel); (try have LA := Lib.hid (LA.out.keep hbel)); (try have LB := Lib.hid (LB.out.keep hbel)))
    have HW := Lib.hid hbel
    clear hbel
    by_cases hlt : (i : Int) < d.y
    · have HSi := Lib.hid (fun W => HS.out i (by omega) W)
      have HA1 := Lib.hid (HAms.out i)
      obtain ⟨s, hs⟩ : ∃ s, s = S i := ⟨_, rfl⟩
      rw [← hs] at HSi HA1
      clear hs
      have hlt0 := BD.out.lt
      obtain ⟨d0, d1, d2⟩ := BD.out
      cases hai : am i with
      | true =>
        have HA2 := Lib.hid (show am (i + 1) = true by rw [HA1.out, hai]; rfl)
        clear hai
        go_wp2_with fail
        refine (HSi.out _).mono ?_
        rintro e w2 ⟨rfl, hb⟩
        have HW := Lib.hid (below_then HW.out hb)
        clear hb
        go_wp2_with fail
        go_roundw
        case rel => exact ⟨i + 1, by omega, by go_num, by rw [HA2.out], HW.out⟩
        case measure => (simp [intOf] <;> omega)
      | false =>
        by_cases hso : s = o
        · have HA2 := Lib.hid (show am (i + 1) = true by rw [HA1.out, hai, decide_eq_true hso]; rfl)
          have hq : (s == o) = true := by simpa using hso
          clear hai hso
          go_wp2_with fail
          refine (HSi.out _).mono ?_
          rintro e w2 ⟨rfl, hb⟩
          have HW := Lib.hid (below_then HW.out hb)
          clear hb
          go_wp2_with fail
          go_roundw
          case rel => exact ⟨i + 1, by omega, by go_num, by rw [HA2.out], HW.out⟩
          case measure => (simp [intOf] <;> omega)
        · have HA2 := Lib.hid (show am (i + 1) = false by rw [HA1.out, hai, decide_eq_false hso]; rfl)
          have hq : (s == o) = false := by simpa using hso
          clear hai hso
          go_wp2_with fail
          refine (HSi.out _).mono ?_
          rintro e w2 ⟨rfl, hb⟩
          have HW := Lib.hid (below_then HW.out hb)
          clear hb
          go_wp2_with fail
          go_roundw
          case rel => exact ⟨i + 1, by omega, by go_num, by rw [HA2.out], HW.out⟩
          case measure => (simp [intOf] <;> omega)
    · obtain rfl : i = (d.y).toNat := by omega
      have hamN := HAmN.out
      have hlt0 := BD.out.lt
      clear hi
      by_cases hx1 : d.y = 1
      · have e1 := HLa.out
        have e2 := HLa.out
        rw [if_pos hx1] at e1 e2
        obtain rfl : la = [] := List.length_eq_zero_iff.1 (by omega)
        have hq : (d.y == 1) = true := by simpa using hx1
        clear e1 e2 hx1
        obtain ⟨d0, d1, d2⟩ := BD.out
        go_wp2_with fail
        refine (s_Ints1 LA.out LB.out).mono ?_
        rintro e W0 ⟨rfl, hb⟩
        (have BD := Lib.hid (BD.out.keep hb BD.out.lt); have HB := Lib.hid (below_then HB.out hb); (try have LA := Lib.hid (LA.out.keep hb)); (try have LB := Lib.hid (LB.out.keep hb)))
        clear hb
        go_wp2_with fail
        refine wp_loop_rounds 1 ?_
        go_wp2_with (rw [rounds_succ])
        go_returns
        exact ⟨rfl, HB.out⟩
      · have e1 := HLa.out
        have e2 := HLa.out
        rw [if_neg hx1] at e1 e2
        have q1 : (((la.length : Nat) : Int) != d.y) = false := by rw [e1]; simp
        have q2 : (((la.length : Nat) : Int) != d.y) = false := by rw [e2]; simp
        have hq : (d.y == 1) = false := by simpa using hx1
        clear e1 e2 hx1
        obtain ⟨d0, d1, d2⟩ := BD.out
        go_wp2_with fail
        refine (s_Ints1 LA.out LB.out).mono ?_
        rintro e W0 ⟨rfl, hb⟩
        (have BD := Lib.hid (BD.out.keep hb BD.out.lt); have HB := Lib.hid (below_then HB.out hb); (try have LA := Lib.hid (LA.out.keep hb)); (try have LB := Lib.hid (LB.out.keep hb)))
        clear hb
        go_wp2_with fail
        clear d0 d1 d2 q1 q2 hq hlt
        go_loopw [20] (fun v wy => ∃ k : Nat, k ≤ la.length ∧ v = .int .i64 k ∧ Below W0.heap.size W0 wy) (fun v _ => la.length - (intOf v).toNat)
        case atStart => exact ⟨0, Nat.zero_le _, rfl, Below.refl _ _⟩
        case round =>
          obtain ⟨k, hk, rfl, hbel⟩ := hrel
          (have BD := Lib.hid (BD.out.keep hbel BD.out.lt); have HB := Lib.hid (below_then HB.out hbel); (try have LA := Lib.hid (LA.out.keep hbel)); (try have LB := Lib.hid (LB.out.keep hbel)))
          have HW := Lib.hid hbel
          clear hbel
          by_cases hlt : k < la.length
          · obtain ⟨x, hxx⟩ : ∃ x, la[k]? = some x := ⟨_, List.getElem?_eq_getElem hlt⟩
            have HM := Lib.hid (List.mem_of_getElem? hxx)
            obtain ⟨fr, t, hfr, hE⟩ := HEnds.out x HM.out
            have HFr := Lib.hid hfr
            have HE := Lib.hid hE
            clear hfr hE
            obtain ⟨gA, oA, eA⟩ := LA.out.addr hxx
            cases eA
            have hca := LA.out.cell hxx
            have hgl := World.block_lt_of_cell? _ _ hca
            simp only [] at hgl
            have HX := Lib.hid hxx
            clear hxx
            have hltk := hlt
            have hlt0 := BD.out.lt
            obtain ⟨d0, d1, d2⟩ := BD.out
            skip
            rcases Nat.eq_zero_or_pos k with hk0 | hk0
            · subst hk0
              rw [Nat.add_zero] at hca
              go_wp2_with fail
              (refine wp_region_aft (by kernel_rfl) (by kernel_rfl) ?_; (repeat (any_goals (first | go_big_quiet_step (fail) | quiet_step (fail) | (refine wpQuiet_step (fun K hK => ?_); go_simp; split <;> (refine hK _ ?_; clear hK K))))); all_goals (refine wpQuiet_nil ?_; intro wq hw'; obtain ⟨x1, hx1⟩ := hw'; have hbq := x1.h; rw [← hx1] at hbq; clear hx1 x1))
              (have BD := Lib.hid (BD.out.keep hbq BD.out.lt); have HB := Lib.hid (below_then HB.out hbq); (try have LA := Lib.hid (LA.out.keep hbq)); (try have LB := Lib.hid (LB.out.keep hbq))); have HW := Lib.hid (below_then HW.out hbq); clear hbq
              clear hca hgl hlt0 d0 d1 d2
              have hca := LA.out.cell HX.out; have hgl := World.block_lt_of_cell? _ _ hca; (simp only [] at hgl); have hlt0 := BD.out.lt; obtain ⟨d0, d1, d2⟩ := BD.out
              rw [Nat.add_zero] at hca
              go_wp2_with fail
              (refine wp_region_aft (by kernel_rfl) (by kernel_rfl) ?_; (repeat (any_goals (first | go_big_quiet_step ((go_at_call 13; refine Calls.aft_of (HE.out _))) | quiet_step ((go_at_call 13; refine Calls.aft_of (HE.out _))) | (refine wpQuiet_step (fun K hK => ?_); go_simp; split <;> (refine hK _ ?_; clear hK K))))); all_goals (refine wpQuiet_nil ?_; intro wq hw'; obtain ⟨x1, hx1⟩ := hw'; have hbq := x1.h; rw [← hx1] at hbq; clear hx1 x1))
              (have BD := Lib.hid (BD.out.keep hbq BD.out.lt); have HB := Lib.hid (below_then HB.out hbq); (try have LA := Lib.hid (LA.out.keep hbq)); (try have LB := Lib.hid (LB.out.keep hbq))); have HW := Lib.hid (below_then HW.out hbq); clear hbq
              clear hca hgl hlt0 d0 d1 d2
              have hca := LA.out.cell HX.out; have hgl := World.block_lt_of_cell? _ _ hca; (simp only [] at hgl); have hlt0 := BD.out.lt; obtain ⟨d0, d1, d2⟩ := BD.out
              rw [Nat.add_zero] at hca
              by_cases hfm : fr = m
              · have hfq : (fr == m) = true := by simpa using hfm
                have hxq : (x != (d.x * d.y * d.z + m)) = false := by have := HFr.out hfm; simp; rw [this]; unfold V3.n; (try simp only [Int.mul_assoc]) <;> omega
                obtain ⟨bxy, bn⟩ := And.intro HXY.out HNN.out; unfold V3.n at bn
                clear hfm
                go_wp2_with fail
                (refine wp_region_aft (by kernel_rfl) (by kernel_rfl) ?_; (repeat (any_goals (first | go_big_quiet_step (fail) | quiet_step (fail) | (refine wpQuiet_step (fun K hK => ?_); go_simp; split <;> (refine hK _ ?_; clear hK K))))); all_goals (refine wpQuiet_nil ?_; intro wq hw'; obtain ⟨x1, hx1⟩ := hw'; have hbq := x1.h; rw [← hx1] at hbq; clear hx1 x1))
                have HW := Lib.hid (below_then HW.out hbq)
                clear hbq
                go_wp2_with fail
                go_roundw
                case rel => exact ⟨0 + 1, by omega, by go_num, HW.out⟩
                case measure => (simp [intOf] <;> omega)
              · have hfq : (fr == m) = false := by simpa using hfm
                obtain ⟨bxy, bn⟩ := And.intro HXY.out HNN.out; unfold V3.n at bn
                clear hfm
                go_wp2_with fail
                (refine wp_region_aft (by kernel_rfl) (by kernel_rfl) ?_; (repeat (any_goals (first | go_big_quiet_step (fail) | quiet_step (fail) | (refine wpQuiet_step (fun K hK => ?_); go_simp; split <;> (refine hK _ ?_; clear hK K))))); all_goals (refine wpQuiet_nil ?_; intro wq hw'; obtain ⟨x1, hx1⟩ := hw'; have hbq := x1.h; rw [← hx1] at hbq; clear hx1 x1))
                have HW := Lib.hid (below_then HW.out hbq)
                clear hbq
                go_wp2_with fail
                go_roundw
                case rel => exact ⟨0 + 1, by omega, by go_num, HW.out⟩
                case measure => (simp [intOf] <;> omega)
            · obtain ⟨j, rfl⟩ : ∃ j, k = j + 1 := ⟨k - 1, by omega⟩
              obtain ⟨y, hyy⟩ : ∃ y, la[j]? = some y := ⟨_, List.getElem?_eq_getElem (by omega)⟩
              have hcy := LA.out.cell hyy
              have hyx : decide (x ≤ y) = false := decide_eq_false (by
                have := List.pairwise_iff_getElem.1 HRise.out j (j + 1) (by omega) hlt (by omega)
                rw [List.getElem?_eq_getElem (by omega)] at hyy
                have hxx := HX.out
                rw [List.getElem?_eq_getElem hlt] at hxx
                cases hyy
                cases hxx
                omega)
              have hca2 := hca
              rw [← Nat.add_assoc] at hca2
              go_wp2_with fail
              (refine wp_region_aft (by kernel_rfl) (by kernel_rfl) ?_; (repeat (any_goals (first | go_big_quiet_step (fail) | quiet_step (fail) | (refine wpQuiet_step (fun K hK => ?_); go_simp; split <;> (refine hK _ ?_; clear hK K))))); all_goals (refine wpQuiet_nil ?_; intro wq hw'; obtain ⟨x1, hx1⟩ := hw'; have hbq := x1.h; rw [← hx1] at hbq; clear hx1 x1))
              (have BD := Lib.hid (BD.out.keep hbq BD.out.lt); have HB := Lib.hid (below_then HB.out hbq); (try have LA := Lib.hid (LA.out.keep hbq)); (try have LB := Lib.hid (LB.out.keep hbq))); have HW := Lib.hid (below_then HW.out hbq); clear hbq
              clear hca hgl hcy hca2 hyx hyy hlt0 d0 d1 d2
              have hca := LA.out.cell HX.out; have hgl := World.block_lt_of_cell? _ _ hca; (simp only [] at hgl); have hlt0 := BD.out.lt; obtain ⟨d0, d1, d2⟩ := BD.out
              have hca2 := hca
              rw [← Nat.add_assoc] at hca2
              go_wp2_with fail
              (refine wp_region_aft (by kernel_rfl) (by kernel_rfl) ?_; (repeat (any_goals (first | go_big_quiet_step ((go_at_call 13; refine Calls.aft_of (HE.out _))) | quiet_step ((go_at_call 13; refine Calls.aft_of (HE.out _))) | (refine wpQuiet_step (fun K hK => ?_); go_simp; split <;> (refine hK _ ?_; clear hK K))))); all_goals (refine wpQuiet_nil ?_; intro wq hw'; obtain ⟨x1, hx1⟩ := hw'; have hbq := x1.h; rw [← hx1] at hbq; clear hx1 x1))
              (have BD := Lib.hid (BD.out.keep hbq BD.out.lt); have HB := Lib.hid (below_then HB.out hbq); (try have LA := Lib.hid (LA.out.keep hbq)); (try have LB := Lib.hid (LB.out.keep hbq))); have HW := Lib.hid (below_then HW.out hbq); clear hbq
              clear hca hgl hlt0 d0 d1 d2
              have hca := LA.out.cell HX.out; have hgl := World.block_lt_of_cell? _ _ hca; (simp only [] at hgl); have hlt0 := BD.out.lt; obtain ⟨d0, d1, d2⟩ := BD.out
              have hca2 := hca
              rw [← Nat.add_assoc] at hca2
              by_cases hfm : fr = m
              · have hfq : (fr == m) = true := by simpa using hfm
                have hxq : (x != (d.x * d.y * d.z + m)) = false := by have := HFr.out hfm; simp; rw [this]; unfold V3.n; (try simp only [Int.mul_assoc]) <;> omega
                obtain ⟨bxy, bn⟩ := And.intro HXY.out HNN.out; unfold V3.n at bn
                clear hfm
                go_wp2_with fail
                (refine wp_region_aft (by kernel_rfl) (by kernel_rfl) ?_; (repeat (any_goals (first | go_big_quiet_step (fail) | quiet_step (fail) | (refine wpQuiet_step (fun K hK => ?_); go_simp; split <;> (refine hK _ ?_; clear hK K))))); all_goals (refine wpQuiet_nil ?_; intro wq hw'; obtain ⟨x1, hx1⟩ := hw'; have hbq := x1.h; rw [← hx1] at hbq; clear hx1 x1))
                have HW := Lib.hid (below_then HW.out hbq)
                clear hbq
                go_wp2_with fail
                go_roundw
                case rel => exact ⟨(j + 1) + 1, by omega, by go_num, HW.out⟩
                case measure => (simp [intOf] <;> omega)
              · have hfq : (fr == m) = false := by simpa using hfm
                obtain ⟨bxy, bn⟩ := And.intro HXY.out HNN.out; unfold V3.n at bn
                clear hfm
                go_wp2_with fail
                (refine wp_region_aft (by kernel_rfl) (by kernel_rfl) ?_; (repeat (any_goals (first | go_big_quiet_step (fail) | quiet_step (fail) | (refine wpQuiet_step (fun K hK => ?_); go_simp; split <;> (refine hK _ ?_; clear hK K))))); all_goals (refine wpQuiet_nil ?_; intro wq hw'; obtain ⟨x1, hx1⟩ := hw'; have hbq := x1.h; rw [← hx1] at hbq; clear hx1 x1))
                have HW := Lib.hid (below_then HW.out hbq)
                clear hbq
                go_wp2_with fail
                go_roundw
                case rel => exact ⟨(j + 1) + 1, by omega, by go_num, HW.out⟩
                case measure => (simp [intOf] <;> omega)
          · obtain rfl : k = la.length := by omega
            go_wp2_with fail
            go_returns
            exact ⟨rfl, HB.out⟩
set_option maxRecDepth 100000 in set_option maxHeartbeats 4000000 in
theorem wireLines_ok1false (d : V3) (a m o : Int) (la lb : List Int) (S : Nat → Int) (am : Nat → Bool) (w : World) (h0 : 0 ≤ a ∧ a ≤ 255) (hx : a % 3 = 1) (hd : d.may) (m9 : 0 ≤ m ∧ m < d.n)
    (ha : (((la.length : Nat) : Int)) = if d.y = 1 then 0 else d.y) (hb : (((lb.length : Nat) : Int)) = if d.y = 1 then 0 else d.y)
    (am0 : am 0 = false) (ams : ∀ i, am (i + 1) = (am i || decide (S i = o))) (amN : am (d.y).toNat = false)
    (hfact : ∀ x, x ∈ la → ¬ x ∈ lb) (hrise : la.Pairwise (· < ·))
    (hends : ∀ x, x ∈ la → ∃ fr t, (fr = m → x = 1 * d.n + m) ∧ Hid (∀ W, Calls Try.prog 13 #[.agg #[.int .i64 d.x, .int .i64 d.y, .int .i64 d.z], .int .i64 x] W (RB W (.tuple #[.int .i64 1, .int .i64 fr, .int .i64 t, .int .i64 0]))))
    (HAl : Hid (∀ W, Calls Try.prog 11 #[] W (RB W (.bool true))))
    (H1 : Hid (∀ W, Calls Try.prog 16 #[.agg #[.int .i64 d.x, .int .i64 d.y, .int .i64 d.z], .int .i64 1, .int .i64 m] W (RLE W la 0))) (H2 : Hid (∀ W, Calls Try.prog 16 #[.agg #[.int .i64 d.x, .int .i64 d.y, .int .i64 d.z], .int .i64 1, .int .i64 o] W (RLE W lb 0)))
    (HS : Hid (∀ (i : Nat), i ≤ 1000 → ∀ W, Calls Try.prog 14 #[.agg #[.int .i64 d.x, .int .i64 d.y, .int .i64 d.z], .int .i64 m, .int .i64 1, .int .i64 i] W (RB W (.tuple #[.int .i64 (S i), .int .i64 0])))) :
    Calls Try.prog 4 #[.agg #[.int .i64 d.x, .int .i64 d.y, .int .i64 d.z], .int .u8 a, .int .i64 m, .int .i64 o] w (RB w (.bool true)) := by
  have hnn := V3.n_le hd
  have hxy := V3.xy_le hd
  have hdd := hd
  unfold V3.may at hdd
  have z1 : la.length ≤ 16 := by split at ha <;> omega
  have z2 : lb.length ≤ 16 := by split at hb <;> omega
  have HL := Lib.hid (show la.length ≤ 4611686018427387904 by omega)
  have HR := Lib.hid (show lb.length ≤ 4611686018427387904 by omega)
  have HLa := Lib.hid ha
  have HLb := Lib.hid hb
  have HAm0 := Lib.hid am0
  have HAms := Lib.hid ams
  have HAmN := Lib.hid amN
  have HFact := Lib.hid hfact
  have HRise := Lib.hid hrise
  have HEnds := Lib.hid hends
  have HNN := Lib.hid hnn
  have HXY := Lib.hid hxy
  have m0 := m9.1
  have m1 : m < 4096 := by omega
  clear ha hb am0 ams amN hfact hrise hends hd hnn hxy m9
  (have HB := Lib.hid (show Below w.heap.size w (w.alloc (.cells #[.int .i64 d.x, .int .i64 d.y, .int .i64 d.z] 23)) by (repeat (first | (with_reducible exact Below.refl _ _) | (with_reducible assumption) | (with_reducible refine below_alloc ?_ _) | (with_reducible refine below_drewN ?_ _) | (with_reducible refine Below.drew ?_) | (with_reducible refine below_then ?_ (by with_reducible assumption)) | (with_reducible refine Below.setCell ?_ (by go_size) _)))); have BD := Lib.hid (Blk.new w 23 #[.int .i64 d.x, .int .i64 d.y, .int .i64 d.z]).dims)
  go_enter Try.func4, Try.ntmps4
  go_wp2_with fail
  (refine (HAl.out _).mono ?_; rintro e w1 ⟨rfl, hb⟩; (have BD := Lib.hid (BD.out.keep hb BD.out.lt); have HB := Lib.hid (below_then HB.out hb); (try have LA := Lib.hid (LA.out.keep hb)); (try have LB := Lib.hid (LB.out.keep hb))); clear hb; (have hlt := BD.out.lt; obtain ⟨d0, d1, d2⟩ := BD.out; go_wp2_with fail; clear d0 d1 d2 hlt))
  (refine (H1.out _).mono ?_; rintro e w1 ⟨v1, rfl, ho, hb⟩; (have BD := Lib.hid (BD.out.keep hb BD.out.lt); have HB := Lib.hid (below_then HB.out hb); (try have LA := Lib.hid (LA.out.keep hb)); (try have LB := Lib.hid (LB.out.keep hb))); have LA := Lib.hid (ls_of_own ho HL.out); clear ho hb; (have hlt := BD.out.lt; obtain ⟨d0, d1, d2⟩ := BD.out; go_wp2_with fail; clear d0 d1 d2 hlt))
  refine (H2.out _).mono ?_
  rintro e w1 ⟨v2, rfl, ho, hb⟩
  (have BD := Lib.hid (BD.out.keep hb BD.out.lt); have HB := Lib.hid (below_then HB.out hb); (try have LA := Lib.hid (LA.out.keep hb)); (try have LB := Lib.hid (LB.out.keep hb)))
  have LB := Lib.hid (ls_of_own ho HR.out)
  clear ho hb
  obtain ⟨ba, ca, rfl, _⟩ := LA.out.ex
  obtain ⟨bb, cb, rfl, _⟩ := LB.out.ex
  go_wp2_with fail
  go_loopw [15, 16] (fun v a wr => ∃ i : Nat, (i : Int) ≤ d.y ∧ a = .int .i64 i ∧ v = .bool (am i) ∧ Below w1.heap.size w1 wr) (fun _ a _ => (d.y).toNat - (intOf a).toNat)
  case atStart => exact ⟨0, by omega, rfl, by rw [HAm0.out], Below.refl _ _⟩
  case round =>
    obtain ⟨i, hi, rfl, rfl, hbel⟩ := hrel
    (have BD := Lib.hid (BD.out.keep hbel BD.out.lt); have HB := Lib.hid (below_then HB.out hbel); (try have LA := Lib.hid (LA.out.keep hbel)); (try have LB := Lib.hid (LB.out.keep hbel)))
    have HW := Lib.hid hbel
    clear hbel
    by_cases hlt : (i : Int) < d.y
    · have HSi := Lib.hid (fun W => HS.out i (by omega) W)
      have HA1 := Lib.hid (HAms.out i)
      obtain ⟨s, hs⟩ : ∃ s, s = S i := ⟨_, rfl⟩
      rw [← hs] at HSi HA1
      clear hs
      have hlt0 := BD.out.lt
      obtain ⟨d0, d1, d2⟩ := BD.out
      cases hai : am i with
      | true =>
        have HA2 := Lib.hid (show am (i + 1) = true by rw [HA1.out, hai]; rfl)
        clear hai
        go_wp2_with fail
        refine (HSi.out _).mono ?_
        rintro e w2 ⟨rfl, hb⟩
        have HW := Lib.hid (below_then HW.out hb)
        clear hb
        go_wp2_with fail
        go_roundw
        case rel => exact ⟨i + 1, by omega, by go_num, by rw [HA2.out], HW.out⟩
        case measure => (simp [intOf] <;> omega)
      | false =>
        by_cases hso : s = o
        · have HA2 := Lib.hid (show am (i + 1) = true by rw [HA1.out, hai, decide_eq_true hso]; rfl)
          have hq : (s == o) = true := by simpa using hso
          clear hai hso
          go_wp2_with fail
          refine (HSi.out _).mono ?_
          rintro e w2 ⟨rfl, hb⟩
          have HW := Lib.hid (below_then HW.out hb)
          clear hb
          go_wp2_with fail
          go_roundw
          case rel => exact ⟨i + 1, by omega, by go_num, by rw [HA2.out], HW.out⟩
          case measure => (simp [intOf] <;> omega)
        · have HA2 := Lib.hid (show am (i + 1) = false by rw [HA1.out, hai, decide_eq_false hso]; rfl)
          have hq : (s == o) = false := by simpa using hso
          clear hai hso
          go_wp2_with fail
          refine (HSi.out _).mono ?_
          rintro e w2 ⟨rfl, hb⟩
          have HW := Lib.hid (below_then HW.out hb)
          clear hb
          go_wp2_with fail
          go_roundw
          case rel => exact ⟨i + 1, by omega, by go_num, by rw [HA2.out], HW.out⟩
          case measure => (simp [intOf] <;> omega)
    · obtain rfl : i = (d.y).toNat := by omega
      have hamN := HAmN.out
      have hlt0 := BD.out.lt
      clear hi
      by_cases hx1 : d.y = 1
      · have e1 := HLa.out
        have e2 := HLb.out
        rw [if_pos hx1] at e1 e2
        obtain rfl : la = [] := List.length_eq_zero_iff.1 (by omega)
        obtain rfl : lb = [] := List.length_eq_zero_iff.1 (by omega)
        have hq : (d.y == 1) = true := by simpa using hx1
        clear e1 e2 hx1
        obtain ⟨d0, d1, d2⟩ := BD.out
        go_wp2_with fail
        refine wp_loop_rounds 1 ?_
        go_wp2_with (rw [rounds_succ])
        go_returns
        exact ⟨rfl, HB.out⟩
      · have e1 := HLa.out
        have e2 := HLb.out
        rw [if_neg hx1] at e1 e2
        have q1 : (((la.length : Nat) : Int) != d.y) = false := by rw [e1]; simp
        have q2 : (((lb.length : Nat) : Int) != d.y) = false := by rw [e2]; simp
        have hq : (d.y == 1) = false := by simpa using hx1
        clear e1 e2 hx1
        obtain ⟨d0, d1, d2⟩ := BD.out
        go_wp2_with fail
        clear d0 d1 d2 q1 q2 hq hlt
        go_loopw [20] (fun v wy => ∃ k : Nat, k ≤ la.length ∧ v = .int .i64 k ∧ Below wr.heap.size wr wy) (fun v _ => la.length - (intOf v).toNat)
        case atStart => exact ⟨0, Nat.zero_le _, rfl, Below.refl _ _⟩
        case round =>
          obtain ⟨k, hk, rfl, hbel⟩ := hrel
          (have BD := Lib.hid (BD.out.keep hbel BD.out.lt); have HB := Lib.hid (below_then HB.out hbel); (try have LA := Lib.hid (LA.out.keep hbel)); (try have LB := Lib.hid (LB.out.keep hbel)))
          have HW := Lib.hid hbel
          clear hbel
          by_cases hlt : k < la.length
          · obtain ⟨x, hxx⟩ : ∃ x, la[k]? = some x := ⟨_, List.getElem?_eq_getElem hlt⟩
            have HM := Lib.hid (List.mem_of_getElem? hxx)
            obtain ⟨fr, t, hfr, hE⟩ := HEnds.out x HM.out
            have HFr := Lib.hid hfr
            have HE := Lib.hid hE
            clear hfr hE
            obtain ⟨gA, oA, eA⟩ := LA.out.addr hxx
            cases eA
            have hca := LA.out.cell hxx
            have hgl := World.block_lt_of_cell? _ _ hca
            simp only [] at hgl
            have HX := Lib.hid hxx
            clear hxx
            have hltk := hlt
            have hlt0 := BD.out.lt
            obtain ⟨d0, d1, d2⟩ := BD.out
            have I1 := Lib.hid (fun (xx : Aft wr) => Calls.aft_of (x := xx) (Calls.rb_eq (s_has x (LB.out.keep xx.h)) (show Value.bool _ = .bool false by rw [decide_eq_false (HFact.out x HM.out)])))
            rcases Nat.eq_zero_or_pos k with hk0 | hk0
            · subst hk0
              rw [Nat.add_zero] at hca
              go_wp2_with fail
              (refine wp_region_aft (by kernel_rfl) (by kernel_rfl) ?_; (repeat (any_goals (first | go_big_quiet_step ((go_at_call 18; with_reducible exact I1.out _)) | quiet_step ((go_at_call 18; with_reducible exact I1.out _)) | (refine wpQuiet_step (fun K hK => ?_); go_simp; split <;> (refine hK _ ?_; clear hK K))))); all_goals (refine wpQuiet_nil ?_; intro wq hw'; obtain ⟨x1, hx1⟩ := hw'; have hbq := x1.h; rw [← hx1] at hbq; clear hx1 x1))
              (have BD := Lib.hid (BD.out.keep hbq BD.out.lt); have HB := Lib.hid (below_then HB.out hbq); (try have LA := Lib.hid (LA.out.keep hbq)); (try have LB := Lib.hid (LB.out.keep hbq))); have HW := Lib.hid (below_then HW.out hbq); clear hbq
              clear hca hgl hlt0 d0 d1 d2
              have hca := LA.out.cell HX.out; have hgl := World.block_lt_of_cell? _ _ hca; (simp only [] at hgl); have hlt0 := BD.out.lt; obtain ⟨d0, d1, d2⟩ := BD.out
              rw [Nat.add_zero] at hca
              go_wp2_with fail
              (refine wp_region_aft (by kernel_rfl) (by kernel_rfl) ?_; (repeat (any_goals (first | go_big_quiet_step ((go_at_call 13; refine Calls.aft_of (HE.out _))) | quiet_step ((go_at_call 13; refine Calls.aft_of (HE.out _))) | (refine wpQuiet_step (fun K hK => ?_); go_simp; split <;> (refine hK _ ?_; clear hK K))))); all_goals (refine wpQuiet_nil ?_; intro wq hw'; obtain ⟨x1, hx1⟩ := hw'; have hbq := x1.h; rw [← hx1] at hbq; clear hx1 x1))
              (have BD := Lib.hid (BD.out.keep hbq BD.out.lt); have HB := Lib.hid (below_then HB.out hbq); (try have LA := Lib.hid (LA.out.keep hbq)); (try have LB := Lib.hid (LB.out.keep hbq))); have HW := Lib.hid (below_then HW.out hbq); clear hbq
              clear hca hgl hlt0 d0 d1 d2
              have hca := LA.out.cell HX.out; have hgl := World.block_lt_of_cell? _ _ hca; (simp only [] at hgl); have hlt0 := BD.out.lt; obtain ⟨d0, d1, d2⟩ := BD.out
              rw [Nat.add_zero] at hca
              by_cases hfm : fr = m
              · have hfq : (fr == m) = true := by simpa using hfm
                have hxq : (x != (d.x * d.y * d.z + m)) = false := by have := HFr.out hfm; simp; rw [this]; unfold V3.n; (try simp only [Int.mul_assoc]) <;> omega
                obtain ⟨bxy, bn⟩ := And.intro HXY.out HNN.out; unfold V3.n at bn
                clear hfm
                go_wp2_with fail
                (refine wp_region_aft (by kernel_rfl) (by kernel_rfl) ?_; (repeat (any_goals (first | go_big_quiet_step (fail) | quiet_step (fail) | (refine wpQuiet_step (fun K hK => ?_); go_simp; split <;> (refine hK _ ?_; clear hK K))))); all_goals (refine wpQuiet_nil ?_; intro wq hw'; obtain ⟨x1, hx1⟩ := hw'; have hbq := x1.h; rw [← hx1] at hbq; clear hx1 x1))
                have HW := Lib.hid (below_then HW.out hbq)
                clear hbq
                go_wp2_with fail
                go_roundw
                case rel => exact ⟨0 + 1, by omega, by go_num, HW.out⟩
                case measure => (simp [intOf] <;> omega)
              · have hfq : (fr == m) = false := by simpa using hfm
                obtain ⟨bxy, bn⟩ := And.intro HXY.out HNN.out; unfold V3.n at bn
                clear hfm
                go_wp2_with fail
                (refine wp_region_aft (by kernel_rfl) (by kernel_rfl) ?_; (repeat (any_goals (first | go_big_quiet_step (fail) | quiet_step (fail) | (refine wpQuiet_step (fun K hK => ?_); go_simp; split <;> (refine hK _ ?_; clear hK K))))); all_goals (refine wpQuiet_nil ?_; intro wq hw'; obtain ⟨x1, hx1⟩ := hw'; have hbq := x1.h; rw [← hx1] at hbq; clear hx1 x1))
                have HW := Lib.hid (below_then HW.out hbq)
                clear hbq
                go_wp2_with fail
                go_roundw
                case rel => exact ⟨0 + 1, by omega, by go_num, HW.out⟩
                case measure => (simp [intOf] <;> omega)
            · obtain ⟨j, rfl⟩ : ∃ j, k = j + 1 := ⟨k - 1, by omega⟩
              obtain ⟨y, hyy⟩ : ∃ y, la[j]? = some y := ⟨_, List.getElem?_eq_getElem (by omega)⟩
              have hcy := LA.out.cell hyy
              have hyx : decide (x ≤ y) = false := decide_eq_false (by
                have := List.pairwise_iff_getElem.1 HRise.out j (j + 1) (by omega) hlt (by omega)
                rw [List.getElem?_eq_getElem (by omega)] at hyy
                have hxx := HX.out
                rw [List.getElem?_eq_getElem hlt] at hxx
                cases hyy
                cases hxx
                omega)
              have hca2 := hca
              rw [← Nat.add_assoc] at hca2
              go_wp2_with fail
              (refine wp_region_aft (by kernel_rfl) (by kernel_rfl) ?_; (repeat (any_goals (first | go_big_quiet_step ((go_at_call 18; with_reducible exact I1.out _)) | quiet_step ((go_at_call 18; with_reducible exact I1.out _)) | (refine wpQuiet_step (fun K hK => ?_); go_simp; split <;> (refine hK _ ?_; clear hK K))))); all_goals (refine wpQuiet_nil ?_; intro wq hw'; obtain ⟨x1, hx1⟩ := hw'; have hbq := x1.h; rw [← hx1] at hbq; clear hx1 x1))
              (have BD := Lib.hid (BD.out.keep hbq BD.out.lt); have HB := Lib.hid (below_then HB.out hbq); (try have LA := Lib.hid (LA.out.keep hbq)); (try have LB := Lib.hid (LB.out.keep hbq))); have HW := Lib.hid (below_then HW.out hbq); clear hbq
              clear hca hgl hcy hca2 hyx hyy hlt0 d0 d1 d2
              have hca := LA.out.cell HX.out; have hgl := World.block_lt_of_cell? _ _ hca; (simp only [] at hgl); have hlt0 := BD.out.lt; obtain ⟨d0, d1, d2⟩ := BD.out
              have hca2 := hca
              rw [← Nat.add_assoc] at hca2
              go_wp2_with fail
              (refine wp_region_aft (by kernel_rfl) (by kernel_rfl) ?_; (repeat (any_goals (first | go_big_quiet_step ((go_at_call 13; refine Calls.aft_of (HE.out _))) | quiet_step ((go_at_call 13; refine Calls.aft_of (HE.out _))) | (refine wpQuiet_step (fun K hK => ?_); go_simp; split <;> (refine hK _ ?_; clear hK K))))); all_goals (refine wpQuiet_nil ?_; intro wq hw'; obtain ⟨x1, hx1⟩ := hw'; have hbq := x1.h; rw [← hx1] at hbq; clear hx1 x1))
              (have BD := Lib.hid (BD.out.keep hbq BD.out.lt); have HB := Lib.hid (below_then HB.out hbq); (try have LA := Lib.hid (LA.out.keep hbq)); (try have LB := Lib.hid (LB.out.keep hbq))); have HW := Lib.hid (below_then HW.out hbq); clear hbq
              clear hca hgl hlt0 d0 d1 d2
              have hca := LA.out.cell HX.out; have hgl := World.block_lt_of_cell? _ _ hca; (simp only [] at hgl); have hlt0 := BD.out.lt; obtain ⟨d0, d1, d2⟩ := BD.out
              have hca2 := hca
              rw [← Nat.add_assoc] at hca2
              by_cases hfm : fr = m
              · have hfq : (fr == m) = true := by simpa using hfm
                have hxq : (x != (d.x * d.y * d.z + m)) = false := by have := HFr.out hfm; simp; rw [this]; unfold V3.n; (try simp only [Int.mul_assoc]) <;> omega
                obtain ⟨bxy, bn⟩ := And.intro HXY.out HNN.out; unfold V3.n at bn
                clear hfm
                go_wp2_with fail
                (refine wp_region_aft (by kernel_rfl) (by kernel_rfl) ?_; (repeat (any_goals (first | go_big_quiet_step (fail) | quiet_step (fail) | (refine wpQuiet_step (fun K hK => ?_); go_simp; split <;> (refine hK _ ?_; clear hK K))))); all_goals (refine wpQuiet_nil ?_; intro wq hw'; obtain ⟨x1, hx1⟩ := hw'; have hbq := x1.h; rw [← hx1] at hbq; clear hx1 x1))
                have HW := Lib.hid (below_then HW.out hbq)
                clear hbq
                go_wp2_with fail
                go_roundw
                case rel => exact ⟨(j + 1) + 1, by omega, by go_num, HW.out⟩
                case measure => (simp [intOf] <;> omega)
              · have hfq : (fr == m) = false := by simpa using hfm
                obtain ⟨bxy, bn⟩ := And.intro HXY.out HNN.out; unfold V3.n at bn
                clear hfm
                go_wp2_with fail
                (refine wp_region_aft (by kernel_rfl) (by kernel_rfl) ?_; (repeat (any_goals (first | go_big_quiet_step (fail) | quiet_step (fail) | (refine wpQuiet_step (fun K hK => ?_); go_simp; split <;> (refine hK _ ?_; clear hK K))))); all_goals (refine wpQuiet_nil ?_; intro wq hw'; obtain ⟨x1, hx1⟩ := hw'; have hbq := x1.h; rw [← hx1] at hbq; clear hx1 x1))
                have HW := Lib.hid (below_then HW.out hbq)
                clear hbq
                go_wp2_with fail
                go_roundw
                case rel => exact ⟨(j + 1) + 1, by omega, by go_num, HW.out⟩
                case measure => (simp [intOf] <;> omega)
          · obtain rfl : k = la.length := by omega
            go_wp2_with fail
            go_returns
            exact ⟨rfl, HB.out⟩
end Go.Proofs.Ytpooieghlceefaa
