/- GrowMost: each free box lies in one of those that lie in no other one; these are free and apart; a box grown is one of them that it lies in: the call returns true. -/
import Derived.Test.YtofoenlhbmammaaQ0GrowXG13
import Derived.Test.YtofoenlhbmammaaQ0RowSG13
import Derived.Test.YtofoenlhbmammaaQ0GrowPG13
set_option linter.unusedVariables false
set_option linter.unusedSimpArgs false
namespace Go.Proofs.Ytofoenlhbmammaa

section
open Go.ChangeShapes Go.WideShapes Go.ChangeAt Go.RowKit Go.Shelf

theorem BxO.keep {w W : World} {b o : Nat} {x : Bx} (h : BxO w b o x) (hb : Below w.heap.size w W) : BxO W b o x :=
  ⟨(hb.cell (p := ⟨b, o, none⟩) h.lt).trans h.c0, (hb.cell (p := ⟨b, o + 1, none⟩) h.lt).trans h.c1, (hb.cell (p := ⟨b, o + 2, none⟩) h.lt).trans h.c2, (hb.cell (p := ⟨b, o + 3, none⟩) h.lt).trans h.c3, (hb.cell (p := ⟨b, o + 4, none⟩) h.lt).trans h.c4, (hb.cell (p := ⟨b, o + 5, none⟩) h.lt).trans h.c5, Nat.lt_of_lt_of_le h.lt hb.size⟩
/-- Dimensions, a box, a set, two lists, as they lie. -/
structure GmW (w W : World) (d : V3) (b : Bx) (bs : Option Addr) (ms : List Nat) : Prop where
  d : Blk W w.heap.size 23 #[.int .i64 d.x, .int .i64 d.y, .int .i64 d.z]
  b : Blk W (w.heap.size + 1) 27 #[.int .i64 b.b.x, .int .i64 b.b.y, .int .i64 b.b.z, .int .i64 b.s.x, .int .i64 b.s.y, .int .i64 b.s.z]
  s : SetIn W bs ms
  hb : Below w.heap.size w W
theorem GmW.keep {w W W' : World} {d : V3} {b : Bx} {bs : Option Addr} {ms : List Nat} (h : GmW w W d b bs ms) (hb : Below W.heap.size W W') : GmW w W' d b bs ms := ⟨h.d.below hb, h.b.below hb, h.s.keep hb, below_then h.hb hb⟩
theorem mem_take_succ' {l : List Bx} {k : Nat} (h : k < l.length) (b : Bx) : decide (b ∈ l.take (k + 1)) = (decide (b ∈ l.take k) || decide (l[k] = b)) := by
  have e : b ∈ l.take (k + 1) ↔ (b ∈ l.take k ∨ l[k] = b) := by
    rw [List.take_succ_eq_append_getElem h, List.mem_append, List.mem_singleton]
    exact or_congr Iff.rfl eq_comm
  rw [decide_eq_decide.2 e, Bool.decide_or]
theorem any_take_succ' {l : List Bx} {k : Nat} (h : k < l.length) (p : Bx → Bool) : (l.take (k + 1)).any p = ((l.take k).any p || p l[k]) := by
  rw [List.take_succ_eq_append_getElem h, List.any_append]; simp
set_option maxRecDepth 100000 in set_option maxHeartbeats 4000000 in
theorem core_GrowMost (d : V3) (b : Bx) (bs : Option Addr) (cs : Nat) (ms : List Nat) (w : World) (hs : SetIn w bs ms) (l1 : ms.length ≤ 100) (hsm : smallB d = true) (hz : frE d ms = 0) : Calls Try.prog 4 #[.agg #[.int .i64 d.x, .int .i64 d.y, .int .i64 d.z], .slice bs ms.length cs, .agg #[.int .i64 b.b.x, .int .i64 b.b.y, .int .i64 b.b.z, .int .i64 b.s.x, .int .i64 b.s.y, .int .i64 b.s.z]] w (RB w (.bool true)) := by
  have AL := Lib.hid (fun W => law13_alive W)
  have SM := Lib.hid (fun W => Calls.rb_eq (law13_small d W) (show Value.bool (smallB d) = .bool true by rw [hsm]))
  have FR := Lib.hid (fun W (h : SetIn W bs ms) => grow_Free d bs cs ms W h)
  have MO := Lib.hid (fun W (h : SetIn W bs ms) => grow_Most d bs cs ms W h)
  have GR := Lib.hid (fun W (h : SetIn W bs ms) => grow_Grown d b bs cs ms W h)
  have IN := Lib.hid (fun x y W => law13_in d x y W)
  have HG := Lib.hid (fun h => grown_most (d := d) (s := ms) (b := b) h)
  have q1 : decide (100 < ms.length) = false := decide_eq_false (by omega)
  have T := Lib.hid (show GmW w ((w.alloc (.cells #[.int .i64 d.x, .int .i64 d.y, .int .i64 d.z] 23)).alloc (.cells #[.int .i64 b.b.x, .int .i64 b.b.y, .int .i64 b.b.z, .int .i64 b.s.x, .int .i64 b.s.y, .int .i64 b.s.z] 27)) d b bs ms from ⟨(Blk.new w _ _).alloc _, (by have h := Blk.new (w.alloc (.cells #[.int .i64 d.x, .int .i64 d.y, .int .i64 d.z] 23)) 27 #[.int .i64 b.b.x, .int .i64 b.b.y, .int .i64 b.b.z, .int .i64 b.s.x, .int .i64 b.s.y, .int .i64 b.s.z]; rw [World.size_alloc] at h; exact h), hs.keep (by (repeat (first | (with_reducible exact Below.refl _ _) | (with_reducible assumption) | (with_reducible refine below_alloc ?_ _) | (with_reducible refine below_drewN ?_ _) | (with_reducible refine Below.drew ?_) | (with_reducible refine below_then ?_ (by with_reducible assumption)) | (with_reducible refine Below.setCell ?_ (by go_size) _)))), by (repeat (first | (with_reducible exact Below.refl _ _) | (with_reducible assumption) | (with_reducible refine below_alloc ?_ _) | (with_reducible refine below_drewN ?_ _) | (with_reducible refine Below.drew ?_) | (with_reducible refine below_then ?_ (by with_reducible assumption)) | (with_reducible refine Below.setCell ?_ (by go_size) _)))⟩)
  obtain ⟨hd, hc, hn⟩ := frE_0 hz
  have hv : frV d ms = freeL d ms := if_pos hz
  rw [hz, hv] at FR MO
  have hlen : (freeL d ms).length ≤ 4096 := Nat.le_trans (List.length_filter_le _ _) (boxes_len hn)
  have hlen2 : (mostL d (freeL d ms)).length ≤ 4096 := Nat.le_trans (List.length_filter_le _ _) hlen
  have HML := Lib.hid (fun x (hx : x ∈ freeL d ms) => show (mostL d (freeL d ms)).any (boxWithin d x) = true by
    obtain ⟨c, h1, h2⟩ := most_of hd hx
    exact List.any_eq_true.2 ⟨c, h1, h2⟩)
  have HOW := Lib.hid (fun x (hx : x ∈ mostL d (freeL d ms)) => (mem_mostL.1 hx).1)
  have HAL := Lib.hid (fun i k (hi : i < (mostL d (freeL d ms)).length) (hk : k < (mostL d (freeL d ms)).length) hne => mostL_alone (freeL_nodup hd ms) hi hk hne)
  generalize freeL d ms = A at *
  generalize mostL d A = L at *
  generalize gnE d ms b = gE at *
  generalize gnV d ms b = g at *
  clear hs hsm hz hc hv hd hn
  have hgd : Try.prog.eqGuardType Try.prog.depth 27 = false := by kernel_rfl
  go_enter Try.func4, Try.ntmps4
  go_wp2_with fail
  refine (AL.out _).mono ?_
  rintro e w1 ⟨rfl, hb⟩
  have T := Lib.hid (T.out.keep hb)
  clear hb AL
  (have d0 := T.out.d.cell 0 _ rfl; have d1 := T.out.d.cell 1 _ rfl; have d2 := T.out.d.cell 2 _ rfl; have dl := T.out.d.lt)
  go_wp2_with fail
  refine (SM.out _).mono ?_
  rintro e w2 ⟨rfl, hb⟩
  clear d0 d1 d2 dl
  have T := Lib.hid (T.out.keep hb)
  clear hb SM
  (have d0 := T.out.d.cell 0 _ rfl; have d1 := T.out.d.cell 1 _ rfl; have d2 := T.out.d.cell 2 _ rfl; have dl := T.out.d.lt)
  go_wp2_with fail
  refine (FR.out _ T.out.s).mono ?_
  rintro e w3 ⟨v, rfl, ho, hb⟩
  have T := Lib.hid (T.out.keep hb)
  have HA := Lib.hid (xs_of_own ho (by omega))
  obtain ⟨bv, cv, rfl, _⟩ := own_rd ho
  clear hb FR ho
  clear d0 d1 d2 dl
  (have d0 := T.out.d.cell 0 _ rfl; have d1 := T.out.d.cell 1 _ rfl; have d2 := T.out.d.cell 2 _ rfl; have dl := T.out.d.lt)
  go_wp2_with fail
  refine (MO.out _ T.out.s).mono ?_
  rintro e w4 ⟨v, rfl, ho, hb⟩
  have T := Lib.hid (T.out.keep hb)
  have HA := Lib.hid (HA.out.keep hb)
  have HL := Lib.hid (xs_of_own ho (by omega))
  obtain ⟨bu, cu, rfl, _⟩ := own_rd ho
  clear hb MO ho
  clear d0 d1 d2 dl
  obtain ⟨b9, c9, e9, hx9, _⟩ := HA.out.ex
  cases e9
  have HAI := Lib.hid hx9
  clear hx9 HA
  obtain ⟨b9, c9, e9, hx9, _⟩ := HL.out.ex
  cases e9
  have HLI := Lib.hid hx9
  clear hx9 HL
  go_wp2_with fail
  go_loopw [12] (fun i wr => ∃ k : Nat, k ≤ A.length ∧ i = .int .i64 k ∧ Below w4.heap.size w4 wr) (fun i _ => A.length - (intOf i).toNat)
  case atStart => exact ⟨0, Nat.zero_le _, rfl, Below.refl _ _⟩
  case round =>
    obtain ⟨k, hk, rfl, hb⟩ := hrel
    by_cases hlt : k < A.length
    · have HXA := Lib.hid (fun W (h : Below w4.heap.size w4 W) => (HAI.out.keep h).at hlt)
      have HMk := Lib.hid (HML.out A[k] (List.getElem_mem hlt))
      obtain ⟨x, hx⟩ : ∃ x, x = A[k] := ⟨_, rfl⟩
      rw [← hx] at HXA HMk
      have HB0 := Lib.hid hb
      clear hx hb
      go_wp2_with fail
      go_loopw [13, 14] (fun ls i wr => ∃ q : Nat, q ≤ L.length ∧ i = .int .i64 q ∧ ls = .bool ((L.take q).any (boxWithin d x)) ∧ Below w4.heap.size w4 wr) (fun _ i _ => L.length - (intOf i).toNat)
      case atStart => exact ⟨0, Nat.zero_le _, rfl, by simp, HB0.out⟩
      case round =>
        clear HB0
        obtain ⟨q, hq, rfl, rfl, hb⟩ := hrel
        have HB := Lib.hid hb
        by_cases hlq : q < L.length
        · obtain ⟨bx, off, rfl, hO⟩ := HXA.out _ hb
          obtain ⟨by', off', rfl, hO'⟩ := (HLI.out.keep hb).at hlq
          have TR := Lib.hid (T.out.keep hb)
          have HN := Lib.hid (any_take_succ' hlq (boxWithin d x))
          have INk := Lib.hid (fun W => IN.out x L[q] W)
          obtain ⟨y, hy⟩ : ∃ y, y = L[q] := ⟨_, rfl⟩
          rw [← hy] at hO' HN INk
          obtain ⟨c0, c1, c2, c3, c4, c5, hcl⟩ := hO
          obtain ⟨e0, e1, e2, e3, e4, e5, hel⟩ := hO'
          clear hb hy
          generalize boxWithin d x y = r at *
          (have d0 := TR.out.d.cell 0 _ rfl; have d1 := TR.out.d.cell 1 _ rfl; have d2 := TR.out.d.cell 2 _ rfl; have dl := TR.out.d.lt)
          have I1 := Lib.hid (fun (z : Aft wr) => Calls.aft_of (x := z) (INk.out _))
          cases hth : (L.take q).any (boxWithin d x) with
          | true =>
            rw [hth] at HN
            clear hth
            go_wp2_with fail
            (refine wp_region_quiet_lit (by kernel_rfl) (by kernel_rfl) ?_; (repeat (any_goals (first | go_big_quiet_step (fail) | quiet_step (fail) | (refine wpQuiet_step (fun K hK => ?_); go_simp; split <;> (refine hK _ ?_; clear hK K))))); all_goals (refine wpQuiet_nil ?_; intro _ hw'; obtain ⟨nq, hw''⟩ := hw'; subst hw''))
            go_wp2_with fail
            go_roundw
            case rel => exact ⟨q + 1, by omega, by go_num, by rw [HN.out]; rfl, below_drewN HB.out _⟩
            case measure => (simp [intOf] <;> omega)
          | false =>
            rw [hth] at HN
            clear hth
            go_wp2_with fail
            (refine wp_region_aft (by kernel_rfl) (by kernel_rfl) ?_; (repeat (any_goals (first | go_big_quiet_step (with_reducible exact I1.out _) | quiet_step (with_reducible exact I1.out _) | (refine wpQuiet_step (fun K hK => ?_); go_simp; split <;> (refine hK _ ?_; clear hK K))))); all_goals (refine wpQuiet_nil ?_; intro wq hw'; obtain ⟨x1, hx1⟩ := hw'; have hbq := x1.h; rw [← hx1] at hbq; clear hx1 x1))
            go_wp2_with fail
            go_roundw
            case rel => exact ⟨q + 1, by omega, by go_num, by rw [HN.out]; rfl, HB.out.trans (hbq.mono HB.out.size)⟩
            case measure => (simp [intOf] <;> omega)
        · obtain rfl : q = L.length := by omega
          rw [show (L.take L.length).any (boxWithin d x) = true by rw [List.take_length]; exact HMk.out]
          clear hb
          go_wp2_with fail
          go_roundw
          case rel => exact ⟨k + 1, by omega, by go_num, HB.out⟩
          case measure => (simp [intOf] <;> omega)
    · obtain rfl : k = A.length := by omega
      have HB3 := Lib.hid hb
      clear hb HML
      go_wp2_with fail
      go_loopw [15] (fun i wr => ∃ k : Nat, k ≤ L.length ∧ i = .int .i64 k ∧ Below w4.heap.size w4 wr) (fun i _ => L.length - (intOf i).toNat)
      case atStart => exact ⟨0, Nat.zero_le _, rfl, HB3.out⟩
      case round =>
        clear HB3
        obtain ⟨k, hk, rfl, hb⟩ := hrel
        by_cases hlt : k < L.length
        · have HXL := Lib.hid (fun W (h : Below w4.heap.size w4 W) => (HLI.out.keep h).at hlt)
          have HOk := Lib.hid (HOW.out L[k] (List.getElem_mem hlt))
          have HAk := Lib.hid (fun q (hq : q < L.length) hne => HAL.out k q hlt hq hne)
          obtain ⟨x, hx⟩ : ∃ x, x = L[k] := ⟨_, rfl⟩
          rw [← hx] at HXL HOk HAk
          have HB0 := Lib.hid hb
          clear hx hb
          go_wp2_with fail
          go_loopw [16, 17] (fun ow i wr => ∃ q : Nat, q ≤ A.length ∧ i = .int .i64 q ∧ ow = .bool (decide (x ∈ A.take q)) ∧ Below w4.heap.size w4 wr) (fun _ i _ => A.length - (intOf i).toNat)
          case atStart => exact ⟨0, Nat.zero_le _, rfl, by simp, HB0.out⟩
          case round =>
            clear HB0
            obtain ⟨q, hq, rfl, rfl, hb⟩ := hrel
            have HB := Lib.hid hb
            by_cases hlq : q < A.length
            · obtain ⟨bx, off, rfl, hO⟩ := HXL.out _ hb
              obtain ⟨by', off', rfl, hO'⟩ := (HAI.out.keep hb).at hlq
              have HN := Lib.hid (mem_take_succ' hlq x)
              obtain ⟨y, hy⟩ : ∃ y, y = A[q] := ⟨_, rfl⟩
              rw [← hy] at hO' HN
              obtain ⟨c0, c1, c2, c3, c4, c5, hcl⟩ := hO
              obtain ⟨e0, e1, e2, e3, e4, e5, hel⟩ := hO'
              have heq : ∀ w, (binOp .eql 27 (.agg #[.int .i64 y.b.x, .int .i64 y.b.y, .int .i64 y.b.z, .int .i64 y.s.x, .int .i64 y.s.y, .int .i64 y.s.z]) (.agg #[.int .i64 x.b.x, .int .i64 x.b.y, .int .i64 x.b.z, .int .i64 x.s.x, .int .i64 x.s.y, .int .i64 x.s.z])).run Try.prog w = .ok (.bool (decide (y = x))) w := fun w => by rw [run_eql_box]
              clear hb hy
              generalize decide (y = x) = r at *
              cases hth : decide (x ∈ A.take q) with
              | true =>
                rw [hth] at HN
                clear hth
                go_wp2_with fail
                (refine wp_region_quiet_lit (by kernel_rfl) (by kernel_rfl) ?_; (repeat (any_goals (first | go_big_quiet_step (fail) | quiet_step (fail) | (refine wpQuiet_step (fun K hK => ?_); go_simp; split <;> (refine hK _ ?_; clear hK K))))); all_goals (refine wpQuiet_nil ?_; intro _ hw'; obtain ⟨nq, hw''⟩ := hw'; subst hw''))
                go_wp2_with fail
                go_roundw
                case rel => exact ⟨q + 1, by omega, by go_num, by rw [HN.out]; rfl, below_drewN HB.out _⟩
                case measure => (simp [intOf] <;> omega)
              | false =>
                rw [hth] at HN
                clear hth
                go_wp2_with fail
                (refine wp_region_quiet_lit (by kernel_rfl) (by kernel_rfl) ?_; (repeat (any_goals (first | go_big_quiet_step (fail) | quiet_step (fail) | (refine wpQuiet_step (fun K hK => ?_); go_simp; split <;> (refine hK _ ?_; clear hK K))))); all_goals (refine wpQuiet_nil ?_; intro _ hw'; obtain ⟨nq, hw''⟩ := hw'; subst hw''))
                go_wp2_with fail
                go_roundw
                case rel => exact ⟨q + 1, by omega, by go_num, by rw [HN.out]; rfl, below_drewN HB.out _⟩
                case measure => (simp [intOf] <;> omega)
            · obtain rfl : q = A.length := by omega
              rw [show decide (x ∈ A.take A.length) = true by rw [List.take_length, decide_eq_true_iff]; exact HOk.out]
              clear hb
              go_wp2_with fail
              go_loopw [18] (fun i wr => ∃ q : Nat, q ≤ L.length ∧ i = .int .i64 q ∧ Below w4.heap.size w4 wr) (fun i _ => L.length - (intOf i).toNat)
              case atStart => exact ⟨0, Nat.zero_le _, rfl, HB.out⟩
              case round =>
                clear HB
                obtain ⟨q, hq, rfl, hb⟩ := hrel
                have HB := Lib.hid hb
                by_cases hlq : q < L.length
                · by_cases hqk : q = k
                  · subst hqk
                    have hne : ((q : Int) != (q : Int)) = false := by simp
                    clear hb
                    go_wp2_with fail
                    (refine wp_region_quiet_lit (by kernel_rfl) (by kernel_rfl) ?_; (repeat (any_goals (first | go_big_quiet_step (fail) | quiet_step (fail) | (refine wpQuiet_step (fun K hK => ?_); go_simp; split <;> (refine hK _ ?_; clear hK K))))); all_goals (refine wpQuiet_nil ?_; intro _ hw'; obtain ⟨nq, hw''⟩ := hw'; subst hw''))
                    go_wp2_with fail
                    go_roundw
                    case rel => exact ⟨q + 1, by omega, by go_num, below_drewN HB.out _⟩
                    case measure => (simp [intOf] <;> omega)
                  · have hne : ((q : Int) != (k : Int)) = true := by rw [bne_iff_ne]; omega
                    obtain ⟨bx, off, rfl, hO⟩ := HXL.out _ hb
                    obtain ⟨by', off', e, hO'⟩ := (HLI.out.keep hb).at hlq
                    cases e
                    have TR := Lib.hid (T.out.keep hb)
                    have INk := Lib.hid (fun W => Calls.rb_eq (IN.out x L[q] W) (show Value.bool (boxWithin d x L[q]) = .bool false by rw [HAk.out q hlq hqk]))
                    obtain ⟨y, hy⟩ : ∃ y, y = L[q] := ⟨_, rfl⟩
                    rw [← hy] at hO' INk
                    obtain ⟨c0, c1, c2, c3, c4, c5, hcl⟩ := hO
                    obtain ⟨e0, e1, e2, e3, e4, e5, hel⟩ := hO'
                    clear hb hy
                    (have d0 := TR.out.d.cell 0 _ rfl; have d1 := TR.out.d.cell 1 _ rfl; have d2 := TR.out.d.cell 2 _ rfl; have dl := TR.out.d.lt)
                    have I1 := Lib.hid (fun (z : Aft wr) => Calls.aft_of (x := z) (INk.out _))
                    go_wp2_with fail
                    (refine wp_region_aft (by kernel_rfl) (by kernel_rfl) ?_; (repeat (any_goals (first | go_big_quiet_step (with_reducible exact I1.out _) | quiet_step (with_reducible exact I1.out _) | (refine wpQuiet_step (fun K hK => ?_); go_simp; split <;> (refine hK _ ?_; clear hK K))))); all_goals (refine wpQuiet_nil ?_; intro wq hw'; obtain ⟨x1, hx1⟩ := hw'; have hbq := x1.h; rw [← hx1] at hbq; clear hx1 x1))
                    go_wp2_with fail
                    go_roundw
                    case rel => exact ⟨q + 1, by omega, by go_num, HB.out.trans (hbq.mono HB.out.size)⟩
                    case measure => (simp [intOf] <;> omega)
                · obtain rfl : q = L.length := by omega
                  clear hb
                  go_wp2_with fail
                  go_roundw
                  case rel => exact ⟨k + 1, by omega, by go_num, HB.out⟩
                  case measure => (simp [intOf] <;> omega)
        · obtain rfl : k = L.length := by omega
          have T := Lib.hid (T.out.keep hb)
          have HLI2 := Lib.hid (HLI.out.keep hb)
          clear hb HOW HAL HAI HLI
          (have d0 := T.out.d.cell 0 _ rfl; have d1 := T.out.d.cell 1 _ rfl; have d2 := T.out.d.cell 2 _ rfl; have dl := T.out.d.lt)
          (have b0 := T.out.b.cell 0 _ rfl; have b1 := T.out.b.cell 1 _ rfl; have b2 := T.out.b.cell 2 _ rfl; have b3 := T.out.b.cell 3 _ rfl; have b4 := T.out.b.cell 4 _ rfl; have b5 := T.out.b.cell 5 _ rfl; have bl := T.out.b.lt)
          go_wp2_with fail
          refine (GR.out _ T.out.s).mono ?_
          rintro e w5 ⟨rfl, hb⟩
          have hb5 := below_alloc hb (.cells #[.int .i64 g.b.x, .int .i64 g.b.y, .int .i64 g.b.z, .int .i64 g.s.x, .int .i64 g.s.y, .int .i64 g.s.z] 27)
          have T := Lib.hid (T.out.keep hb5)
          have HLI := Lib.hid (HLI2.out.keep hb5)
          have HGB := Lib.hid (Blk.new w5 27 #[.int .i64 g.b.x, .int .i64 g.b.y, .int .i64 g.b.z, .int .i64 g.s.x, .int .i64 g.s.y, .int .i64 g.s.z])
          clear hb hb5 HLI2 GR
          clear d0 d1 d2 dl
          clear b0 b1 b2 b3 b4 b5 bl
          by_cases hE : gE = 0
          · subst hE
            obtain ⟨hgm, hgi⟩ := HG.out rfl
            have HGM := Lib.hid hgm
            have HGI := Lib.hid (fun W => Calls.rb_eq (IN.out b g W) (show Value.bool (boxWithin d b g) = .bool true by rw [hgi]))
            clear hgm hgi HG
            go_wp2_with fail
            go_loopw [21] (fun i wr => ∃ q : Nat, q ≤ L.length ∧ i = .int .i64 q ∧ (∀ j (h : j < L.length), j < q → L[j] ≠ g) ∧ Below (w5.alloc (.cells #[.int .i64 g.b.x, .int .i64 g.b.y, .int .i64 g.b.z, .int .i64 g.s.x, .int .i64 g.s.y, .int .i64 g.s.z] 27)).heap.size (w5.alloc (.cells #[.int .i64 g.b.x, .int .i64 g.b.y, .int .i64 g.b.z, .int .i64 g.s.x, .int .i64 g.s.y, .int .i64 g.s.z] 27)) wr) (fun i _ => L.length - (intOf i).toNat)
            case atStart => exact ⟨0, Nat.zero_le _, rfl, fun j _ h => absurd h (Nat.not_lt_zero _), Below.refl _ _⟩
            case round =>
              obtain ⟨q, hq, rfl, hno, hb⟩ := hrel
              have HB := Lib.hid hb
              have HNO := Lib.hid hno
              clear hno
              by_cases hlq : q < L.length
              · obtain ⟨by', off', rfl, hO'⟩ := (HLI.out.keep hb).at hlq
                have TR := Lib.hid (T.out.keep hb)
                have hGR := HGB.out.below hb
                have HNX := Lib.hid (fun (h : L[q] ≠ g) j (hj : j < L.length) (hjq : j < q + 1) => show L[j] ≠ g by
                  by_cases e : j = q
                  · subst e; exact h
                  · exact HNO.out j hj (by omega))
                obtain ⟨y, hy⟩ : ∃ y, y = L[q] := ⟨_, rfl⟩
                rw [← hy] at hO' HNX
                obtain ⟨e0, e1, e2, e3, e4, e5, hel⟩ := hO'
                have HGR := Lib.hid hGR
                have g0 := hGR.cell 0 _ rfl
                have g1 := hGR.cell 1 _ rfl
                have g2 := hGR.cell 2 _ rfl
                have g3 := hGR.cell 3 _ rfl
                have g4 := hGR.cell 4 _ rfl
                have g5 := hGR.cell 5 _ rfl
                have gl := hGR.lt
                clear hb hy hGR
                (have d0 := TR.out.d.cell 0 _ rfl; have d1 := TR.out.d.cell 1 _ rfl; have d2 := TR.out.d.cell 2 _ rfl; have dl := TR.out.d.lt)
                (have b0 := TR.out.b.cell 0 _ rfl; have b1 := TR.out.b.cell 1 _ rfl; have b2 := TR.out.b.cell 2 _ rfl; have b3 := TR.out.b.cell 3 _ rfl; have b4 := TR.out.b.cell 4 _ rfl; have b5 := TR.out.b.cell 5 _ rfl; have bl := TR.out.b.lt)
                by_cases hyg : y = g
                · have heq : ∀ w, (binOp .eql 27 (.agg #[.int .i64 y.b.x, .int .i64 y.b.y, .int .i64 y.b.z, .int .i64 y.s.x, .int .i64 y.s.y, .int .i64 y.s.z]) (.agg #[.int .i64 g.b.x, .int .i64 g.b.y, .int .i64 g.b.z, .int .i64 g.s.x, .int .i64 g.s.y, .int .i64 g.s.z])).run Try.prog w = .ok (.bool true) w := fun w => by rw [run_eql_box, decide_eq_true hyg]
                  clear hyg HNX
                  go_wp2_with fail
                  (refine wp_region_quiet_lit (by kernel_rfl) (by kernel_rfl) ?_; (repeat (any_goals (first | go_big_quiet_step (fail) | quiet_step (fail) | (refine wpQuiet_step (fun K hK => ?_); go_simp; split <;> (refine hK _ ?_; clear hK K))))); all_goals (refine wpQuiet_nil ?_; intro _ hw'; obtain ⟨nq, hw''⟩ := hw'; subst hw''))
                  go_wp2_with fail
                  refine (HGI.out _).mono ?_
                  rintro e w6 ⟨rfl, hb⟩
                  have HBZ := Lib.hid (below_then TR.out.hb (below_then (show Below wr.heap.size wr _ by (repeat (first | (with_reducible exact Below.refl _ _) | (with_reducible assumption) | (with_reducible refine below_alloc ?_ _) | (with_reducible refine below_drewN ?_ _) | (with_reducible refine Below.drew ?_) | (with_reducible refine below_then ?_ (by with_reducible assumption)) | (with_reducible refine Below.setCell ?_ (by go_size) _)))) hb))
                  clear hb
                  go_wp2_with fail
                  go_returns
                  exact ⟨rfl, HBZ.out⟩
                · have heq : ∀ w, (binOp .eql 27 (.agg #[.int .i64 y.b.x, .int .i64 y.b.y, .int .i64 y.b.z, .int .i64 y.s.x, .int .i64 y.s.y, .int .i64 y.s.z]) (.agg #[.int .i64 g.b.x, .int .i64 g.b.y, .int .i64 g.b.z, .int .i64 g.s.x, .int .i64 g.s.y, .int .i64 g.s.z])).run Try.prog w = .ok (.bool false) w := fun w => by rw [run_eql_box, decide_eq_false hyg]
                  have HN2 := Lib.hid (HNX.out hyg)
                  clear hyg HNX
                  go_wp2_with fail
                  (refine wp_region_quiet_lit (by kernel_rfl) (by kernel_rfl) ?_; (repeat (any_goals (first | go_big_quiet_step (fail) | quiet_step (fail) | (refine wpQuiet_step (fun K hK => ?_); go_simp; split <;> (refine hK _ ?_; clear hK K))))); all_goals (refine wpQuiet_nil ?_; intro _ hw'; obtain ⟨nq, hw''⟩ := hw'; subst hw''))
                  go_wp2_with fail
                  go_roundw
                  case rel => exact ⟨q + 1, by omega, by go_num, HN2.out, below_drewN HB.out _⟩
                  case measure => (simp [intOf] <;> omega)
              · exfalso
                obtain ⟨j, hj, e⟩ := List.mem_iff_getElem.1 HGM.out
                exact HNO.out j hj (by omega) e
          · have hy : (gE != 0) = true := by simpa using hE
            clear hE
            go_wp2_with fail
            go_returns
            exact ⟨rfl, T.out.hb⟩
set_option maxRecDepth 100000 in set_option maxHeartbeats 4000000 in
theorem law13_GrowMost (d : V3) (b : Bx) (bs : Option Addr) (cs : Nat) (ms : List Nat) (w : World) (ha : Rd w bs (wcells ms) ∧ W64 ms) : Calls Try.prog 4 #[.agg #[.int .i64 d.x, .int .i64 d.y, .int .i64 d.z], .slice bs ms.length cs, .agg #[.int .i64 b.b.x, .int .i64 b.b.y, .int .i64 b.b.z, .int .i64 b.s.x, .int .i64 b.s.y, .int .i64 b.s.z]] w (RB w (.bool true)) := by
  have AL := Lib.hid (fun W => law13_alive W)
  by_cases l1 : 100 < ms.length
  · have q1 : decide (100 < ms.length) = true := decide_eq_true l1
    clear ha
    go_enter Try.func4, Try.ntmps4
    go_wp2_with fail
    refine (AL.out _).mono ?_
    rintro e w1 ⟨rfl, hb⟩
    have HB := Lib.hid (below_then (show Below w.heap.size w _ by (repeat (first | (with_reducible exact Below.refl _ _) | (with_reducible assumption) | (with_reducible refine below_alloc ?_ _) | (with_reducible refine below_drewN ?_ _) | (with_reducible refine Below.drew ?_) | (with_reducible refine below_then ?_ (by with_reducible assumption)) | (with_reducible refine Below.setCell ?_ (by go_size) _)))) hb)
    clear hb
    go_wp2_with fail
    go_returns
    exact ⟨rfl, HB.out⟩
  cases hsm : smallB d with
  | true =>
    have hs := SetIn.mk ha.1 (by omega) ha.2
    by_cases hz : frE d ms = 0
    · exact core_GrowMost d b bs cs ms w hs (by omega) hsm hz
    have SM := Lib.hid (fun W => Calls.rb_eq (law13_small d W) (show Value.bool (smallB d) = .bool true by rw [hsm]))
    have FR := Lib.hid (fun W (h : SetIn W bs ms) => grow_Free d bs cs ms W h)
    have MO := Lib.hid (fun W (h : SetIn W bs ms) => grow_Most d bs cs ms W h)
    have q1 : decide (100 < ms.length) = false := decide_eq_false (by omega)
    have T := Lib.hid (show GmW w ((w.alloc (.cells #[.int .i64 d.x, .int .i64 d.y, .int .i64 d.z] 23)).alloc (.cells #[.int .i64 b.b.x, .int .i64 b.b.y, .int .i64 b.b.z, .int .i64 b.s.x, .int .i64 b.s.y, .int .i64 b.s.z] 27)) d b bs ms from ⟨(Blk.new w _ _).alloc _, (by have h := Blk.new (w.alloc (.cells #[.int .i64 d.x, .int .i64 d.y, .int .i64 d.z] 23)) 27 #[.int .i64 b.b.x, .int .i64 b.b.y, .int .i64 b.b.z, .int .i64 b.s.x, .int .i64 b.s.y, .int .i64 b.s.z]; rw [World.size_alloc] at h; exact h), hs.keep (by (repeat (first | (with_reducible exact Below.refl _ _) | (with_reducible assumption) | (with_reducible refine below_alloc ?_ _) | (with_reducible refine below_drewN ?_ _) | (with_reducible refine Below.drew ?_) | (with_reducible refine below_then ?_ (by with_reducible assumption)) | (with_reducible refine Below.setCell ?_ (by go_size) _)))), by (repeat (first | (with_reducible exact Below.refl _ _) | (with_reducible assumption) | (with_reducible refine below_alloc ?_ _) | (with_reducible refine below_drewN ?_ _) | (with_reducible refine Below.drew ?_) | (with_reducible refine below_then ?_ (by with_reducible assumption)) | (with_reducible refine Below.setCell ?_ (by go_size) _)))⟩)
    have hv : frV d ms = [] := if_neg hz
    have hy : (frE d ms != 0) = true := by simpa using hz
    rw [hv] at FR MO
    rw [show mostL d [] = [] from rfl] at MO
    generalize frE d ms = E at *
    clear hz hv ha hs hsm
    go_enter Try.func4, Try.ntmps4
    go_wp2_with fail
    refine (AL.out _).mono ?_
    rintro e w1 ⟨rfl, hb⟩
    have T := Lib.hid (T.out.keep hb)
    clear hb AL
    (have d0 := T.out.d.cell 0 _ rfl; have d1 := T.out.d.cell 1 _ rfl; have d2 := T.out.d.cell 2 _ rfl; have dl := T.out.d.lt)
    go_wp2_with fail
    refine (SM.out _).mono ?_
    rintro e w2 ⟨rfl, hb⟩
    clear d0 d1 d2 dl
    have T := Lib.hid (T.out.keep hb)
    clear hb SM
    (have d0 := T.out.d.cell 0 _ rfl; have d1 := T.out.d.cell 1 _ rfl; have d2 := T.out.d.cell 2 _ rfl; have dl := T.out.d.lt)
    go_wp2_with fail
    refine (FR.out _ T.out.s).mono ?_
    rintro e w3 ⟨v, rfl, ho, hb⟩
    have T := Lib.hid (T.out.keep hb)
    obtain ⟨bv, cv, rfl, _⟩ := own_rd ho
    clear hb FR ho
    clear d0 d1 d2 dl
    (have d0 := T.out.d.cell 0 _ rfl; have d1 := T.out.d.cell 1 _ rfl; have d2 := T.out.d.cell 2 _ rfl; have dl := T.out.d.lt)
    go_wp2_with fail
    refine (MO.out _ T.out.s).mono ?_
    rintro e w4 ⟨v, rfl, ho, hb⟩
    have T := Lib.hid (T.out.keep hb)
    obtain ⟨bu, cu, rfl, _⟩ := own_rd ho
    clear hb MO ho
    clear d0 d1 d2 dl
    go_wp2_with fail
    go_returns
    exact ⟨by simp, T.out.hb⟩
  | false =>
    have SM := Lib.hid (fun W => Calls.rb_eq (law13_small d W) (show Value.bool (smallB d) = .bool false by rw [hsm]))
    have q1 : decide (100 < ms.length) = false := decide_eq_false (by omega)
    clear ha hsm
    go_enter Try.func4, Try.ntmps4
    go_wp2_with fail
    refine (AL.out _).mono ?_
    rintro e w1 ⟨rfl, hb⟩
    have BD := Lib.hid (((Blk.new w 23 #[.int .i64 d.x, .int .i64 d.y, .int .i64 d.z]).alloc (.cells #[.int .i64 b.b.x, .int .i64 b.b.y, .int .i64 b.b.z, .int .i64 b.s.x, .int .i64 b.s.y, .int .i64 b.s.z] 27)).below hb)
    have HB := Lib.hid (below_then (show Below w.heap.size w ((w.alloc (.cells #[.int .i64 d.x, .int .i64 d.y, .int .i64 d.z] 23)).alloc (.cells #[.int .i64 b.b.x, .int .i64 b.b.y, .int .i64 b.b.z, .int .i64 b.s.x, .int .i64 b.s.y, .int .i64 b.s.z] 27)) by (repeat (first | (with_reducible exact Below.refl _ _) | (with_reducible assumption) | (with_reducible refine below_alloc ?_ _) | (with_reducible refine below_drewN ?_ _) | (with_reducible refine Below.drew ?_) | (with_reducible refine below_then ?_ (by with_reducible assumption)) | (with_reducible refine Below.setCell ?_ (by go_size) _)))) hb)
    clear hb
    have d0 := BD.out.cell 0 _ rfl
    have d1 := BD.out.cell 1 _ rfl
    have d2 := BD.out.cell 2 _ rfl
    go_wp2_with fail
    refine (SM.out _).mono ?_
    rintro e w2 ⟨rfl, hb⟩
    have HB := Lib.hid (below_then HB.out hb)
    clear hb d0 d1 d2
    go_wp2_with fail
    go_returns
    exact ⟨rfl, HB.out⟩

set_option maxRecDepth 100000 in set_option maxHeartbeats 4000000 in
theorem lift_growMost (os : Os) (started : os.Started) (H : Type) (enc : TypeId × Value → H) :
    ReturnsInHanded {} Try.checked os 4 .any (Rows.growMostSpec.pre6 enc Try.prog Try.f4 Rows.growMostRow.domain false) (Rows.growMostSpec.post enc Try.prog Try.f4 false true false false) := by
  refine returnsInHanded_of_change (C := Try.checked) ownKnob0 started (by kernel_rfl) Try.func4
    (ChangeSpec.witness6 (enc := enc) (C := Try.checked) false ⟨#[], #[.agg #[.int .i64 0, .int .i64 0, .int .i64 0], .slice none 0 0, .agg #[.int .i64 0, .int .i64 0, .int .i64 0, .int .i64 0, .int .i64 0, .int .i64 0]], []⟩ 8 (by kernel_rfl) (by kernel_rfl) (by kernel_rfl) (by kernel_rfl)) ?_
  intro W base args ds gs before hval0 hW hcnd _
  have hval : ∀ (j : Nat) t v, Try.f4.params[j]? = some t → args[j]? = some v → Value.okWide Try.prog W .any base t v := hval0
  have hW' := hW
  obtain ⟨p, q, hA0, hV, rfl, hfz, hnd⟩ := hW
  have hA : DataW.TrodAll enc Try.prog W 0 (fun _ => true) true Try.f4.params.toList args.toList ds p := hA0
  rw [Try.params4] at hA hval
  have hK := hA
  obtain ⟨v0, vs0, d0, ds0, p0, q0, hargs, rfl, rfl, h0, r0⟩ := trodAll_cons hA
  obtain ⟨v1, vs1, d1, ds1, p1, q1, rfl, rfl, rfl, h1, r1⟩ := trodAll_cons r0
  obtain ⟨v2, vs2, d2, ds2, p2, q2, rfl, rfl, rfl, h2, r2⟩ := trodAll_cons r1
  obtain ⟨rfl, rfl, rfl⟩ := trodAll_nil r2
  obtain rfl : args = #[v0, v1, v2] := by cases args; simp_all
  obtain ⟨d, rfl⟩ := open_dims (hval 0 _ v0 rfl rfl)
  obtain ⟨bs, ms, cs, rfl, ha, _⟩ := open_set (hval 1 _ v1 rfl rfl) h1
  obtain ⟨b, rfl⟩ := open_box (hval 2 _ v2 rfl rfl)
  obtain ⟨rfl, rfl⟩ := trodVars_none hV
  clear hA0 hval0
  simp only [List.append_nil] at hW' hK
  refine (law13_GrowMost d b bs cs ms W ha).mono fun e W' ⟨he, bel⟩ => ?_
  subst he
  refine ⟨_, rfl, _, _, _, [], _, [], hW', trodAll_mk1 (shut_bool Try.underlying4 _), trodAll_below bel _ _ _ _ ?_ hK, rfl, bel.frame _, fun h => by cases h⟩
  intro t ht
  simp at ht <;> (rcases ht with rfl | rfl | rfl <;> exact ⟨by kernel_rfl, of_decide_eq_true (by kernel_rfl)⟩)

theorem holds_growMost : Rows.growMostRow.holds Try.pinned (OpenSpec.ofChange Rows.growMostSpec) :=
  OpenClaim.holds_of_wide 4 Try.f4 rfl rfl rfl rfl rfl rfl rfl ⟨rfl, rfl, rfl, rfl, rfl⟩ rfl rfl rfl rfl rfl (by kernel_rfl) Try.func4 (by kernel_rfl)
    (of_decide_eq_true (by kernel_rfl)) (by unfold Func.isWrapper; first | (rw [if_pos (by decide +kernel)]; kernel_rfl) | (rw [if_neg (by decide +kernel)]; exact ⟨rfl, rfl⟩))
    (fun os started H enc _ => lift_growMost os started H enc)

theorem GrowMost_holds : Rows.GrowMostSaid := holds_growMost
end
end Go.Proofs.Ytofoenlhbmammaa
