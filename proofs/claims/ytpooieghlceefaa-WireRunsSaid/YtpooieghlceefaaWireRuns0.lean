/- WireRuns: the walks along axis 0. -/
import Derived.Test.YtpooieghlceefaaWireHas
import Derived.Test.YtpooieghlceefaaWireRunsLaw
namespace Go.Proofs.Ytpooieghlceefaa
open Go.ChangeShapes Go.WideShapes Go.ChangeAt Go.RowKit Go.Shelf

set_option maxRecDepth 100000 in set_option maxHeartbeats 4000000 in
theorem wireRuns_bad0 (d : V3) (a m long E : Int) (la lb : List Int) (w : World) (h0 : 0 ≤ a ∧ a ≤ 255) (hx : a % 3 = 0) (hE : E ≠ 0) (ha : la.length ≤ 16) (hb : lb.length ≤ 16)
    (HAl : Hid (∀ W, Calls Try.prog 11 #[] W (RB W (.bool true))))
    (H1 : Hid (∀ W, Calls Try.prog 20 #[.agg #[.int .i64 d.x, .int .i64 d.y, .int .i64 d.z], .int .i64 0, .int .i64 m, .int .i64 long, .bool false] W (RLE W la E))) (H2 : Hid (∀ W, Calls Try.prog 20 #[.agg #[.int .i64 d.x, .int .i64 d.y, .int .i64 d.z], .int .i64 0, .int .i64 m, .int .i64 long, .bool true] W (RLE W lb E))) :
    Calls Try.prog 7 #[.agg #[.int .i64 d.x, .int .i64 d.y, .int .i64 d.z], .int .u8 a, .int .i64 m, .int .i64 long] w (RB w (.bool true)) := by
  have g1 : (E == 0) = false := by simpa using hE
  have g2 : (E != 0) = true := by simpa using hE
  have HL := Lib.hid (show la.length ≤ 4611686018427387904 by omega)
  have HR := Lib.hid (show lb.length ≤ 4611686018427387904 by omega)
  clear hE ha hb
  (have HB := Lib.hid (show Below w.heap.size w (w.alloc (.cells #[.int .i64 d.x, .int .i64 d.y, .int .i64 d.z] 23)) by (repeat (first | (with_reducible exact Below.refl _ _) | (with_reducible assumption) | (with_reducible refine below_alloc ?_ _) | (with_reducible refine below_drewN ?_ _) | (with_reducible refine Below.drew ?_) | (with_reducible refine below_then ?_ (by with_reducible assumption)) | (with_reducible refine Below.setCell ?_ (by go_size) _)))); have BD := Lib.hid (Blk.new w 23 #[.int .i64 d.x, .int .i64 d.y, .int .i64 d.z]).dims)
  go_enter Try.func7, Try.ntmps7
  go_wp2_with fail
  (refine (HAl.out _).mono ?_; rintro e w1 ⟨rfl, hb⟩; (have BD := Lib.hid (BD.out.keep hb BD.out.lt); have HB := Lib.hid (below_then HB.out hb); (try have LA := Lib.hid (LA.out.keep hb)); (try have LB := Lib.hid (LB.out.keep hb)); (try have LL := Lib.hid (LL.out.keep hb)); (try have LC := Lib.hid (LC.out.keep hb))); clear hb; (have hlt := BD.out.lt; obtain ⟨d0, d1, d2⟩ := BD.out; go_wp2_with fail; clear d0 d1 d2 hlt))
  (refine (H1.out _).mono ?_; rintro e w1 ⟨v1, rfl, ho, hb⟩; (have BD := Lib.hid (BD.out.keep hb BD.out.lt); have HB := Lib.hid (below_then HB.out hb); (try have LA := Lib.hid (LA.out.keep hb)); (try have LB := Lib.hid (LB.out.keep hb)); (try have LL := Lib.hid (LL.out.keep hb)); (try have LC := Lib.hid (LC.out.keep hb))); have LA := Lib.hid (ls_of_own ho HL.out); clear ho hb; (have hlt := BD.out.lt; obtain ⟨d0, d1, d2⟩ := BD.out; go_wp2_with fail; clear d0 d1 d2 hlt))
  (refine (H2.out _).mono ?_; rintro e w1 ⟨v1, rfl, ho, hb⟩; (have BD := Lib.hid (BD.out.keep hb BD.out.lt); have HB := Lib.hid (below_then HB.out hb); (try have LA := Lib.hid (LA.out.keep hb)); (try have LB := Lib.hid (LB.out.keep hb)); (try have LL := Lib.hid (LL.out.keep hb)); (try have LC := Lib.hid (LC.out.keep hb))); have LB := Lib.hid (ls_of_own ho HR.out); clear ho hb; (have hlt := BD.out.lt; obtain ⟨d0, d1, d2⟩ := BD.out; go_wp2_with fail; clear d0 d1 d2 hlt))
  go_returns
  exact ⟨rfl, HB.out⟩
set_option maxRecDepth 100000 in set_option maxHeartbeats 4000000 in
theorem wireRuns_one0 (d : V3) (a m r : Int) (ll lc : List Int) (w : World) (h0 : 0 ≤ a ∧ a ≤ 255) (hx : a % 3 = 0) (hl : ll.length ≤ 16) (hc : lc.length ≤ 16)
    (hr : (r == 0) = decide (1 < d.x))
    (HAl : Hid (∀ W, Calls Try.prog 11 #[] W (RB W (.bool true))))
    (H1 : Hid (∀ W, Calls Try.prog 20 #[.agg #[.int .i64 d.x, .int .i64 d.y, .int .i64 d.z], .int .i64 0, .int .i64 m, .int .i64 1, .bool false] W (RLE W [] 0))) (H2 : Hid (∀ W, Calls Try.prog 20 #[.agg #[.int .i64 d.x, .int .i64 d.y, .int .i64 d.z], .int .i64 0, .int .i64 m, .int .i64 1, .bool true] W (RLE W [] 0))) (H4 : Hid (∀ W, Calls Try.prog 20 #[.agg #[.int .i64 d.x, .int .i64 d.y, .int .i64 d.z], .int .i64 0, .int .i64 m, .int .i64 2, .bool false] W (RLE W lc r)))
    (H3 : Hid (∀ W, Calls Try.prog 16 #[.agg #[.int .i64 d.x, .int .i64 d.y, .int .i64 d.z], .int .i64 0, .int .i64 m] W (RLE W ll 0))) :
    Calls Try.prog 7 #[.agg #[.int .i64 d.x, .int .i64 d.y, .int .i64 d.z], .int .u8 a, .int .i64 m, .int .i64 1] w (RB w (.bool true)) := by
  have HL := Lib.hid (show ll.length ≤ 4611686018427387904 by omega)
  have HR := Lib.hid (show lc.length ≤ 4611686018427387904 by omega)
  have HQ := Lib.hid hr
  clear hl hc hr
  (have HB := Lib.hid (show Below w.heap.size w (w.alloc (.cells #[.int .i64 d.x, .int .i64 d.y, .int .i64 d.z] 23)) by (repeat (first | (with_reducible exact Below.refl _ _) | (with_reducible assumption) | (with_reducible refine below_alloc ?_ _) | (with_reducible refine below_drewN ?_ _) | (with_reducible refine Below.drew ?_) | (with_reducible refine below_then ?_ (by with_reducible assumption)) | (with_reducible refine Below.setCell ?_ (by go_size) _)))); have BD := Lib.hid (Blk.new w 23 #[.int .i64 d.x, .int .i64 d.y, .int .i64 d.z]).dims)
  go_enter Try.func7, Try.ntmps7
  go_wp2_with fail
  (refine (HAl.out _).mono ?_; rintro e w1 ⟨rfl, hb⟩; (have BD := Lib.hid (BD.out.keep hb BD.out.lt); have HB := Lib.hid (below_then HB.out hb); (try have LA := Lib.hid (LA.out.keep hb)); (try have LB := Lib.hid (LB.out.keep hb)); (try have LL := Lib.hid (LL.out.keep hb)); (try have LC := Lib.hid (LC.out.keep hb))); clear hb; (have hlt := BD.out.lt; obtain ⟨d0, d1, d2⟩ := BD.out; go_wp2_with fail; clear d0 d1 d2 hlt))
  (refine (H1.out _).mono ?_; rintro e w1 ⟨v1, rfl, ho, hb⟩; (have BD := Lib.hid (BD.out.keep hb BD.out.lt); have HB := Lib.hid (below_then HB.out hb); (try have LA := Lib.hid (LA.out.keep hb)); (try have LB := Lib.hid (LB.out.keep hb)); (try have LL := Lib.hid (LL.out.keep hb)); (try have LC := Lib.hid (LC.out.keep hb))); have LA := Lib.hid (ls_of_own ho (Nat.zero_le _)); clear ho hb; obtain ⟨bb, cc, rfl, _⟩ := LA.out.ex; (have hlt := BD.out.lt; obtain ⟨d0, d1, d2⟩ := BD.out; go_wp2_with fail; clear d0 d1 d2 hlt))
  (refine (H2.out _).mono ?_; rintro e w1 ⟨v1, rfl, ho, hb⟩; (have BD := Lib.hid (BD.out.keep hb BD.out.lt); have HB := Lib.hid (below_then HB.out hb); (try have LA := Lib.hid (LA.out.keep hb)); (try have LB := Lib.hid (LB.out.keep hb)); (try have LL := Lib.hid (LL.out.keep hb)); (try have LC := Lib.hid (LC.out.keep hb))); have LB := Lib.hid (ls_of_own ho (Nat.zero_le _)); clear ho hb; obtain ⟨bb, cc, rfl, _⟩ := LB.out.ex; (have hlt := BD.out.lt; obtain ⟨d0, d1, d2⟩ := BD.out; go_wp2_with fail; clear d0 d1 d2 hlt))
  (refine (H3.out _).mono ?_; rintro e w1 ⟨v1, rfl, ho, hb⟩; (have BD := Lib.hid (BD.out.keep hb BD.out.lt); have HB := Lib.hid (below_then HB.out hb); (try have LA := Lib.hid (LA.out.keep hb)); (try have LB := Lib.hid (LB.out.keep hb)); (try have LL := Lib.hid (LL.out.keep hb)); (try have LC := Lib.hid (LC.out.keep hb))); have LL := Lib.hid (ls_of_own ho HL.out); clear ho hb; (have hlt := BD.out.lt; obtain ⟨d0, d1, d2⟩ := BD.out; go_wp2_with fail; clear d0 d1 d2 hlt))
  refine (H4.out _).mono ?_
  rintro e w1 ⟨v1, rfl, ho, hb⟩
  (have BD := Lib.hid (BD.out.keep hb BD.out.lt); have HB := Lib.hid (below_then HB.out hb); (try have LA := Lib.hid (LA.out.keep hb)); (try have LB := Lib.hid (LB.out.keep hb)); (try have LL := Lib.hid (LL.out.keep hb)); (try have LC := Lib.hid (LC.out.keep hb)))
  have LC := Lib.hid (ls_of_own ho HR.out)
  clear ho hb
  have hlt := BD.out.lt
  obtain ⟨d0, d1, d2⟩ := BD.out
  go_wp2_with fail
  refine wp_loop_rounds 1 ?_
  go_wp2_with (rw [rounds_succ])
  go_returns
  exact ⟨by rw [HQ.out]; simp, HB.out⟩
set_option maxRecDepth 100000 in set_option maxHeartbeats 4000000 in
theorem wireRuns_more0 (d : V3) (a m long r : Int) (la ll lc : List Int) (w : World) (h0 : 0 ≤ a ∧ a ≤ 255) (hx : a % 3 = 0) (hl : ll.length ≤ 16) (hc : lc.length ≤ 16) (ha : la.length ≤ 16) (l1 : 1 < long) (l9 : long ≤ 16)
    (hr : (r == 0) = decide (long < d.x)) (hlen : ((la.length : Nat) : Int) = long - 1) (hsub : ∀ x, x ∈ la → x ∈ ll) (hmore : r = 0 → ∀ x, x ∈ la → x ∈ lc)
    (HAl : Hid (∀ W, Calls Try.prog 11 #[] W (RB W (.bool true))))
    (H1 : Hid (∀ W, Calls Try.prog 20 #[.agg #[.int .i64 d.x, .int .i64 d.y, .int .i64 d.z], .int .i64 0, .int .i64 m, .int .i64 long, .bool false] W (RLE W la 0))) (H2 : Hid (∀ W, Calls Try.prog 20 #[.agg #[.int .i64 d.x, .int .i64 d.y, .int .i64 d.z], .int .i64 0, .int .i64 m, .int .i64 long, .bool true] W (RLE W ll 0))) (H4 : Hid (∀ W, Calls Try.prog 20 #[.agg #[.int .i64 d.x, .int .i64 d.y, .int .i64 d.z], .int .i64 0, .int .i64 m, .int .i64 (long + 1), .bool false] W (RLE W lc r)))
    (H3 : Hid (∀ W, Calls Try.prog 16 #[.agg #[.int .i64 d.x, .int .i64 d.y, .int .i64 d.z], .int .i64 0, .int .i64 m] W (RLE W ll 0))) :
    Calls Try.prog 7 #[.agg #[.int .i64 d.x, .int .i64 d.y, .int .i64 d.z], .int .u8 a, .int .i64 m, .int .i64 long] w (RB w (.bool true)) := by
  have HL := Lib.hid (show ll.length ≤ 4611686018427387904 by omega)
  have HR := Lib.hid (show lc.length ≤ 4611686018427387904 by omega)
  have HLa := Lib.hid (show la.length ≤ 4611686018427387904 by omega)
  have HQ := Lib.hid hr
  have HSub := Lib.hid hsub
  have HMore := Lib.hid hmore
  have n1 : (((la.length : Nat) : Int) != long - 1) = false := by rw [hlen]; simp
  have n2 : (long == 1) = false := by simp; omega
  have n3 : decide (1 < long) = true := decide_eq_true l1
  have hla : la.length ≤ 16 := ha
  clear hl hc hr hsub hmore hlen
  (have HB := Lib.hid (show Below w.heap.size w (w.alloc (.cells #[.int .i64 d.x, .int .i64 d.y, .int .i64 d.z] 23)) by (repeat (first | (with_reducible exact Below.refl _ _) | (with_reducible assumption) | (with_reducible refine below_alloc ?_ _) | (with_reducible refine below_drewN ?_ _) | (with_reducible refine Below.drew ?_) | (with_reducible refine below_then ?_ (by with_reducible assumption)) | (with_reducible refine Below.setCell ?_ (by go_size) _)))); have BD := Lib.hid (Blk.new w 23 #[.int .i64 d.x, .int .i64 d.y, .int .i64 d.z]).dims)
  go_enter Try.func7, Try.ntmps7
  go_wp2_with fail
  (refine (HAl.out _).mono ?_; rintro e w1 ⟨rfl, hb⟩; (have BD := Lib.hid (BD.out.keep hb BD.out.lt); have HB := Lib.hid (below_then HB.out hb); (try have LA := Lib.hid (LA.out.keep hb)); (try have LB := Lib.hid (LB.out.keep hb)); (try have LL := Lib.hid (LL.out.keep hb)); (try have LC := Lib.hid (LC.out.keep hb))); clear hb; (have hlt := BD.out.lt; obtain ⟨d0, d1, d2⟩ := BD.out; go_wp2_with fail; clear d0 d1 d2 hlt))
  refine (H1.out _).mono ?_
  rintro e w1 ⟨v1, rfl, ho, hb⟩
  (have BD := Lib.hid (BD.out.keep hb BD.out.lt); have HB := Lib.hid (below_then HB.out hb); (try have LA := Lib.hid (LA.out.keep hb)); (try have LB := Lib.hid (LB.out.keep hb)); (try have LL := Lib.hid (LL.out.keep hb)); (try have LC := Lib.hid (LC.out.keep hb)))
  have LA := Lib.hid (ls_of_own ho HLa.out)
  clear ho hb
  obtain ⟨ba, ca, rfl, _⟩ := LA.out.ex
  (have hlt := BD.out.lt; obtain ⟨d0, d1, d2⟩ := BD.out; go_wp2_with fail; clear d0 d1 d2 hlt)
  (refine (H2.out _).mono ?_; rintro e w1 ⟨v1, rfl, ho, hb⟩; (have BD := Lib.hid (BD.out.keep hb BD.out.lt); have HB := Lib.hid (below_then HB.out hb); (try have LA := Lib.hid (LA.out.keep hb)); (try have LB := Lib.hid (LB.out.keep hb)); (try have LL := Lib.hid (LL.out.keep hb)); (try have LC := Lib.hid (LC.out.keep hb))); have LB := Lib.hid (ls_of_own ho HL.out); clear ho hb; (have hlt := BD.out.lt; obtain ⟨d0, d1, d2⟩ := BD.out; go_wp2_with fail; clear d0 d1 d2 hlt))
  (refine (H3.out _).mono ?_; rintro e w1 ⟨v1, rfl, ho, hb⟩; (have BD := Lib.hid (BD.out.keep hb BD.out.lt); have HB := Lib.hid (below_then HB.out hb); (try have LA := Lib.hid (LA.out.keep hb)); (try have LB := Lib.hid (LB.out.keep hb)); (try have LL := Lib.hid (LL.out.keep hb)); (try have LC := Lib.hid (LC.out.keep hb))); have LL := Lib.hid (ls_of_own ho HL.out); clear ho hb; (have hlt := BD.out.lt; obtain ⟨d0, d1, d2⟩ := BD.out; go_wp2_with fail; clear d0 d1 d2 hlt))
  refine (s_Ints1 LB.out LL.out).mono ?_
  rintro e w1 ⟨rfl, hb⟩
  (have BD := Lib.hid (BD.out.keep hb BD.out.lt); have HB := Lib.hid (below_then HB.out hb); (try have LA := Lib.hid (LA.out.keep hb)); (try have LB := Lib.hid (LB.out.keep hb)); (try have LL := Lib.hid (LL.out.keep hb)); (try have LC := Lib.hid (LC.out.keep hb)))
  clear hb
  (have hlt := BD.out.lt; obtain ⟨d0, d1, d2⟩ := BD.out; go_wp2_with fail; clear d0 d1 d2 hlt)
  refine (H4.out _).mono ?_
  rintro e w1 ⟨v1, rfl, ho, hb⟩
  (have BD := Lib.hid (BD.out.keep hb BD.out.lt); have HB := Lib.hid (below_then HB.out hb); (try have LA := Lib.hid (LA.out.keep hb)); (try have LB := Lib.hid (LB.out.keep hb)); (try have LL := Lib.hid (LL.out.keep hb)); (try have LC := Lib.hid (LC.out.keep hb)))
  have LC := Lib.hid (ls_of_own ho HR.out)
  clear ho hb
  go_wp2_with fail
  go_loopw [19] (fun v wr => ∃ k : Nat, k ≤ la.length ∧ v = .int .i64 k ∧ Below w1.heap.size w1 wr) (fun v _ => la.length - (intOf v).toNat)
  case atStart => exact ⟨0, Nat.zero_le _, rfl, Below.refl _ _⟩
  case round =>
    obtain ⟨k, hk, rfl, hbel⟩ := hrel
    (have BD := Lib.hid (BD.out.keep hbel BD.out.lt); have HB := Lib.hid (below_then HB.out hbel); (try have LA := Lib.hid (LA.out.keep hbel)); (try have LB := Lib.hid (LB.out.keep hbel)); (try have LL := Lib.hid (LL.out.keep hbel)); (try have LC := Lib.hid (LC.out.keep hbel)))
    have HW := Lib.hid hbel
    clear hbel
    by_cases hlt : k < la.length
    · obtain ⟨x, hxx⟩ : ∃ x, la[k]? = some x := ⟨_, List.getElem?_eq_getElem hlt⟩
      have HM := Lib.hid (List.mem_of_getElem? hxx)
      obtain ⟨gA, oA, eA⟩ := LA.out.addr hxx
      cases eA
      have HX := Lib.hid hxx
      have hca := LA.out.cell hxx
      clear hxx
      have HS1 := Lib.hid (Calls.rb_eq (s_has x LL.out) (show Value.bool _ = .bool true by rw [decide_eq_true (HSub.out _ HM.out)]))
      go_wp2_with fail
      clear hca
      refine HS1.out.mono ?_
      rintro e w2 ⟨rfl, hb⟩
      (have BD := Lib.hid (BD.out.keep hb BD.out.lt); have HB := Lib.hid (below_then HB.out hb); (try have LA := Lib.hid (LA.out.keep hb)); (try have LB := Lib.hid (LB.out.keep hb)); (try have LL := Lib.hid (LL.out.keep hb)); (try have LC := Lib.hid (LC.out.keep hb)))
      have HW := Lib.hid (below_then HW.out hb)
      clear hb HS1
      have hca := LA.out.cell HX.out
      by_cases hz : r = 0
      · have hz0 : (r == 0) = true := by simpa using hz
        have HS2 := Lib.hid (Calls.rb_eq (s_has x LC.out) (show Value.bool _ = .bool true by rw [decide_eq_true (HMore.out hz _ HM.out)]))
        clear hz
        go_wp2_with fail
        refine HS2.out.mono ?_
        rintro e w3 ⟨rfl, hb⟩
        have HW := Lib.hid (below_then HW.out hb)
        clear hb HS2 hca
        go_wp2_with fail
        go_roundw
        case rel => exact ⟨k + 1, by omega, by go_num, HW.out⟩
        case measure => (simp [intOf] <;> omega)
      · have hz0 : (r == 0) = false := by simpa using hz
        clear hz
        go_wp2_with fail
        go_roundw
        case rel => exact ⟨k + 1, by omega, by go_num, HW.out⟩
        case measure => (simp [intOf] <;> omega)
    · obtain rfl : k = la.length := by omega
      have hlt := BD.out.lt
      obtain ⟨d0, d1, d2⟩ := BD.out
      go_wp2_with fail
      go_returns
      exact ⟨by rw [HQ.out]; simp, HB.out⟩
theorem wireRuns_ax0 (d : V3) (a m long : Int) (w : World) (h0 : 0 ≤ a ∧ a ≤ 255) (hx : a % 3 = 0) : Calls Try.prog 7 #[.agg #[.int .i64 d.x, .int .i64 d.y, .int .i64 d.z], .int .u8 a, .int .i64 m, .int .i64 long] w (RB w (.bool true)) := by
  have HAl := Lib.hid (fun W => law05_alive W)
  have HR : ∀ l t, Hid (∀ W, Calls Try.prog 20 #[.agg #[.int .i64 d.x, .int .i64 d.y, .int .i64 d.z], .int .i64 0, .int .i64 m, .int .i64 l, .bool t] W (RLE W (d.runV 0 m l t) (d.runE 0 m l))) := fun l t => Lib.hid (fun W => wire_Run d 0 m l t W)
  have l1 := V3.run_len (d := d) 0 m long false
  have l2 := V3.run_len (d := d) 0 m long true
  have l3 := V3.run_len (d := d) 0 m (long + 1) false
  have l4 := V3.line_len (d := d) 0 m
  by_cases hE : d.runE 0 m long = 0
  · obtain ⟨hk, F⟩ := run_facts (k := 0) (by decide) hE
    have hdC := at_le5 (k := 0) (V3.askE_0 hk).1 (by decide)
    have HLn : Hid (∀ W, Calls Try.prog 16 #[.agg #[.int .i64 d.x, .int .i64 d.y, .int .i64 d.z], .int .i64 0, .int .i64 m] W (RLE W (d.lineV 0 m) 0)) := Lib.hid (fun W => by have := wire_Line d 0 m W; rw [show d.askE 0 m = 0 from hk] at this; exact this)
    have hr : (d.runE 0 m (long + 1) == 0) = decide (long < d.x) := by
      by_cases h : long < d.x
      · rw [show d.runE 0 m (long + 1) = 0 from (F.more h).1, decide_eq_true h]; rfl
      · rw [show d.runE 0 m (long + 1) = 2 from F.last h, decide_eq_false h]; rfl
    have hlong : 1 ≤ long ∧ long ≤ d.x := by
      have := hE
      rw [V3.runE, if_pos (show d.askE 0 m = 0 from hk)] at this
      split at this
      · assumption
      · cases this
    change 1 ≤ d.x ∧ d.x ≤ 16 at hdC
    by_cases h1 : long = 1
    · subst h1
      have e1 := HR 1 false
      have e2 := HR 1 true
      rw [show d.runV 0 m 1 false = [] from (F.one rfl).1, hE] at e1
      rw [show d.runV 0 m 1 true = [] from (F.one rfl).2, hE] at e2
      exact wireRuns_one0 d a m (d.runE 0 m (1 + 1)) _ (d.runV 0 m (1 + 1) false) w h0 hx l4 l3 hr HAl e1 e2 (HR (1 + 1) false) HLn
    · have e1 := HR long false
      have e2 := HR long true
      rw [hE] at e1
      rw [show d.runV 0 m long true = d.lineV 0 m from F.line (by omega), hE] at e2
      exact wireRuns_more0 d a m long (d.runE 0 m (long + 1)) _ _ (d.runV 0 m (long + 1) false) w h0 hx l4 l3 l1 (by omega) (by omega) hr F.ma F.sub
        (fun hz => by
          by_cases h : long < d.x
          · exact (F.more h).2
          · have := F.last h; exact absurd ((show d.runE 0 m (long + 1) = 0 from hz).symm.trans this) (by decide))
        HAl e1 e2 (HR (long + 1) false) HLn
  · exact wireRuns_bad0 d a m long _ _ _ w h0 hx hE l1 l2 HAl (HR long false) (HR long true)
end Go.Proofs.Ytpooieghlceefaa
