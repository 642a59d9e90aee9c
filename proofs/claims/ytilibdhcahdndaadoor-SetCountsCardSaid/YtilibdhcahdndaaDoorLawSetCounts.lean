/- SetCounts: how many are in both, in either, in one alone: the call returns true. -/
import Derived.Test.YtilibdhcahdndaaDoorSetSays
import Derived.Test.YtilibdhcahdndaaDoorSetAlive
import Derived.Test.YtilibdhcahdndaaDoorRowTab
namespace Go.Proofs.YtilibdhcahdndaaDoor
open Go.ChangeShapes Go.WideShapes Go.ChangeAt Go.RowKit Go.Shelf

theorem counts_law {n : Int} {a b : List Nat} (h : sChk2 n a b = 0) (ha : W64 a) (hb : W64 b) :
    manyV n (joinIf andW n a b) + manyV n (joinIf orW n a b) = manyV n a + manyV n b ∧
    sChk2 n (joinIf lessW n a b) (joinIf andW n a b) = 0 ∧ joinIf orW n (joinIf lessW n a b) (joinIf andW n a b) = a ∧ anyNZ (joinIf andW n (joinIf lessW n a b) (joinIf andW n a b)) = false := by
  obtain ⟨h1, h2⟩ := sChk2_0 h
  obtain ⟨a1, a2, a3⟩ := and_may h ha hb
  obtain ⟨o1, o2, o3⟩ := or_may h ha hb
  obtain ⟨l1, l2, l3⟩ := less_may h ha hb
  have hla := (sMay_len h1).2.1
  have hlb := (sMay_len h2).2.1
  have h3 := sChk2_of l1 a1
  have fl := joinIf_fit (n := n) lessW_fit ha hb
  have fa := joinIf_fit (n := n) andW_fit ha hb
  obtain ⟨p1, p2, p3⟩ := or_may h3 fl fa
  obtain ⟨q1, q2, q3⟩ := and_may h3 fl fa
  refine ⟨?_, h3, ?_, ?_⟩
  · have := count_two (p := joinIf andW n a b) (q := joinIf orW n a b) (r := a) (s := b) (fun i => by rw [a3, o3]; cases there a i <;> cases there b i <;> rfl) (64 * a.length)
    unfold manyV nums
    rw [if_pos a1, if_pos o1, if_pos h1, if_pos h2, a2, o2, show b.length = a.length by omega]
    omega
  · refine sets_ext (by omega) (joinIf_fit orW_fit fl fa) ha (fun i _ => ?_)
    rw [p3, l3, a3]; cases there a i <;> cases there b i <;> rfl
  · rw [← Bool.not_eq_true, anyNZ_bits (joinIf_fit andW_fit fl fa)]
    rintro ⟨i, _, hi⟩
    rw [q3, l3, a3] at hi
    revert hi; cases there a i <;> cases there b i <;> simp

theorem manyV_len {n : Int} {ws : List Nat} : 0 ≤ manyV n ws ∧ manyV n ws ≤ 12288 := by
  unfold manyV; split
  · next h =>
    have := sChk_len h
    have := numsTo_len ws (64 * ws.length)
    change (nums ws).length ≤ _ at this
    omega
  · omega

set_option maxRecDepth 100000 in set_option maxHeartbeats 4000000 in
theorem law03_SetCounts_ok (n : Int) (bs bt : Option Addr) (cs ct : Nat) (s t ja jo jl : List Nat) (w : World) (i j k l m : Int) (hs : SetIn w bs s) (ht : SetIn w bt t) (l1 : s.length ≤ 300) (l2 : t.length ≤ 300)
    (h1 : SaysJoin 15 n s t ja 0) (h2 : SaysJoin 16 n s t jo 0) (h3 : SaysJoin 17 n s t jl 0)
    (h4 : SaysMany n s i 0) (h5 : SaysMany n t j 0) (h6 : SaysMany n ja k 0) (h7 : SaysMany n jo l 0) (h8 : SaysMany n jl m 0)
    (h9 : SaysJoin 16 n jl ja s 0) (h10 : SaysTwo 24 n jl ja false 0) (h11 : SaysTwo 24 n s t (decide (0 < k)) 0) (h12 : SaysTwo 25 n s t (decide (m = 0)) 0)
    (hi : 0 ≤ i ∧ i ≤ 12288) (hj : 0 ≤ j ∧ j ≤ 12288) (hk : 0 ≤ k ∧ k ≤ 12288) (hl : 0 ≤ l ∧ l ≤ 12288) (hm : 0 ≤ m ∧ m ≤ 12288) (hsum : k + l = i + j)
    (la : ja.length ≤ 300) (lo : jo.length ≤ 300) (ll : jl.length ≤ 300) (fa : W64 ja) (fo : W64 jo) (fl : W64 jl) (fs : W64 s)
    (hT : TabAt 0 Lib.deBruijn64tab w) (hg : 0 < w.heap.size) :
    Calls Tryd.prog 7 #[.int .i64 n, .slice bs s.length cs, .slice bt t.length ct] w (RB w (.bool true)) := by
  have HS := Lib.hid hs
  have HT := Lib.hid ht
  have HB := Lib.hid hT
  have H1 := Lib.hid h1
  have H2 := Lib.hid h2
  have H3 := Lib.hid h3
  have H4 := Lib.hid h4
  have H5 := Lib.hid h5
  have H6 := Lib.hid h6
  have H7 := Lib.hid h7
  have H8 := Lib.hid h8
  have H9 := Lib.hid h9
  have H10 := Lib.hid h10
  have FA := Lib.hid fa
  have FO := Lib.hid fo
  have FL := Lib.hid fl
  have FS := Lib.hid fs
  have hsum2 : (k + l == i + j) = true := by rw [beq_iff_eq]; exact hsum
  clear hs ht hT h1 h2 h3 h4 h5 h6 h7 h8 h9 h10 fa fo fl fs hsum
  obtain ⟨x, hx, hx2⟩ : ∃ x, x = decide (0 < k) ∧ (x == decide (0 < k)) = true := ⟨_, rfl, by simp⟩
  obtain ⟨y, hy, hy2⟩ : ∃ y, y = decide (m = 0) ∧ (y == (m == 0)) = true := ⟨_, rfl, by rw [beq_iff_eq, Bool.eq_iff_iff]; simp⟩
  rw [← hx] at h11
  rw [← hy] at h12
  have H11 := Lib.hid h11
  have H12 := Lib.hid h12
  clear h11 h12 hx hy
  go_enter Tryd.func7, Tryd.ntmps7
  go_wp2_with fail
  refine (law03_alive _ HB.out hg).mono ?_
  rintro e1 w1 ⟨rfl, hb1⟩
  have HF := Lib.hid hb1
  (have HS := Lib.hid (HS.out.keep hb1)); (have HT := Lib.hid (HT.out.keep hb1))
  clear hb1
  go_wp2_with (refine wp_region_quiet_lit (by kernel_rfl) (by kernel_rfl) ?_; (repeat (any_goals (first | go_big_quiet_step (fail) | quiet_step (fail) | (refine wpQuiet_step (fun K hK => ?_); go_simp; split <;> (refine hK _ ?_; clear hK K))))); all_goals (refine wpQuiet_nil ?_; intro _ hw'; obtain ⟨nq, hw''⟩ := hw'; subst hw''))
  refine (H1.out _ _ _ _ _ HS.out HT.out).mono ?_
  rintro e4 w4 ⟨v4, rfl, q4, hb1⟩
  obtain ⟨b4, k4, rfl, s4, _⟩ := set_of_own q4 (by omega) FA.out
  have HF := Lib.hid (below_then HF.out hb1)
  have S4 := Lib.hid s4
  (have HS := Lib.hid (HS.out.keep hb1)); (have HT := Lib.hid (HT.out.keep hb1))
  clear hb1 q4 s4
  go_wp2_with fail
  refine (H2.out _ _ _ _ _ HS.out HT.out).mono ?_
  rintro e5 w5 ⟨v5, rfl, q5, hb1⟩
  obtain ⟨b5, k5, rfl, s5, _⟩ := set_of_own q5 (by omega) FO.out
  have HF := Lib.hid (below_then HF.out hb1)
  have S5 := Lib.hid s5
  (have HS := Lib.hid (HS.out.keep hb1)); (have HT := Lib.hid (HT.out.keep hb1)); (have S4 := Lib.hid (S4.out.keep hb1))
  clear hb1 q5 s5
  go_wp2_with fail
  refine (H3.out _ _ _ _ _ HS.out HT.out).mono ?_
  rintro e6 w6 ⟨v6, rfl, q6, hb1⟩
  obtain ⟨b6, k6, rfl, s6, _⟩ := set_of_own q6 (by omega) FL.out
  have HF := Lib.hid (below_then HF.out hb1)
  have S6 := Lib.hid s6
  (have HS := Lib.hid (HS.out.keep hb1)); (have HT := Lib.hid (HT.out.keep hb1)); (have S4 := Lib.hid (S4.out.keep hb1)); (have S5 := Lib.hid (S5.out.keep hb1))
  clear hb1 q6 s6
  go_wp2_with fail
  refine (H4.out _ _ _ HS.out).mono ?_
  rintro e7 w7 ⟨rfl, hb1⟩
  (have HF := Lib.hid (below_then HF.out hb1); have HS := Lib.hid (HS.out.keep hb1); have HT := Lib.hid (HT.out.keep hb1); have S4 := Lib.hid (S4.out.keep hb1); have S5 := Lib.hid (S5.out.keep hb1); have S6 := Lib.hid (S6.out.keep hb1); clear hb1)
  go_wp2_with fail
  refine (H5.out _ _ _ HT.out).mono ?_
  rintro e8 w8 ⟨rfl, hb1⟩
  (have HF := Lib.hid (below_then HF.out hb1); have HS := Lib.hid (HS.out.keep hb1); have HT := Lib.hid (HT.out.keep hb1); have S4 := Lib.hid (S4.out.keep hb1); have S5 := Lib.hid (S5.out.keep hb1); have S6 := Lib.hid (S6.out.keep hb1); clear hb1)
  go_wp2_with fail
  refine (H6.out _ _ _ S4.out).mono ?_
  rintro e9 w9 ⟨rfl, hb1⟩
  (have HF := Lib.hid (below_then HF.out hb1); have HS := Lib.hid (HS.out.keep hb1); have HT := Lib.hid (HT.out.keep hb1); have S4 := Lib.hid (S4.out.keep hb1); have S5 := Lib.hid (S5.out.keep hb1); have S6 := Lib.hid (S6.out.keep hb1); clear hb1)
  go_wp2_with fail
  refine (H7.out _ _ _ S5.out).mono ?_
  rintro e10 w10 ⟨rfl, hb1⟩
  (have HF := Lib.hid (below_then HF.out hb1); have HS := Lib.hid (HS.out.keep hb1); have HT := Lib.hid (HT.out.keep hb1); have S4 := Lib.hid (S4.out.keep hb1); have S5 := Lib.hid (S5.out.keep hb1); have S6 := Lib.hid (S6.out.keep hb1); clear hb1)
  go_wp2_with fail
  refine (H8.out _ _ _ S6.out).mono ?_
  rintro e11 w11 ⟨rfl, hb1⟩
  (have HF := Lib.hid (below_then HF.out hb1); have HS := Lib.hid (HS.out.keep hb1); have HT := Lib.hid (HT.out.keep hb1); have S4 := Lib.hid (S4.out.keep hb1); have S5 := Lib.hid (S5.out.keep hb1); have S6 := Lib.hid (S6.out.keep hb1); clear hb1)
  go_wp2_with fail
  refine (H9.out _ _ _ _ _ S6.out S4.out).mono ?_
  rintro e12 w12 ⟨v12, rfl, q12, hb1⟩
  obtain ⟨b12, k12, rfl, s12, _⟩ := set_of_own q12 (by omega) FS.out
  have S7 := Lib.hid s12
  clear q12 s12
  (have HF := Lib.hid (below_then HF.out hb1); have HS := Lib.hid (HS.out.keep hb1); have HT := Lib.hid (HT.out.keep hb1); have S4 := Lib.hid (S4.out.keep hb1); have S5 := Lib.hid (S5.out.keep hb1); have S6 := Lib.hid (S6.out.keep hb1); clear hb1)
  go_wp2_with fail
  refine (H10.out _ _ _ _ _ S6.out S4.out).mono ?_
  rintro e13 w13 ⟨rfl, hb1⟩
  (have S7 := Lib.hid (S7.out.keep hb1))
  (have HF := Lib.hid (below_then HF.out hb1); have HS := Lib.hid (HS.out.keep hb1); have HT := Lib.hid (HT.out.keep hb1); have S4 := Lib.hid (S4.out.keep hb1); have S5 := Lib.hid (S5.out.keep hb1); have S6 := Lib.hid (S6.out.keep hb1); clear hb1)
  go_wp2_with fail
  refine (H11.out _ _ _ _ _ HS.out HT.out).mono ?_
  rintro e14 w14 ⟨rfl, hb1⟩
  (have S7 := Lib.hid (S7.out.keep hb1))
  (have HF := Lib.hid (below_then HF.out hb1); have HS := Lib.hid (HS.out.keep hb1); have HT := Lib.hid (HT.out.keep hb1); have S4 := Lib.hid (S4.out.keep hb1); have S5 := Lib.hid (S5.out.keep hb1); have S6 := Lib.hid (S6.out.keep hb1); clear hb1)
  go_wp2_with fail
  refine (H12.out _ _ _ _ _ HS.out HT.out).mono ?_
  rintro e15 w15 ⟨rfl, hb1⟩
  (have S7 := Lib.hid (S7.out.keep hb1))
  (have HF := Lib.hid (below_then HF.out hb1); have HS := Lib.hid (HS.out.keep hb1); have HT := Lib.hid (HT.out.keep hb1); have S4 := Lib.hid (S4.out.keep hb1); have S5 := Lib.hid (S5.out.keep hb1); have S6 := Lib.hid (S6.out.keep hb1); clear hb1)
  go_wp2_with fail
  refine (Calls.rb_eq (ref03_Same _ _ _ _ s s _ S7.out HS.out) (show Value.bool (decide (s = s)) = .bool true by simp)).mono ?_
  rintro e16 w16 ⟨rfl, hb1⟩
  have HF := Lib.hid (below_then HF.out hb1)
  clear hb1
  go_wp2_with fail
  all_goals
    go_returns
    exact ⟨by first | rfl | simp, HF.out⟩

set_option maxRecDepth 100000 in set_option maxHeartbeats 4000000 in
theorem law03_SetCounts_err (n : Int) (bs bt : Option Addr) (cs ct : Nat) (s t : List Nat) (w : World) (e : Int) (hs : SetIn w bs s) (ht : SetIn w bt t) (l1 : s.length ≤ 300) (l2 : t.length ≤ 300)
    (h1 : SaysJoin 15 n s t [] e) (h2 : SaysJoin 16 n s t [] e) (h3 : SaysJoin 17 n s t [] e) (he : (e != 0) = true) (he2 : (e == 0) = false)
    (hT : TabAt 0 Lib.deBruijn64tab w) (hg : 0 < w.heap.size) :
    Calls Tryd.prog 7 #[.int .i64 n, .slice bs s.length cs, .slice bt t.length ct] w (RB w (.bool true)) := by
  have HS := Lib.hid hs
  have HT := Lib.hid ht
  have HB := Lib.hid hT
  have H1 := Lib.hid h1
  have H2 := Lib.hid h2
  have H3 := Lib.hid h3
  clear hs ht hT h1 h2 h3
  go_enter Tryd.func7, Tryd.ntmps7
  go_wp2_with fail
  refine (law03_alive _ HB.out hg).mono ?_
  rintro e1 w1 ⟨rfl, hb1⟩
  have HF := Lib.hid hb1
  (have HS := Lib.hid (HS.out.keep hb1)); (have HT := Lib.hid (HT.out.keep hb1))
  clear hb1
  go_wp2_with (refine wp_region_quiet_lit (by kernel_rfl) (by kernel_rfl) ?_; (repeat (any_goals (first | go_big_quiet_step (fail) | quiet_step (fail) | (refine wpQuiet_step (fun K hK => ?_); go_simp; split <;> (refine hK _ ?_; clear hK K))))); all_goals (refine wpQuiet_nil ?_; intro _ hw'; obtain ⟨nq, hw''⟩ := hw'; subst hw''))
  refine (H1.out _ _ _ _ _ HS.out HT.out).mono ?_
  rintro e4 w4 ⟨v4, rfl, q4, hb1⟩
  obtain ⟨b4, k4, rfl, _, _⟩ := own_rd q4
  have HF := Lib.hid (below_then HF.out hb1)
  (have HS := Lib.hid (HS.out.keep hb1)); (have HT := Lib.hid (HT.out.keep hb1))
  clear hb1 q4
  go_wp2_with fail
  refine (H2.out _ _ _ _ _ HS.out HT.out).mono ?_
  rintro e5 w5 ⟨v5, rfl, q5, hb1⟩
  obtain ⟨b5, k5, rfl, _, _⟩ := own_rd q5
  have HF := Lib.hid (below_then HF.out hb1)
  (have HS := Lib.hid (HS.out.keep hb1)); (have HT := Lib.hid (HT.out.keep hb1))
  clear hb1 q5
  go_wp2_with fail
  refine (H3.out _ _ _ _ _ HS.out HT.out).mono ?_
  rintro e6 w6 ⟨v6, rfl, q6, hb1⟩
  obtain ⟨b6, k6, rfl, _, _⟩ := own_rd q6
  have HF := Lib.hid (below_then HF.out hb1)
  clear hb1 q6
  go_wp2_with (refine wp_region_quiet_lit (by kernel_rfl) (by kernel_rfl) ?_; (repeat (any_goals (first | go_big_quiet_step (fail) | quiet_step (fail) | (refine wpQuiet_step (fun K hK => ?_); go_simp; split <;> (refine hK _ ?_; clear hK K))))); all_goals (refine wpQuiet_nil ?_; intro _ hw'; obtain ⟨nq, hw''⟩ := hw'; subst hw''))
  all_goals
    go_returns
    exact ⟨by first | rfl | simp, by first | exact HF.out | exact below_drewN HF.out _⟩

set_option maxRecDepth 100000 in set_option maxHeartbeats 4000000 in
theorem law03_SetCounts (n : Int) (bs bt : Option Addr) (cs ct : Nat) (s t : List Nat) (w : World) (hs : Rd w bs (wcells s) ∧ W64 s) (ht : Rd w bt (wcells t) ∧ W64 t)
    (hT : TabAt 0 Lib.deBruijn64tab w) (hg : 0 < w.heap.size) :
    Calls Tryd.prog 7 #[.int .i64 n, .slice bs s.length cs, .slice bt t.length ct] w (RB w (.bool true)) := by
  by_cases l1 : s.length ≤ 300
  · by_cases l2 : t.length ≤ 300
    · have S := SetIn.mk hs.1 (by omega) hs.2
      have T := SetIn.mk ht.1 (by omega) ht.2
      have g1 := saysAnd n s t
      have g2 := saysOr n s t
      have g3 := saysLess n s t
      by_cases e3 : sChk2 n s t = 0
      · obtain ⟨e1, e2⟩ := sChk2_0 e3
        obtain ⟨c1, c2, c3, c4⟩ := counts_law e3 hs.2 ht.2
        obtain ⟨a1, a2, _⟩ := and_may e3 hs.2 ht.2
        obtain ⟨o1, o2, _⟩ := or_may e3 hs.2 ht.2
        obtain ⟨d1, d2, _⟩ := less_may e3 hs.2 ht.2
        have fa := joinIf_fit (n := n) andW_fit hs.2 ht.2
        have fo := joinIf_fit (n := n) orW_fit hs.2 ht.2
        have fl := joinIf_fit (n := n) lessW_fit hs.2 ht.2
        have g4 := saysMany n s
        have g5 := saysMany n t
        have g6 := saysMany n (joinIf andW n s t)
        have g7 := saysMany n (joinIf orW n s t)
        have g8 := saysMany n (joinIf lessW n s t)
        have g9 := saysOr n (joinIf lessW n s t) (joinIf andW n s t)
        have g10 := saysMeet n (joinIf lessW n s t) (joinIf andW n s t)
        have g11 := saysMeet n s t
        have g12 := saysIn n s t
        have hin : (decide (sChk2 n s t = 0) && !anyNZ (joinIf lessW n s t)) = decide (manyV n (joinIf lessW n s t) = 0) := by
          have := manyV_len (n := n) (ws := joinIf lessW n s t)
          rw [decide_eq_true e3, Bool.true_and, anyNZ_many fl d1, Bool.eq_iff_iff]
          simp; omega
        rw [e3] at g1 g2 g3 g11
        rw [hin, e3] at g12
        rw [e1] at g4; rw [e2] at g5; rw [a1] at g6; rw [o1] at g7; rw [d1] at g8; rw [c2, c3] at g9; rw [c2, c4] at g10
        rw [anyNZ_many fa a1] at g11
        exact law03_SetCounts_ok n bs bt cs ct s t _ _ _ w _ _ _ _ _ S T l1 l2 g1 g2 g3 g4 g5 g6 g7 g8 g9 g10 g11 g12 manyV_len manyV_len manyV_len manyV_len manyV_len c1 (by omega) (by omega) (by omega) fa fo fl hs.2 hT hg
      · have j1 : ∀ f, joinIf f n s t = [] := fun f => if_neg e3
        rw [j1] at g1 g2 g3
        exact law03_SetCounts_err n bs bt cs ct s t w _ S T l1 l2 g1 g2 g3 (by simpa using e3) (by simpa using e3) hT hg
    · have HB := Lib.hid hT
      have l2' : 300 < t.length := by omega
      clear hs ht hT
      go_enter Tryd.func7, Tryd.ntmps7
      go_wp2_with fail
      refine (law03_alive _ HB.out hg).mono ?_
      rintro e1 w1 ⟨rfl, hb1⟩
      go_wp2_with (refine wp_region_quiet_lit (by kernel_rfl) (by kernel_rfl) ?_; (repeat (any_goals (first | go_big_quiet_step (fail) | quiet_step (fail) | (refine wpQuiet_step (fun K hK => ?_); go_simp; split <;> (refine hK _ ?_; clear hK K))))); all_goals (refine wpQuiet_nil ?_; intro _ hw'; obtain ⟨nq, hw''⟩ := hw'; subst hw''))
      all_goals
        go_returns
        exact ⟨rfl, by (repeat (first | (with_reducible exact Below.refl _ _) | (with_reducible assumption) | (with_reducible refine below_alloc ?_ _) | (with_reducible refine below_drewN ?_ _) | (with_reducible refine Below.drew ?_) | (with_reducible refine below_then ?_ (by with_reducible assumption)) | (with_reducible refine Below.setCell ?_ (by go_size) _)))⟩
  · have HB := Lib.hid hT
    have l1' : 300 < s.length := by omega
    clear hs ht hT
    go_enter Tryd.func7, Tryd.ntmps7
    go_wp2_with fail
    refine (law03_alive _ HB.out hg).mono ?_
    rintro e1 w1 ⟨rfl, hb1⟩
    go_wp2_with (refine wp_region_quiet_lit (by kernel_rfl) (by kernel_rfl) ?_; (repeat (any_goals (first | go_big_quiet_step (fail) | quiet_step (fail) | (refine wpQuiet_step (fun K hK => ?_); go_simp; split <;> (refine hK _ ?_; clear hK K))))); all_goals (refine wpQuiet_nil ?_; intro _ hw'; obtain ⟨nq, hw''⟩ := hw'; subst hw''))
    all_goals
      go_returns
      exact ⟨rfl, by (repeat (first | (with_reducible exact Below.refl _ _) | (with_reducible assumption) | (with_reducible refine below_alloc ?_ _) | (with_reducible refine below_drewN ?_ _) | (with_reducible refine Below.drew ?_) | (with_reducible refine below_then ?_ (by with_reducible assumption)) | (with_reducible refine Below.setCell ?_ (by go_size) _)))⟩

set_option maxRecDepth 100000 in set_option maxHeartbeats 4000000 in
theorem lift_setCounts (os : Os) (started : os.Started) (H : Type) (enc : TypeId × Value → H) (F : Stop.Interp) :
    ReturnsInHanded {} Tryd.checked os 7 .any ((OpenSpec.ofChange Rows.setCountsSpec).preRow enc Tryd.prog Tryd.f7 Rows.setCountsRow.domain false Rows.setCountsRow.laid) (((OpenSpec.ofChange Rows.setCountsSpec).at F).post enc Tryd.prog Tryd.f7 false true false false) := by
  obtain ⟨places, hx⟩ : ∃ places, DataW.whole enc Tryd.prog ((laidWorld os).forCall (fun _ _ => 0) ⟨#[], #[.int .i64 0, .slice none 0 0, .slice none 0 0], []⟩).memory Tryd.f7.params.toList Rows.setCountsSpec.vars false #[.int .i64 0, .slice none 0 0, .slice none 0 0].toList 8 = some ([.lit (.int .i64 0), .nil, .nil], [], places) := ⟨[], by kernel_rfl⟩
  refine returnsInHanded_of_row (C := Tryd.checked) (s := OpenSpec.ofChange Rows.setCountsSpec) ownKnob0 started (by kernel_rfl) Tryd.func7
    (witness_row_at (enc := enc) (C := Tryd.checked) false (laidWorld os) #[.int .i64 0, .slice none 0 0, .slice none 0 0] rfl (by kernel_rfl) (by kernel_rfl) (by kernel_rfl)
      (OpenSpec.preRow_of_cond 8 hx (by kernel_rfl) (fun k hk => by cases hk) (by kernel_rfl) (laidMet_of_run' 8 (by kernel_rfl) (by kernel_rfl)))) ?_
  intro W base args ds gs before hval0 hW _ _ _ hL0 _ _
  have hval : ∀ (j : Nat) t v, Tryd.f7.params[j]? = some t → args[j]? = some v → Value.okWide Tryd.prog W .any base t v := hval0
  have hT := tab_of_laid (W := W) hL0
  have hg := tab_lt hT
  have hW' := hW
  obtain ⟨p, q, hA0, hV, rfl, hfz, hnd⟩ := hW
  have hA : DataW.TrodAll enc Tryd.prog W 0 (fun _ => true) true Tryd.f7.params.toList args.toList ds p := hA0
  rw [Tryd.params7] at hA hval
  have hK := hA
  obtain ⟨v0, vs0, d0, ds0, p0, q0, hargs, rfl, rfl, h0, r0⟩ := trodAll_cons hA
  obtain ⟨v1, vs1, d1, ds1, p1, q1, rfl, rfl, rfl, h1, r1⟩ := trodAll_cons r0
  obtain ⟨v2, vs2, d2, ds2, p2, q2, rfl, rfl, rfl, h2, r2⟩ := trodAll_cons r1
  obtain ⟨rfl, rfl, rfl⟩ := trodAll_nil r2
  obtain rfl : args = #[v0, v1, v2] := by cases args; simp_all
  obtain ⟨n, rfl⟩ := okWide_int Tryd.underlying3 (hval 0 _ v0 rfl rfl)
  obtain ⟨bs, s, cs, rfl, hs, _⟩ := open_set (hval 1 _ v1 rfl rfl) h1
  obtain ⟨bt, t, ct, rfl, ht, _⟩ := open_set (hval 2 _ v2 rfl rfl) h2
  obtain ⟨rfl, rfl⟩ := trodVars_none hV
  clear hA0 hval0
  simp only [List.append_nil] at hW'
  refine (law03_SetCounts n bs bt cs ct s t W hs ht hT hg).mono fun e W' ⟨he, bel⟩ => ?_
  subst he
  refine ⟨_, rfl, _, _, _, [], _, [], hW', trodAll_mk1 (shut_bool Tryd.underlying4 _), trodAll_below bel _ _ _ _ ?_ hK, rfl, bel.frame _, fun h => by cases h⟩
  intro t ht
  simp at ht <;> (rcases ht with rfl | rfl | rfl <;> exact ⟨by kernel_rfl, of_decide_eq_true (by kernel_rfl)⟩)

theorem said_setCounts : Rows.SetCountsSaid :=
  OpenClaim.holds_of_cond 7 Tryd.f7 rfl rfl rfl rfl rfl rfl rfl ⟨rfl, rfl, rfl, rfl, rfl⟩ rfl rfl rfl rfl rfl (by kernel_rfl) Tryd.func7 (by kernel_rfl)
    (of_decide_eq_true (by kernel_rfl)) (by unfold Func.isWrapper; first | (rw [if_pos (by decide +kernel)]; kernel_rfl) | (rw [if_neg (by decide +kernel)]; exact ⟨rfl, rfl⟩))
    (fun os started H enc _ F => by rw [OpenClaim.pre_eq_preRow]; exact lift_setCounts os started H enc F)

theorem plain_setCounts (f : FuncId) (fn : Func) (hf : Tryd.pinned.checked.prog.funcNamed "tidehall/tidehalllaw03.SetCounts" = some f) (hfn : Tryd.pinned.checked.prog.funcs[f]? = some fn) :
    false = Tryd.pinned.checked.prog.looks [] ∧ ∀ (j : Nat) t, fn.params[j]? = some t → Tryd.pinned.checked.prog.wantsStandIn t = false := by
  obtain rfl : f = 7 := Option.some.inj ((show Tryd.prog.funcNamed "tidehall/tidehalllaw03.SetCounts" = some 7 by kernel_rfl).symm.trans hf) |>.symm
  obtain rfl : fn = Tryd.f7 := (Option.some.inj (Tryd.func7.symm.trans hfn)).symm
  refine ⟨by kernel_rfl, fun j t ht => ?_⟩
  rw [Tryd.params7] at ht
  have hm := Array.mem_of_getElem? ht
  simp at hm <;> (rcases hm with rfl | rfl | rfl <;> exact (show Tryd.prog.wantsStandIn _ = false by kernel_rfl))

theorem SetCounts_holds : Rows.SetCountsCardSaid :=
  Claim7.holds_tied_plain_at .later [] _ _ _ _ said_setCounts (fun _ h => by cases h) (by kernel_rfl) (fun _ h => by cases h) setCounts_row_tie rfl ⟨rfl, rfl⟩ (by kernel_rfl) rfl plain_setCounts (by kernel_rfl)
end Go.Proofs.YtilibdhcahdndaaDoor
