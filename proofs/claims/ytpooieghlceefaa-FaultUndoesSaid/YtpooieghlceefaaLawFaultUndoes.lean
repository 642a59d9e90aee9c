/- FaultUndoes: Mark and Clear undo each other, and the order of two marks counts for nothing: the call returns true. -/
import Derived.Test.YtpooieghlceefaaFaultAlive
import Derived.Test.YtpooieghlceefaaRowInt
namespace Go.Proofs.Ytpooieghlceefaa
open Go.ChangeShapes Go.WideShapes Go.ChangeAt Go.RowKit Go.Shelf

set_option maxRecDepth 100000 in set_option maxHeartbeats 4000000 in
theorem core_FaultUndoes (ba : Option Addr) (ca : Nat) (n : Int) (l : List Int) (j k : Int) (w : World) (hc : LS w (.slice ba l.length ca) l) (hl : l.length ≤ 20000) :
    Calls Try.prog 10 #[.int .i64 n, .slice ba l.length ca, .int .i64 j, .int .i64 k] w (RB w (.bool true)) := by
  have HAl := Lib.hid (fun W => law17_alive W)
  have HB := Lib.hid (Below.refl w.heap.size w)
  have HC := Lib.hid hc
  have K1 := Lib.hid (fun W (h : LS W (.slice ba l.length ca) l) => s_Mark h n j)
  have K2 := Lib.hid (fun W (h : LS W (.slice ba l.length ca) l) => s_Mark h n k)
  have HL1 := Lib.hid (markV_len n l j)
  have HL2 := Lib.hid (markV_len n l k)
  have S0 := Lib.hid (fun (d : List Int) W v u (h : LS W v d) (h2 : LS W u d) => Calls.rb_eq (s_same h h2) (show Value.bool (decide _) = .bool true by rw [decide_eq_true rfl]))
  have hd0 : decide (20000 < l.length) = false := decide_eq_false (by omega)
  clear hc
  rcases mark_cases n l j with ⟨c1, c2, c3, _⟩ | ⟨c1, c2, c3, c4, c5, c6⟩ | ⟨c1, c2, c3, c4, c5, c6⟩
  · rw [c2, c3] at K1
    rw [c3] at HL1
    have g1 : (askM n l j == 0) = false := by simpa using c1
    have g2 : (askM n l j != 0) = true := by simpa using c1
    have g3 : (askM n l j == 170) = false := by
      unfold askM; split <;> (try split) <;> decide
    clear c1 c2 c3
    generalize askM n l j = E at *
    generalize markV n l k = V2 at *
    generalize markE n l k = E2 at *
    (go_enter Try.func10, Try.ntmps10; go_wp2_with fail; (refine (HAl.out _).mono ?_; rintro e w1 ⟨rfl, hb⟩; (have HB := Lib.hid (below_then HB.out hb); (try have HC := Lib.hid (HC.out.keep hb)); (try have HA := Lib.hid (HA.out.keep hb)); (try have HD := Lib.hid (HD.out.keep hb)); (try have HE := Lib.hid (HE.out.keep hb)); (try have HF := Lib.hid (HF.out.keep hb))); clear hb; go_wp2_with fail); (refine (K1.out _ HC.out).mono ?_; rintro e w1 ⟨v1, rfl, ho, hb⟩; (have HB := Lib.hid (below_then HB.out hb); (try have HC := Lib.hid (HC.out.keep hb)); (try have HA := Lib.hid (HA.out.keep hb)); (try have HD := Lib.hid (HD.out.keep hb)); (try have HE := Lib.hid (HE.out.keep hb)); (try have HF := Lib.hid (HF.out.keep hb))); have HA := Lib.hid (list_of_own' ho (by have := HL1.out; omega)); clear ho hb; go_wp2_with fail); (refine (K2.out _ HC.out).mono ?_; rintro e w1 ⟨v1, rfl, ho, hb⟩; (have HB := Lib.hid (below_then HB.out hb); (try have HC := Lib.hid (HC.out.keep hb)); (try have HA := Lib.hid (HA.out.keep hb)); (try have HD := Lib.hid (HD.out.keep hb)); (try have HE := Lib.hid (HE.out.keep hb)); (try have HF := Lib.hid (HF.out.keep hb))); have HD := Lib.hid (list_of_own' ho (by have := HL2.out; omega)); clear ho hb; go_wp2_with fail))
    (go_returns; exact ⟨rfl, HB.out⟩)
  · have hs := (mk_iff.1 (askM_0.1 c1).2).2
    have hj := (askM_0.1 c1).1.2
    have h2 := ask_del c1 c2 hj
    have h3 : j ∉ delL l j := fun h3 => ((mem_delL hs c2).1 h3).2 rfl
    have h4 : markE n (delL l j) j = 0 ∧ markV n (delL l j) j = l := by
      rcases mark_cases n (delL l j) j with ⟨d1, _⟩ | ⟨_, d2, _⟩ | ⟨_, _, d3, d4, _⟩
      · exact absurd h2 d1
      · exact absurd d2 h3
      · exact ⟨d3, by rw [d4, ins_del hs c2]⟩
    rw [c3, c4] at K1
    rw [c4] at HL1
    have K3 := Lib.hid (fun W (h : LS W (.slice ba l.length ca) l) => by have := s_Clear h n j; rw [c5, c6] at this; exact this)
    have K4 := Lib.hid (fun W v (h : LS W v (delL l j)) => by have := s_Mark h n j; rw [h4.1, h4.2] at this; exact this)
    have HL3 := Lib.hid (show (delL l j).length ≤ 20000 by have := clearV_len n l j; rw [c6] at this; omega)
    clear c1 c2 c3 c4 c5 c6 hs hj h2 h3 h4
    generalize delL l j = D at *
    generalize markV n l k = V2 at *
    generalize markE n l k = E2 at *
    (go_enter Try.func10, Try.ntmps10; go_wp2_with fail; (refine (HAl.out _).mono ?_; rintro e w1 ⟨rfl, hb⟩; (have HB := Lib.hid (below_then HB.out hb); (try have HC := Lib.hid (HC.out.keep hb)); (try have HA := Lib.hid (HA.out.keep hb)); (try have HD := Lib.hid (HD.out.keep hb)); (try have HE := Lib.hid (HE.out.keep hb)); (try have HF := Lib.hid (HF.out.keep hb))); clear hb; go_wp2_with fail); (refine (K1.out _ HC.out).mono ?_; rintro e w1 ⟨v1, rfl, ho, hb⟩; (have HB := Lib.hid (below_then HB.out hb); (try have HC := Lib.hid (HC.out.keep hb)); (try have HA := Lib.hid (HA.out.keep hb)); (try have HD := Lib.hid (HD.out.keep hb)); (try have HE := Lib.hid (HE.out.keep hb)); (try have HF := Lib.hid (HF.out.keep hb))); have HA := Lib.hid (list_of_own' ho (by have := HL1.out; omega)); clear ho hb; go_wp2_with fail); (refine (K2.out _ HC.out).mono ?_; rintro e w1 ⟨v1, rfl, ho, hb⟩; (have HB := Lib.hid (below_then HB.out hb); (try have HC := Lib.hid (HC.out.keep hb)); (try have HA := Lib.hid (HA.out.keep hb)); (try have HD := Lib.hid (HD.out.keep hb)); (try have HE := Lib.hid (HE.out.keep hb)); (try have HF := Lib.hid (HF.out.keep hb))); have HD := Lib.hid (list_of_own' ho (by have := HL2.out; omega)); clear ho hb; go_wp2_with fail))
    (refine (K3.out _ HC.out).mono ?_; rintro e w1 ⟨v1, rfl, ho, hb⟩; (have HB := Lib.hid (below_then HB.out hb); (try have HC := Lib.hid (HC.out.keep hb)); (try have HA := Lib.hid (HA.out.keep hb)); (try have HD := Lib.hid (HD.out.keep hb)); (try have HE := Lib.hid (HE.out.keep hb)); (try have HF := Lib.hid (HF.out.keep hb))); have HE := Lib.hid (list_of_own' ho (by have := HL3.out; omega)); clear ho hb; go_wp2_with fail)
    (refine (K4.out _ _ HE.out).mono ?_; rintro e w1 ⟨v1, rfl, ho, hb⟩; (have HB := Lib.hid (below_then HB.out hb); (try have HC := Lib.hid (HC.out.keep hb)); (try have HA := Lib.hid (HA.out.keep hb)); (try have HD := Lib.hid (HD.out.keep hb)); (try have HE := Lib.hid (HE.out.keep hb)); (try have HF := Lib.hid (HF.out.keep hb))); have HF := Lib.hid (list_of_own' ho (by omega)); clear ho hb; go_wp2_with fail)
    (refine (S0.out _ _ _ _ HF.out HC.out).mono ?_; rintro e w1 ⟨rfl, hb⟩; (have HB := Lib.hid (below_then HB.out hb); (try have HC := Lib.hid (HC.out.keep hb)); (try have HA := Lib.hid (HA.out.keep hb)); (try have HD := Lib.hid (HD.out.keep hb)); (try have HE := Lib.hid (HE.out.keep hb)); (try have HF := Lib.hid (HF.out.keep hb))); clear hb; go_wp2_with fail)
    (go_returns; exact ⟨rfl, HB.out⟩)
  · have hs := (mk_iff.1 (askM_0.1 c1).2).2
    have hj := (askM_0.1 c1).1.2
    have h2 := ask_ins c1 c2 hj
    have h3 : j ∈ insL l j := mem_insL.2 (.inl rfl)
    have h4 : clearE n (insL l j) j = 0 ∧ clearV n (insL l j) j = l := by
      rcases mark_cases n (insL l j) j with ⟨d1, _⟩ | ⟨_, _, _, _, d3, d4⟩ | ⟨_, d2, _⟩
      · exact absurd h2 d1
      · exact ⟨d3, by rw [d4, del_ins hs c2]⟩
      · exact absurd h3 d2
    rw [c3, c4] at K1
    rw [c4] at HL1
    have K3 := Lib.hid (fun W v (h : LS W v (insL l j)) => by have := s_Clear h n j; rw [h4.1, h4.2] at this; exact this)
    by_cases hf : markE n l k = 0
    · rcases mark_cases n l k with ⟨d1, d2, _⟩ | ⟨_, _, d3, _⟩ | ⟨d1, d2, d3, d4, _⟩
      · exact absurd (d2.symm.trans hf) d1
      · rw [d3] at hf; cases hf
      · rw [d3, d4] at K2
        rw [d4] at HL2
        by_cases hjk : j = k
        · have g1 : (j == k) = true := by simpa using hjk
          clear c1 c2 c3 c4 c5 c6 hs hj h2 h3 h4 d1 d2 d3 d4 hf hjk
          generalize insL l j = A at *
          generalize insL l k = A2 at *
          (go_enter Try.func10, Try.ntmps10; go_wp2_with fail; (refine (HAl.out _).mono ?_; rintro e w1 ⟨rfl, hb⟩; (have HB := Lib.hid (below_then HB.out hb); (try have HC := Lib.hid (HC.out.keep hb)); (try have HA := Lib.hid (HA.out.keep hb)); (try have HD := Lib.hid (HD.out.keep hb)); (try have HE := Lib.hid (HE.out.keep hb)); (try have HF := Lib.hid (HF.out.keep hb))); clear hb; go_wp2_with fail); (refine (K1.out _ HC.out).mono ?_; rintro e w1 ⟨v1, rfl, ho, hb⟩; (have HB := Lib.hid (below_then HB.out hb); (try have HC := Lib.hid (HC.out.keep hb)); (try have HA := Lib.hid (HA.out.keep hb)); (try have HD := Lib.hid (HD.out.keep hb)); (try have HE := Lib.hid (HE.out.keep hb)); (try have HF := Lib.hid (HF.out.keep hb))); have HA := Lib.hid (list_of_own' ho (by have := HL1.out; omega)); clear ho hb; go_wp2_with fail); (refine (K2.out _ HC.out).mono ?_; rintro e w1 ⟨v1, rfl, ho, hb⟩; (have HB := Lib.hid (below_then HB.out hb); (try have HC := Lib.hid (HC.out.keep hb)); (try have HA := Lib.hid (HA.out.keep hb)); (try have HD := Lib.hid (HD.out.keep hb)); (try have HE := Lib.hid (HE.out.keep hb)); (try have HF := Lib.hid (HF.out.keep hb))); have HD := Lib.hid (list_of_own' ho (by have := HL2.out; omega)); clear ho hb; go_wp2_with fail))
          (refine (K3.out _ _ HA.out).mono ?_; rintro e w1 ⟨v1, rfl, ho, hb⟩; (have HB := Lib.hid (below_then HB.out hb); (try have HC := Lib.hid (HC.out.keep hb)); (try have HA := Lib.hid (HA.out.keep hb)); (try have HD := Lib.hid (HD.out.keep hb)); (try have HE := Lib.hid (HE.out.keep hb)); (try have HF := Lib.hid (HF.out.keep hb))); have HE := Lib.hid (list_of_own' ho (by omega)); clear ho hb; go_wp2_with fail)
          (refine (S0.out _ _ _ _ HE.out HC.out).mono ?_; rintro e w1 ⟨rfl, hb⟩; (have HB := Lib.hid (below_then HB.out hb); (try have HC := Lib.hid (HC.out.keep hb)); (try have HA := Lib.hid (HA.out.keep hb)); (try have HD := Lib.hid (HD.out.keep hb)); (try have HE := Lib.hid (HE.out.keep hb)); (try have HF := Lib.hid (HF.out.keep hb))); clear hb; go_wp2_with fail)
          (go_returns; exact ⟨rfl, HB.out⟩)
        · have g1 : (j == k) = false := by simpa using hjk
          have hk := (askM_0.1 d1).1.2
          have e1 := ins_ins hs c2 d2 hjk
          have n1 : k ∉ insL l j := fun e => by rcases mem_insL.1 e with e | e; exact hjk e.symm; exact d2 e
          have n2 : j ∉ insL l k := fun e => by rcases mem_insL.1 e with e | e; exact hjk e; exact c2 e
          have a1 := ask_ins c1 c2 hk
          have a2 := ask_ins d1 d2 hj
          have K4 := Lib.hid (fun W v (h : LS W v (insL l j)) => (show Calls _ _ _ _ (RLE W (insL (insL l j) k) 0) by
            have := s_Mark h n k
            rcases mark_cases n (insL l j) k with ⟨x1, _⟩ | ⟨_, x2, _⟩ | ⟨_, _, x3, x4, _⟩
            · exact absurd a1 x1
            · exact absurd x2 n1
            · rw [x3, x4] at this; exact this))
          have K5 := Lib.hid (fun W v (h : LS W v (insL l k)) => (show Calls _ _ _ _ (RLE W (insL (insL l j) k) 0) by
            have := s_Mark h n j
            rcases mark_cases n (insL l k) j with ⟨x1, _⟩ | ⟨_, x2, _⟩ | ⟨_, _, x3, x4, _⟩
            · exact absurd a2 x1
            · exact absurd x2 n2
            · rw [x3, x4, ← e1] at this; exact this))
          have l0 : (insL (insL l j) k).length = l.length + 2 := by rw [insL_len, insL_len]
          have HL3 := Lib.hid l0
          have l1 : ((insL (insL l j) k).length : Int) = (l.length : Int) + 2 := by omega
          have g2 : (((insL (insL l j) k).length : Int) == (l.length : Int) + 2) = true := by simp [l1]
          clear l0 l1 c1 c2 c3 c4 c5 c6 hs hj h2 h3 h4 d1 d2 d3 d4 hf hjk hk e1 n1 n2 a1 a2
          generalize insL (insL l j) k = R at *
          generalize insL l j = A at *
          generalize insL l k = A2 at *
          (go_enter Try.func10, Try.ntmps10; go_wp2_with fail; (refine (HAl.out _).mono ?_; rintro e w1 ⟨rfl, hb⟩; (have HB := Lib.hid (below_then HB.out hb); (try have HC := Lib.hid (HC.out.keep hb)); (try have HA := Lib.hid (HA.out.keep hb)); (try have HD := Lib.hid (HD.out.keep hb)); (try have HE := Lib.hid (HE.out.keep hb)); (try have HF := Lib.hid (HF.out.keep hb))); clear hb; go_wp2_with fail); (refine (K1.out _ HC.out).mono ?_; rintro e w1 ⟨v1, rfl, ho, hb⟩; (have HB := Lib.hid (below_then HB.out hb); (try have HC := Lib.hid (HC.out.keep hb)); (try have HA := Lib.hid (HA.out.keep hb)); (try have HD := Lib.hid (HD.out.keep hb)); (try have HE := Lib.hid (HE.out.keep hb)); (try have HF := Lib.hid (HF.out.keep hb))); have HA := Lib.hid (list_of_own' ho (by have := HL1.out; omega)); clear ho hb; go_wp2_with fail); (refine (K2.out _ HC.out).mono ?_; rintro e w1 ⟨v1, rfl, ho, hb⟩; (have HB := Lib.hid (below_then HB.out hb); (try have HC := Lib.hid (HC.out.keep hb)); (try have HA := Lib.hid (HA.out.keep hb)); (try have HD := Lib.hid (HD.out.keep hb)); (try have HE := Lib.hid (HE.out.keep hb)); (try have HF := Lib.hid (HF.out.keep hb))); have HD := Lib.hid (list_of_own' ho (by have := HL2.out; omega)); clear ho hb; go_wp2_with fail))
          (refine (K3.out _ _ HA.out).mono ?_; rintro e w1 ⟨v1, rfl, ho, hb⟩; (have HB := Lib.hid (below_then HB.out hb); (try have HC := Lib.hid (HC.out.keep hb)); (try have HA := Lib.hid (HA.out.keep hb)); (try have HD := Lib.hid (HD.out.keep hb)); (try have HE := Lib.hid (HE.out.keep hb)); (try have HF := Lib.hid (HF.out.keep hb))); have HE := Lib.hid (list_of_own' ho (by omega)); clear ho hb; go_wp2_with fail)
          (refine (S0.out _ _ _ _ HE.out HC.out).mono ?_; rintro e w1 ⟨rfl, hb⟩; (have HB := Lib.hid (below_then HB.out hb); (try have HC := Lib.hid (HC.out.keep hb)); (try have HA := Lib.hid (HA.out.keep hb)); (try have HD := Lib.hid (HD.out.keep hb)); (try have HE := Lib.hid (HE.out.keep hb)); (try have HF := Lib.hid (HF.out.keep hb))); clear hb; go_wp2_with fail)
          refine (K4.out _ _ HA.out).mono ?_
          rintro e w1 ⟨v1, rfl, ho, hb⟩
          (have HB := Lib.hid (below_then HB.out hb); (try have HC := Lib.hid (HC.out.keep hb)); (try have HA := Lib.hid (HA.out.keep hb)); (try have HD := Lib.hid (HD.out.keep hb)); (try have HE := Lib.hid (HE.out.keep hb)); (try have HF := Lib.hid (HF.out.keep hb)))
          have HE := Lib.hid (list_of_own' ho (by have := HL3.out; omega))
          clear ho hb
          obtain ⟨rb, rc, rfl, _⟩ := HE.out.ex
          go_wp2_with fail
          (refine (K5.out _ _ HD.out).mono ?_; rintro e w1 ⟨v1, rfl, ho, hb⟩; (have HB := Lib.hid (below_then HB.out hb); (try have HC := Lib.hid (HC.out.keep hb)); (try have HA := Lib.hid (HA.out.keep hb)); (try have HD := Lib.hid (HD.out.keep hb)); (try have HE := Lib.hid (HE.out.keep hb)); (try have HF := Lib.hid (HF.out.keep hb))); have HF := Lib.hid (list_of_own' ho (by have := HL3.out; omega)); clear ho hb; go_wp2_with fail)
          (refine (S0.out _ _ _ _ HE.out HF.out).mono ?_; rintro e w1 ⟨rfl, hb⟩; (have HB := Lib.hid (below_then HB.out hb); (try have HC := Lib.hid (HC.out.keep hb)); (try have HA := Lib.hid (HA.out.keep hb)); (try have HD := Lib.hid (HD.out.keep hb)); (try have HE := Lib.hid (HE.out.keep hb)); (try have HF := Lib.hid (HF.out.keep hb))); clear hb; go_wp2_with fail)
          (go_returns; exact ⟨rfl, HB.out⟩)
    · have g1 : (markE n l k == 0) = false := by simpa using hf
      have g2 : (markE n l k != 0) = true := by simpa using hf
      clear c1 c2 c3 c4 c5 c6 hs hj h2 h3 h4 hf
      generalize insL l j = A at *
      generalize markV n l k = V2 at *
      generalize markE n l k = E2 at *
      (go_enter Try.func10, Try.ntmps10; go_wp2_with fail; (refine (HAl.out _).mono ?_; rintro e w1 ⟨rfl, hb⟩; (have HB := Lib.hid (below_then HB.out hb); (try have HC := Lib.hid (HC.out.keep hb)); (try have HA := Lib.hid (HA.out.keep hb)); (try have HD := Lib.hid (HD.out.keep hb)); (try have HE := Lib.hid (HE.out.keep hb)); (try have HF := Lib.hid (HF.out.keep hb))); clear hb; go_wp2_with fail); (refine (K1.out _ HC.out).mono ?_; rintro e w1 ⟨v1, rfl, ho, hb⟩; (have HB := Lib.hid (below_then HB.out hb); (try have HC := Lib.hid (HC.out.keep hb)); (try have HA := Lib.hid (HA.out.keep hb)); (try have HD := Lib.hid (HD.out.keep hb)); (try have HE := Lib.hid (HE.out.keep hb)); (try have HF := Lib.hid (HF.out.keep hb))); have HA := Lib.hid (list_of_own' ho (by have := HL1.out; omega)); clear ho hb; go_wp2_with fail); (refine (K2.out _ HC.out).mono ?_; rintro e w1 ⟨v1, rfl, ho, hb⟩; (have HB := Lib.hid (below_then HB.out hb); (try have HC := Lib.hid (HC.out.keep hb)); (try have HA := Lib.hid (HA.out.keep hb)); (try have HD := Lib.hid (HD.out.keep hb)); (try have HE := Lib.hid (HE.out.keep hb)); (try have HF := Lib.hid (HF.out.keep hb))); have HD := Lib.hid (list_of_own' ho (by have := HL2.out; omega)); clear ho hb; go_wp2_with fail))
      (refine (K3.out _ _ HA.out).mono ?_; rintro e w1 ⟨v1, rfl, ho, hb⟩; (have HB := Lib.hid (below_then HB.out hb); (try have HC := Lib.hid (HC.out.keep hb)); (try have HA := Lib.hid (HA.out.keep hb)); (try have HD := Lib.hid (HD.out.keep hb)); (try have HE := Lib.hid (HE.out.keep hb)); (try have HF := Lib.hid (HF.out.keep hb))); have HE := Lib.hid (list_of_own' ho (by omega)); clear ho hb; go_wp2_with fail)
      (refine (S0.out _ _ _ _ HE.out HC.out).mono ?_; rintro e w1 ⟨rfl, hb⟩; (have HB := Lib.hid (below_then HB.out hb); (try have HC := Lib.hid (HC.out.keep hb)); (try have HA := Lib.hid (HA.out.keep hb)); (try have HD := Lib.hid (HD.out.keep hb)); (try have HE := Lib.hid (HE.out.keep hb)); (try have HF := Lib.hid (HF.out.keep hb))); clear hb; go_wp2_with fail)
      (go_returns; exact ⟨rfl, HB.out⟩)

set_option maxRecDepth 100000 in set_option maxHeartbeats 4000000 in
theorem law17_FaultUndoes (ba : Option Addr) (ca : Nat) (n : Int) (l : List Int) (j k : Int) (w : World) (hr : Rd w ba (ic l)) (hml : l.length ≤ maxLen) (hna : ba = none → l.length = 0) :
    Calls Try.prog 10 #[.int .i64 n, .slice ba l.length ca, .int .i64 j, .int .i64 k] w (RB w (.bool true)) := by
  by_cases hl : l.length ≤ 20000
  · exact core_FaultUndoes ba ca n l j k w ⟨ba, ca, rfl, ⟨hr, by omega⟩, hna⟩ hl
  · have HAl := Lib.hid (fun W => law17_alive W)
    have hd0 : 20000 < l.length := by omega
    have hm2 : l.length ≤ 9223372036854775807 := by unfold maxLen at hml; omega
    clear hr hna hl hml
    go_enter Try.func10, Try.ntmps10
    go_wp2_with fail
    refine (HAl.out _).mono ?_
    rintro e w1 ⟨rfl, hb⟩
    go_wp2_with fail
    go_returns
    exact ⟨rfl, hb⟩

set_option maxRecDepth 100000 in set_option maxHeartbeats 4000000 in
theorem lift_faultUndoes (os : Os) (started : os.Started) (H : Type) (enc : TypeId × Value → H) :
    ReturnsInHanded {} Try.checked os 10 .any (Rows.faultUndoesSpec.pre6 enc Try.prog Try.f10 Rows.faultUndoesRow.domain false) (Rows.faultUndoesSpec.post enc Try.prog Try.f10 false true false false) := by
  refine returnsInHanded_of_change (C := Try.checked) ownKnob0 started (by kernel_rfl) Try.func10
    (ChangeSpec.witness6 (enc := enc) (C := Try.checked) false ⟨#[], #[.int .i64 0, .slice none 0 0, .int .i64 0, .int .i64 0], []⟩ 8 (by kernel_rfl) (by kernel_rfl) (by kernel_rfl) (by kernel_rfl)) ?_
  intro W base args ds gs before hval0 hW hcnd _
  have hval : ∀ (j : Nat) t v, Try.f10.params[j]? = some t → args[j]? = some v → Value.okWide Try.prog W .any base t v := hval0
  have hW' := hW
  obtain ⟨p, q, hA0, hV, rfl, hfz, hnd⟩ := hW
  have hA : DataW.TrodAll enc Try.prog W 0 (fun _ => true) true Try.f10.params.toList args.toList ds p := hA0
  rw [Try.params10] at hA hval
  have hK := hA
  obtain ⟨v0, vs0, d0, ds0, p0, q0, hargs, rfl, rfl, h0, r0⟩ := trodAll_cons hA
  obtain ⟨v1, vs1, d1, ds1, p1, q1, rfl, rfl, rfl, h1, r1⟩ := trodAll_cons r0
  obtain ⟨v2, vs2, d2, ds2, p2, q2, rfl, rfl, rfl, h2, r2⟩ := trodAll_cons r1
  obtain ⟨v3, vs3, d3, ds3, p3, q3, rfl, rfl, rfl, h3, r3⟩ := trodAll_cons r2
  obtain ⟨rfl, rfl, rfl⟩ := trodAll_nil r3
  obtain rfl : args = #[v0, v1, v2, v3] := by cases args; simp_all
  obtain ⟨n, rfl⟩ := okWide_int Try.underlying3 (hval 0 _ v0 rfl rfl)
  obtain ⟨ba, l, ca, rfl, hl, hml, _, hna⟩ := open_row Try.underlying32 Try.underlying3 (by kernel_rfl) (hval 1 _ v1 rfl rfl) h1
  obtain ⟨j, rfl⟩ := okWide_int Try.underlying3 (hval 2 _ v2 rfl rfl)
  obtain ⟨k, rfl⟩ := okWide_int Try.underlying3 (hval 3 _ v3 rfl rfl)
  obtain ⟨rfl, rfl⟩ := trodVars_none hV
  clear hA0 hval0
  simp only [List.append_nil] at hW' hK
  refine (law17_FaultUndoes ba ca n l j k W hl hml (fun h => (hna h).1)).mono fun e W' ⟨he, bel⟩ => ?_
  subst he
  refine ⟨_, rfl, _, _, _, [], _, [], hW', trodAll_mk1 (shut_bool Try.underlying4 _), trodAll_below bel _ _ _ _ ?_ hK, rfl, bel.frame _, fun h => by cases h⟩
  intro t ht
  simp at ht <;> (rcases ht with rfl | rfl | rfl | rfl <;> exact ⟨by kernel_rfl, of_decide_eq_true (by kernel_rfl)⟩)

theorem holds_faultUndoes : Rows.faultUndoesRow.holds Try.pinned (OpenSpec.ofChange Rows.faultUndoesSpec) :=
  OpenClaim.holds_of_wide 10 Try.f10 rfl rfl rfl rfl rfl rfl rfl ⟨rfl, rfl, rfl, rfl, rfl⟩ rfl rfl rfl rfl rfl (by kernel_rfl) Try.func10 (by kernel_rfl)
    (of_decide_eq_true (by kernel_rfl)) (by unfold Func.isWrapper; first | (rw [if_pos (by decide +kernel)]; kernel_rfl) | (rw [if_neg (by decide +kernel)]; exact ⟨rfl, rfl⟩))
    (fun os started H enc _ => lift_faultUndoes os started H enc)

theorem FaultUndoes_holds : Rows.FaultUndoesSaid := holds_faultUndoes
end Go.Proofs.Ytpooieghlceefaa
