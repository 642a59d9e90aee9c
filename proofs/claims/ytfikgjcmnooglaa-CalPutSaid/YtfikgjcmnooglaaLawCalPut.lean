/- CalPut: what is put is its owner's, and no other moment turns; a slot may be put just where its span is free; taken again, the calendar is as it was: the call returns true. -/
import Derived.Test.YtfikgjcmnooglaaCalAlive
import Derived.Test.YtfikgjcmnooglaaPutLaw
import Derived.Test.YtfikgjcmnooglaaRowCal
namespace Go.Proofs.Ytfikgjcmnooglaa
open Go.ChangeShapes Go.WideShapes Go.ChangeAt Go.RowKit Go.Shelf

theorem put_at_cases {c : List Sl} {s : Sl} (h : putE c s = 0) (a : Int) :
    (atE c a = 2 ∧ atE (putL c s) a = 2) ∨
    ((s.f ≤ a ∧ a < s.t) ∧ atE c a = 6 ∧ atE (putL c s) a = 0 ∧ atO (putL c s) a = s.o) ∨
    (atE c a ≠ 2 ∧ (a < s.f ∨ (s.f ≤ a ∧ s.t ≤ a)) ∧ atE (putL c s) a = atE c a ∧ atO (putL c s) a = atO c a) := by
  have h0 := (putE_0 h).1
  have h1 := putL_ok h
  unfold atO
  unfold atE
  rw [if_pos h0, if_pos h1]
  by_cases hr : 0 ≤ a ∧ a < 1099511627776
  · right
    rw [if_pos hr, if_pos hr]
    by_cases hs : s.f ≤ a ∧ a < s.t
    · left
      obtain ⟨e1, e2⟩ := put_At_in h hs
      rw [e1, e2]
      exact ⟨hs, rfl, rfl, rfl⟩
    · right
      rw [put_At_out h hs]
      refine ⟨?_, by omega, rfl, rfl⟩
      split <;> decide
  · rw [if_neg hr, if_neg hr]
    exact .inl ⟨rfl, rfl⟩
theorem taken_len {c : List Sl} {ow : Int} (h0 : calE c = 0) (hl : (cutL ow 0 c).length = c.length) : cutL ow 0 c = c := by
  have hm := (chain0_iff.1 (calE_ok h0).1).1
  rw [← lessL_eq ow hm] at hl ⊢
  unfold lessL at hl ⊢
  rw [List.length_filter_eq_length_iff] at hl
  exact List.filter_eq_self.2 hl

set_option maxRecDepth 100000 in set_option maxHeartbeats 4000000 in
theorem CalPut_bad (ba : Option Addr) (ca : Nat) (c : List Sl) (s : Sl) (a : Int) (w : World) (hc : CS w (.slice ba c.length ca) c) (hl : c.length ≤ 5000) (he : putE c s ≠ 0) :
    Calls Try.prog 9 #[.slice ba c.length ca, .agg #[.int .i64 s.f, .int .i64 s.t, .int .i64 s.o], .int .i64 a] w (RB w (.bool true)) := by
  have HAl := Lib.hid (fun W => law08_alive W)
  have HC := Lib.hid hc
  have K1 := Lib.hid (fun W (h : CS W (.slice ba c.length ca) c) => by have := s_Put h s; rw [show putV c s = [] from if_neg he] at this; exact this)
  have K2 := Lib.hid (fun W (h : CS W (.slice ba c.length ca) c) => s_Free h s.f s.t)
  have hd0 : decide (5000 < c.length) = false := decide_eq_false (by omega)
  have g1 : (putE c s == 0) = false := by simpa using he
  have g3 : (putE c s != 0) = true := by simpa using he
  by_cases h8 : putE c s = 80
  · have hf : freeE c s.f s.t = 0 ∧ freeV c s.f s.t = false := by
      unfold putE at h8
      by_cases h0 : calE c = 0
      · rw [if_pos h0] at h8
        by_cases hm : s.may
        · rw [if_pos hm] at h8
          have e : freeE c s.f s.t = 0 := by unfold freeE; rw [if_pos h0, okIf_yes hm.1]
          refine ⟨e, ?_⟩
          rw [freeV, if_pos e]
          cases hq : freeB c s.f s.t
          · rfl
          · rw [hq, if_pos rfl] at h8
            split at h8 <;> cases h8
        · rw [if_neg hm] at h8; cases h8
      · rw [if_neg h0] at h8
        unfold calE at h8
        split at h8 <;> cases h8
    rw [h8] at K1
    rw [hf.1, hf.2] at K2
    clear hc he g1 g3 h8 hf
    (go_enter Try.func9, Try.ntmps9; go_wp2_with fail; refine (HAl.out _).mono ?_; rintro e w1 ⟨rfl, hb⟩; have HS := Lib.hid ((SlAt.new w 57 s).keep hb); have HB := Lib.hid (below_then (show Below w.heap.size w (w.alloc (.cells #[.int .i64 s.f, .int .i64 s.t, .int .i64 s.o] 57)) by (repeat (first | (with_reducible exact Below.refl _ _) | (with_reducible assumption) | (with_reducible refine below_alloc ?_ _) | (with_reducible refine below_drewN ?_ _) | (with_reducible refine Below.drew ?_) | (with_reducible refine below_then ?_ (by with_reducible assumption)) | (with_reducible refine Below.setCell ?_ (by go_size) _)))) hb); have HC := Lib.hid (HC.out.keep HB.out); clear hb; (obtain ⟨s0, s1, s2, sl⟩ := HS.out; go_wp2_with fail; clear s0 s1 s2 sl))
    refine (K1.out _ HC.out).mono ?_
    rintro e w1 ⟨v1, rfl, ho, hb⟩
    (have HB := Lib.hid (below_then HB.out hb); (try have HC := Lib.hid (HC.out.keep hb)); (try have HS := Lib.hid (HS.out.keep hb)); (try have HA := Lib.hid (HA.out.keep hb)); (try have HD := Lib.hid (HD.out.keep hb)); (try have HE := Lib.hid (HE.out.keep hb)))
    have HA := Lib.hid (cal_of_own ho (by decide))
    clear ho hb
    obtain ⟨ab, ac, rfl, _⟩ := HA.out.ex
    (obtain ⟨s0, s1, s2, sl⟩ := HS.out; go_wp2_with fail; clear s0 s1 s2 sl)
    (refine (K2.out _ HC.out).mono ?_; rintro e w1 ⟨rfl, hb⟩; (have HB := Lib.hid (below_then HB.out hb); (try have HC := Lib.hid (HC.out.keep hb)); (try have HS := Lib.hid (HS.out.keep hb)); (try have HA := Lib.hid (HA.out.keep hb)); (try have HD := Lib.hid (HD.out.keep hb)); (try have HE := Lib.hid (HE.out.keep hb))); clear hb; (obtain ⟨s0, s1, s2, sl⟩ := HS.out; go_wp2_with fail; clear s0 s1 s2 sl))
    (go_returns; exact ⟨rfl, HB.out⟩)
  · have g2 : (putE c s == 80) = false := by simpa using h8
    have g4 : (putE c s != 80) = true := by simpa using h8
    clear hc he h8
    generalize putE c s = E at *
    generalize freeE c s.f s.t = fe at *
    generalize freeV c s.f s.t = fv at *
    (go_enter Try.func9, Try.ntmps9; go_wp2_with fail; refine (HAl.out _).mono ?_; rintro e w1 ⟨rfl, hb⟩; have HS := Lib.hid ((SlAt.new w 57 s).keep hb); have HB := Lib.hid (below_then (show Below w.heap.size w (w.alloc (.cells #[.int .i64 s.f, .int .i64 s.t, .int .i64 s.o] 57)) by (repeat (first | (with_reducible exact Below.refl _ _) | (with_reducible assumption) | (with_reducible refine below_alloc ?_ _) | (with_reducible refine below_drewN ?_ _) | (with_reducible refine Below.drew ?_) | (with_reducible refine below_then ?_ (by with_reducible assumption)) | (with_reducible refine Below.setCell ?_ (by go_size) _)))) hb); have HC := Lib.hid (HC.out.keep HB.out); clear hb; (obtain ⟨s0, s1, s2, sl⟩ := HS.out; go_wp2_with fail; clear s0 s1 s2 sl))
    refine (K1.out _ HC.out).mono ?_
    rintro e w1 ⟨v1, rfl, ho, hb⟩
    (have HB := Lib.hid (below_then HB.out hb); (try have HC := Lib.hid (HC.out.keep hb)); (try have HS := Lib.hid (HS.out.keep hb)); (try have HA := Lib.hid (HA.out.keep hb)); (try have HD := Lib.hid (HD.out.keep hb)); (try have HE := Lib.hid (HE.out.keep hb)))
    have HA := Lib.hid (cal_of_own ho (by decide))
    clear ho hb
    obtain ⟨ab, ac, rfl, _⟩ := HA.out.ex
    (obtain ⟨s0, s1, s2, sl⟩ := HS.out; go_wp2_with fail; clear s0 s1 s2 sl)
    (refine (K2.out _ HC.out).mono ?_; rintro e w1 ⟨rfl, hb⟩; (have HB := Lib.hid (below_then HB.out hb); (try have HC := Lib.hid (HC.out.keep hb)); (try have HS := Lib.hid (HS.out.keep hb)); (try have HA := Lib.hid (HA.out.keep hb)); (try have HD := Lib.hid (HD.out.keep hb)); (try have HE := Lib.hid (HE.out.keep hb))); clear hb; (obtain ⟨s0, s1, s2, sl⟩ := HS.out; go_wp2_with fail; clear s0 s1 s2 sl))
    (go_returns; exact ⟨rfl, HB.out⟩)

set_option maxRecDepth 100000 in set_option maxHeartbeats 4000000 in
theorem CalPut_ok (ba : Option Addr) (ca : Nat) (c : List Sl) (s : Sl) (a : Int) (w : World) (hc : CS w (.slice ba c.length ca) c) (he : putE c s = 0) :
    Calls Try.prog 9 #[.slice ba c.length ca, .agg #[.int .i64 s.f, .int .i64 s.t, .int .i64 s.o], .int .i64 a] w (RB w (.bool true)) := by
  have HAl := Lib.hid (fun W => law08_alive W)
  have HC := Lib.hid hc
  obtain ⟨h0, hm, hf, hl⟩ := putE_0 he
  have h1 := putL_ok he
  have K1 := Lib.hid (fun W (h : CS W (.slice ba c.length ca) c) => by have := s_Put h s; rw [show putV c s = putL c s from if_pos he, he] at this; exact this)
  have hfe : freeE c s.f s.t = 0 := by unfold freeE; rw [if_pos h0, okIf_yes hm.1]
  have K2 := Lib.hid (fun W (h : CS W (.slice ba c.length ca) c) => by have := s_Free h s.f s.t; rw [show freeV c s.f s.t = true by rw [freeV, if_pos hfe, hf], hfe] at this; exact this)
  have K3 := Lib.hid (fun W v (h : CS W v (putL c s)) => by have := s_Check h; rw [h1] at this; exact this)
  have K4 := Lib.hid (fun W (h : CS W (.slice ba c.length ca) c) => s_At h a)
  have K5 := Lib.hid (fun W v (h : CS W v (putL c s)) => s_At h a)
  have K6 := Lib.hid (fun W v (h : CS W v (putL c s)) => by have := s_Take h s.o; rw [show cutV s.o 0 (putL c s) = cutL s.o 0 c by rw [cutV, if_pos h1, cut_put he], h1] at this; exact this)
  have K7 := Lib.hid (fun W (h : CS W (.slice ba c.length ca) c) => by have := s_Take h s.o; rw [show cutV s.o 0 c = cutL s.o 0 c from if_pos h0, h0] at this; exact this)
  have hl1 := putL_len c s
  have l3 := cutL_len s.o 0 c
  have htl := taken_len (ow := s.o) h0
  have hx := put_at_cases he a
  have S := fun (d : List Sl) W v u (h : CS W v d) (h2 : CS W u d) => Calls.rb_eq (s_Same h h2) (show Value.bool (decide _) = .bool true by rw [decide_eq_true rfl])
  have S1 := Lib.hid (S (cutL s.o 0 c))
  have S2 := Lib.hid (fun (e : (cutL s.o 0 c).length = c.length) W v u (h : CS W v (cutL s.o 0 c)) (h2 : CS W u c) => Calls.rb_eq (s_Same h h2) (show Value.bool (decide _) = .bool true by rw [decide_eq_true (htl e)]))
  have hd0 : decide (5000 < c.length) = false := decide_eq_false (by omega)
  clear hc S he h0 hf h1 hfe htl
  generalize putL c s = A at *
  generalize cutL s.o 0 c = Z at *
  have gl0 : (A.length : Int) = (c.length : Int) + 1 := by omega
  have gl : ((A.length : Int) == (c.length : Int) + 1) = true := by simp [gl0]
  have gl2 : ((A.length : Int) != (c.length : Int) + 1) = false := by simp [gl0]
  have HL1 := Lib.hid hl1
  clear gl0 hl1
  have hmay := hm
  clear hm
  rcases hx with ⟨e1, e2⟩ | ⟨⟨e3, e4⟩, e1, e2, e5⟩ | ⟨e1, e3, e4, e5⟩
  · rw [e1] at K4
    rw [e2] at K5
    clear e1 e2
    generalize atO c a = O at *
    generalize atO A a = O2 at *
    ((go_enter Try.func9, Try.ntmps9; go_wp2_with fail; refine (HAl.out _).mono ?_; rintro e w1 ⟨rfl, hb⟩; have HS := Lib.hid ((SlAt.new w 57 s).keep hb); have HB := Lib.hid (below_then (show Below w.heap.size w (w.alloc (.cells #[.int .i64 s.f, .int .i64 s.t, .int .i64 s.o] 57)) by (repeat (first | (with_reducible exact Below.refl _ _) | (with_reducible assumption) | (with_reducible refine below_alloc ?_ _) | (with_reducible refine below_drewN ?_ _) | (with_reducible refine Below.drew ?_) | (with_reducible refine below_then ?_ (by with_reducible assumption)) | (with_reducible refine Below.setCell ?_ (by go_size) _)))) hb); have HC := Lib.hid (HC.out.keep HB.out); clear hb; (obtain ⟨s0, s1, s2, sl⟩ := HS.out; go_wp2_with fail; clear s0 s1 s2 sl)); refine (K1.out _ HC.out).mono ?_; rintro e w1 ⟨v1, rfl, ho, hb⟩; (have HB := Lib.hid (below_then HB.out hb); (try have HC := Lib.hid (HC.out.keep hb)); (try have HS := Lib.hid (HS.out.keep hb)); (try have HA := Lib.hid (HA.out.keep hb)); (try have HD := Lib.hid (HD.out.keep hb)); (try have HE := Lib.hid (HE.out.keep hb))); have HA := Lib.hid (cal_of_own ho (by have := HL1.out; omega)); clear ho hb; obtain ⟨ab, ac, rfl, _⟩ := HA.out.ex; (obtain ⟨s0, s1, s2, sl⟩ := HS.out; go_wp2_with fail; clear s0 s1 s2 sl); (refine (K2.out _ HC.out).mono ?_; rintro e w1 ⟨rfl, hb⟩; (have HB := Lib.hid (below_then HB.out hb); (try have HC := Lib.hid (HC.out.keep hb)); (try have HS := Lib.hid (HS.out.keep hb)); (try have HA := Lib.hid (HA.out.keep hb)); (try have HD := Lib.hid (HD.out.keep hb)); (try have HE := Lib.hid (HE.out.keep hb))); clear hb; (obtain ⟨s0, s1, s2, sl⟩ := HS.out; go_wp2_with fail; clear s0 s1 s2 sl)); (refine (K3.out _ _ HA.out).mono ?_; rintro e w1 ⟨rfl, hb⟩; (have HB := Lib.hid (below_then HB.out hb); (try have HC := Lib.hid (HC.out.keep hb)); (try have HS := Lib.hid (HS.out.keep hb)); (try have HA := Lib.hid (HA.out.keep hb)); (try have HD := Lib.hid (HD.out.keep hb)); (try have HE := Lib.hid (HE.out.keep hb))); clear hb; (obtain ⟨s0, s1, s2, sl⟩ := HS.out; go_wp2_with fail; clear s0 s1 s2 sl)); (refine (K4.out _ HC.out).mono ?_; rintro e w1 ⟨rfl, hb⟩; (have HB := Lib.hid (below_then HB.out hb); (try have HC := Lib.hid (HC.out.keep hb)); (try have HS := Lib.hid (HS.out.keep hb)); (try have HA := Lib.hid (HA.out.keep hb)); (try have HD := Lib.hid (HD.out.keep hb)); (try have HE := Lib.hid (HE.out.keep hb))); clear hb; (obtain ⟨s0, s1, s2, sl⟩ := HS.out; go_wp2_with fail; clear s0 s1 s2 sl)); (refine (K5.out _ _ HA.out).mono ?_; rintro e w1 ⟨rfl, hb⟩; (have HB := Lib.hid (below_then HB.out hb); (try have HC := Lib.hid (HC.out.keep hb)); (try have HS := Lib.hid (HS.out.keep hb)); (try have HA := Lib.hid (HA.out.keep hb)); (try have HD := Lib.hid (HD.out.keep hb)); (try have HE := Lib.hid (HE.out.keep hb))); clear hb; (obtain ⟨s0, s1, s2, sl⟩ := HS.out; go_wp2_with fail; clear s0 s1 s2 sl)))
    (by_cases hz : Z.length = c.length; (have gz0 : (Z.length : Int) = (c.length : Int) := (by omega); have gz : ((Z.length : Int) != (c.length : Int)) = false := (by simp [gz0]); have gz2 : ((Z.length : Int) == (c.length : Int)) = true := (by simp [gz0]); clear gz0; have S2 := Lib.hid (S2.out hz); clear hz; (refine (K6.out _ _ HA.out).mono ?_; rintro e w1 ⟨v1, rfl, ho, hb⟩; (have HB := Lib.hid (below_then HB.out hb); (try have HC := Lib.hid (HC.out.keep hb)); (try have HS := Lib.hid (HS.out.keep hb)); (try have HA := Lib.hid (HA.out.keep hb)); (try have HD := Lib.hid (HD.out.keep hb)); (try have HE := Lib.hid (HE.out.keep hb))); have HD := Lib.hid (cal_of_own ho (by omega)); clear ho hb; (obtain ⟨s0, s1, s2, sl⟩ := HS.out; go_wp2_with fail; clear s0 s1 s2 sl); refine (K7.out _ HC.out).mono ?_; rintro e w1 ⟨v1, rfl, ho, hb⟩; (have HB := Lib.hid (below_then HB.out hb); (try have HC := Lib.hid (HC.out.keep hb)); (try have HS := Lib.hid (HS.out.keep hb)); (try have HA := Lib.hid (HA.out.keep hb)); (try have HD := Lib.hid (HD.out.keep hb)); (try have HE := Lib.hid (HE.out.keep hb))); have HE := Lib.hid (cal_of_own ho (by omega)); clear ho hb; obtain ⟨zb, zc, rfl, _⟩ := HE.out.ex; (obtain ⟨s0, s1, s2, sl⟩ := HS.out; go_wp2_with fail; clear s0 s1 s2 sl); (refine (S1.out _ _ _ HD.out HE.out).mono ?_; rintro e w1 ⟨rfl, hb⟩; (have HB := Lib.hid (below_then HB.out hb); (try have HC := Lib.hid (HC.out.keep hb)); (try have HS := Lib.hid (HS.out.keep hb)); (try have HA := Lib.hid (HA.out.keep hb)); (try have HD := Lib.hid (HD.out.keep hb)); (try have HE := Lib.hid (HE.out.keep hb))); clear hb; (obtain ⟨s0, s1, s2, sl⟩ := HS.out; go_wp2_with fail; clear s0 s1 s2 sl))); (refine (S2.out _ _ _ HD.out HC.out).mono ?_; rintro e w1 ⟨rfl, hb⟩; (have HB := Lib.hid (below_then HB.out hb); (try have HC := Lib.hid (HC.out.keep hb)); (try have HS := Lib.hid (HS.out.keep hb)); (try have HA := Lib.hid (HA.out.keep hb)); (try have HD := Lib.hid (HD.out.keep hb)); (try have HE := Lib.hid (HE.out.keep hb))); clear hb; (obtain ⟨s0, s1, s2, sl⟩ := HS.out; go_wp2_with fail; clear s0 s1 s2 sl)); (go_returns; exact ⟨rfl, HB.out⟩)); (have gz0 : ¬ (Z.length : Int) = (c.length : Int) := (by omega); have gz : ((Z.length : Int) != (c.length : Int)) = true := (by simp [gz0]); have gz2 : ((Z.length : Int) == (c.length : Int)) = false := (by simp [gz0]); clear gz0; (refine (K6.out _ _ HA.out).mono ?_; rintro e w1 ⟨v1, rfl, ho, hb⟩; (have HB := Lib.hid (below_then HB.out hb); (try have HC := Lib.hid (HC.out.keep hb)); (try have HS := Lib.hid (HS.out.keep hb)); (try have HA := Lib.hid (HA.out.keep hb)); (try have HD := Lib.hid (HD.out.keep hb)); (try have HE := Lib.hid (HE.out.keep hb))); have HD := Lib.hid (cal_of_own ho (by omega)); clear ho hb; (obtain ⟨s0, s1, s2, sl⟩ := HS.out; go_wp2_with fail; clear s0 s1 s2 sl); refine (K7.out _ HC.out).mono ?_; rintro e w1 ⟨v1, rfl, ho, hb⟩; (have HB := Lib.hid (below_then HB.out hb); (try have HC := Lib.hid (HC.out.keep hb)); (try have HS := Lib.hid (HS.out.keep hb)); (try have HA := Lib.hid (HA.out.keep hb)); (try have HD := Lib.hid (HD.out.keep hb)); (try have HE := Lib.hid (HE.out.keep hb))); have HE := Lib.hid (cal_of_own ho (by omega)); clear ho hb; obtain ⟨zb, zc, rfl, _⟩ := HE.out.ex; (obtain ⟨s0, s1, s2, sl⟩ := HS.out; go_wp2_with fail; clear s0 s1 s2 sl); (refine (S1.out _ _ _ HD.out HE.out).mono ?_; rintro e w1 ⟨rfl, hb⟩; (have HB := Lib.hid (below_then HB.out hb); (try have HC := Lib.hid (HC.out.keep hb)); (try have HS := Lib.hid (HS.out.keep hb)); (try have HA := Lib.hid (HA.out.keep hb)); (try have HD := Lib.hid (HD.out.keep hb)); (try have HE := Lib.hid (HE.out.keep hb))); clear hb; (obtain ⟨s0, s1, s2, sl⟩ := HS.out; go_wp2_with fail; clear s0 s1 s2 sl))); (go_returns; exact ⟨rfl, HB.out⟩)))
  · rw [e1] at K4
    rw [e2, e5] at K5
    clear e1 e2 e5
    generalize atO c a = O at *
    have d1 : decide (s.f ≤ a) = true := decide_eq_true e3
    have d2 : decide (a < s.t) = true := decide_eq_true e4
    ((go_enter Try.func9, Try.ntmps9; go_wp2_with fail; refine (HAl.out _).mono ?_; rintro e w1 ⟨rfl, hb⟩; have HS := Lib.hid ((SlAt.new w 57 s).keep hb); have HB := Lib.hid (below_then (show Below w.heap.size w (w.alloc (.cells #[.int .i64 s.f, .int .i64 s.t, .int .i64 s.o] 57)) by (repeat (first | (with_reducible exact Below.refl _ _) | (with_reducible assumption) | (with_reducible refine below_alloc ?_ _) | (with_reducible refine below_drewN ?_ _) | (with_reducible refine Below.drew ?_) | (with_reducible refine below_then ?_ (by with_reducible assumption)) | (with_reducible refine Below.setCell ?_ (by go_size) _)))) hb); have HC := Lib.hid (HC.out.keep HB.out); clear hb; (obtain ⟨s0, s1, s2, sl⟩ := HS.out; go_wp2_with fail; clear s0 s1 s2 sl)); refine (K1.out _ HC.out).mono ?_; rintro e w1 ⟨v1, rfl, ho, hb⟩; (have HB := Lib.hid (below_then HB.out hb); (try have HC := Lib.hid (HC.out.keep hb)); (try have HS := Lib.hid (HS.out.keep hb)); (try have HA := Lib.hid (HA.out.keep hb)); (try have HD := Lib.hid (HD.out.keep hb)); (try have HE := Lib.hid (HE.out.keep hb))); have HA := Lib.hid (cal_of_own ho (by have := HL1.out; omega)); clear ho hb; obtain ⟨ab, ac, rfl, _⟩ := HA.out.ex; (obtain ⟨s0, s1, s2, sl⟩ := HS.out; go_wp2_with fail; clear s0 s1 s2 sl); (refine (K2.out _ HC.out).mono ?_; rintro e w1 ⟨rfl, hb⟩; (have HB := Lib.hid (below_then HB.out hb); (try have HC := Lib.hid (HC.out.keep hb)); (try have HS := Lib.hid (HS.out.keep hb)); (try have HA := Lib.hid (HA.out.keep hb)); (try have HD := Lib.hid (HD.out.keep hb)); (try have HE := Lib.hid (HE.out.keep hb))); clear hb; (obtain ⟨s0, s1, s2, sl⟩ := HS.out; go_wp2_with fail; clear s0 s1 s2 sl)); (refine (K3.out _ _ HA.out).mono ?_; rintro e w1 ⟨rfl, hb⟩; (have HB := Lib.hid (below_then HB.out hb); (try have HC := Lib.hid (HC.out.keep hb)); (try have HS := Lib.hid (HS.out.keep hb)); (try have HA := Lib.hid (HA.out.keep hb)); (try have HD := Lib.hid (HD.out.keep hb)); (try have HE := Lib.hid (HE.out.keep hb))); clear hb; (obtain ⟨s0, s1, s2, sl⟩ := HS.out; go_wp2_with fail; clear s0 s1 s2 sl)); (refine (K4.out _ HC.out).mono ?_; rintro e w1 ⟨rfl, hb⟩; (have HB := Lib.hid (below_then HB.out hb); (try have HC := Lib.hid (HC.out.keep hb)); (try have HS := Lib.hid (HS.out.keep hb)); (try have HA := Lib.hid (HA.out.keep hb)); (try have HD := Lib.hid (HD.out.keep hb)); (try have HE := Lib.hid (HE.out.keep hb))); clear hb; (obtain ⟨s0, s1, s2, sl⟩ := HS.out; go_wp2_with fail; clear s0 s1 s2 sl)); (refine (K5.out _ _ HA.out).mono ?_; rintro e w1 ⟨rfl, hb⟩; (have HB := Lib.hid (below_then HB.out hb); (try have HC := Lib.hid (HC.out.keep hb)); (try have HS := Lib.hid (HS.out.keep hb)); (try have HA := Lib.hid (HA.out.keep hb)); (try have HD := Lib.hid (HD.out.keep hb)); (try have HE := Lib.hid (HE.out.keep hb))); clear hb; (obtain ⟨s0, s1, s2, sl⟩ := HS.out; go_wp2_with fail; clear s0 s1 s2 sl)))
    (by_cases hz : Z.length = c.length; (have gz0 : (Z.length : Int) = (c.length : Int) := (by omega); have gz : ((Z.length : Int) != (c.length : Int)) = false := (by simp [gz0]); have gz2 : ((Z.length : Int) == (c.length : Int)) = true := (by simp [gz0]); clear gz0; have S2 := Lib.hid (S2.out hz); clear hz; (refine (K6.out _ _ HA.out).mono ?_; rintro e w1 ⟨v1, rfl, ho, hb⟩; (have HB := Lib.hid (below_then HB.out hb); (try have HC := Lib.hid (HC.out.keep hb)); (try have HS := Lib.hid (HS.out.keep hb)); (try have HA := Lib.hid (HA.out.keep hb)); (try have HD := Lib.hid (HD.out.keep hb)); (try have HE := Lib.hid (HE.out.keep hb))); have HD := Lib.hid (cal_of_own ho (by omega)); clear ho hb; (obtain ⟨s0, s1, s2, sl⟩ := HS.out; go_wp2_with fail; clear s0 s1 s2 sl); refine (K7.out _ HC.out).mono ?_; rintro e w1 ⟨v1, rfl, ho, hb⟩; (have HB := Lib.hid (below_then HB.out hb); (try have HC := Lib.hid (HC.out.keep hb)); (try have HS := Lib.hid (HS.out.keep hb)); (try have HA := Lib.hid (HA.out.keep hb)); (try have HD := Lib.hid (HD.out.keep hb)); (try have HE := Lib.hid (HE.out.keep hb))); have HE := Lib.hid (cal_of_own ho (by omega)); clear ho hb; obtain ⟨zb, zc, rfl, _⟩ := HE.out.ex; (obtain ⟨s0, s1, s2, sl⟩ := HS.out; go_wp2_with fail; clear s0 s1 s2 sl); (refine (S1.out _ _ _ HD.out HE.out).mono ?_; rintro e w1 ⟨rfl, hb⟩; (have HB := Lib.hid (below_then HB.out hb); (try have HC := Lib.hid (HC.out.keep hb)); (try have HS := Lib.hid (HS.out.keep hb)); (try have HA := Lib.hid (HA.out.keep hb)); (try have HD := Lib.hid (HD.out.keep hb)); (try have HE := Lib.hid (HE.out.keep hb))); clear hb; (obtain ⟨s0, s1, s2, sl⟩ := HS.out; go_wp2_with fail; clear s0 s1 s2 sl))); (refine (S2.out _ _ _ HD.out HC.out).mono ?_; rintro e w1 ⟨rfl, hb⟩; (have HB := Lib.hid (below_then HB.out hb); (try have HC := Lib.hid (HC.out.keep hb)); (try have HS := Lib.hid (HS.out.keep hb)); (try have HA := Lib.hid (HA.out.keep hb)); (try have HD := Lib.hid (HD.out.keep hb)); (try have HE := Lib.hid (HE.out.keep hb))); clear hb; (obtain ⟨s0, s1, s2, sl⟩ := HS.out; go_wp2_with fail; clear s0 s1 s2 sl)); (go_returns; exact ⟨rfl, HB.out⟩)); (have gz0 : ¬ (Z.length : Int) = (c.length : Int) := (by omega); have gz : ((Z.length : Int) != (c.length : Int)) = true := (by simp [gz0]); have gz2 : ((Z.length : Int) == (c.length : Int)) = false := (by simp [gz0]); clear gz0; (refine (K6.out _ _ HA.out).mono ?_; rintro e w1 ⟨v1, rfl, ho, hb⟩; (have HB := Lib.hid (below_then HB.out hb); (try have HC := Lib.hid (HC.out.keep hb)); (try have HS := Lib.hid (HS.out.keep hb)); (try have HA := Lib.hid (HA.out.keep hb)); (try have HD := Lib.hid (HD.out.keep hb)); (try have HE := Lib.hid (HE.out.keep hb))); have HD := Lib.hid (cal_of_own ho (by omega)); clear ho hb; (obtain ⟨s0, s1, s2, sl⟩ := HS.out; go_wp2_with fail; clear s0 s1 s2 sl); refine (K7.out _ HC.out).mono ?_; rintro e w1 ⟨v1, rfl, ho, hb⟩; (have HB := Lib.hid (below_then HB.out hb); (try have HC := Lib.hid (HC.out.keep hb)); (try have HS := Lib.hid (HS.out.keep hb)); (try have HA := Lib.hid (HA.out.keep hb)); (try have HD := Lib.hid (HD.out.keep hb)); (try have HE := Lib.hid (HE.out.keep hb))); have HE := Lib.hid (cal_of_own ho (by omega)); clear ho hb; obtain ⟨zb, zc, rfl, _⟩ := HE.out.ex; (obtain ⟨s0, s1, s2, sl⟩ := HS.out; go_wp2_with fail; clear s0 s1 s2 sl); (refine (S1.out _ _ _ HD.out HE.out).mono ?_; rintro e w1 ⟨rfl, hb⟩; (have HB := Lib.hid (below_then HB.out hb); (try have HC := Lib.hid (HC.out.keep hb)); (try have HS := Lib.hid (HS.out.keep hb)); (try have HA := Lib.hid (HA.out.keep hb)); (try have HD := Lib.hid (HD.out.keep hb)); (try have HE := Lib.hid (HE.out.keep hb))); clear hb; (obtain ⟨s0, s1, s2, sl⟩ := HS.out; go_wp2_with fail; clear s0 s1 s2 sl))); (go_returns; exact ⟨rfl, HB.out⟩)))
  · rw [e4, e5] at K5
    have g1 : (atE c a == 2) = false := by simpa using e1
    clear e1 e4 e5
    generalize atO c a = O at *
    generalize atE c a = E at *
    rcases e3 with e3 | ⟨e3, e4⟩
    · have d1 : decide (s.f ≤ a) = false := decide_eq_false (by omega)
      ((go_enter Try.func9, Try.ntmps9; go_wp2_with fail; refine (HAl.out _).mono ?_; rintro e w1 ⟨rfl, hb⟩; have HS := Lib.hid ((SlAt.new w 57 s).keep hb); have HB := Lib.hid (below_then (show Below w.heap.size w (w.alloc (.cells #[.int .i64 s.f, .int .i64 s.t, .int .i64 s.o] 57)) by (repeat (first | (with_reducible exact Below.refl _ _) | (with_reducible assumption) | (with_reducible refine below_alloc ?_ _) | (with_reducible refine below_drewN ?_ _) | (with_reducible refine Below.drew ?_) | (with_reducible refine below_then ?_ (by with_reducible assumption)) | (with_reducible refine Below.setCell ?_ (by go_size) _)))) hb); have HC := Lib.hid (HC.out.keep HB.out); clear hb; (obtain ⟨s0, s1, s2, sl⟩ := HS.out; go_wp2_with fail; clear s0 s1 s2 sl)); refine (K1.out _ HC.out).mono ?_; rintro e w1 ⟨v1, rfl, ho, hb⟩; (have HB := Lib.hid (below_then HB.out hb); (try have HC := Lib.hid (HC.out.keep hb)); (try have HS := Lib.hid (HS.out.keep hb)); (try have HA := Lib.hid (HA.out.keep hb)); (try have HD := Lib.hid (HD.out.keep hb)); (try have HE := Lib.hid (HE.out.keep hb))); have HA := Lib.hid (cal_of_own ho (by have := HL1.out; omega)); clear ho hb; obtain ⟨ab, ac, rfl, _⟩ := HA.out.ex; (obtain ⟨s0, s1, s2, sl⟩ := HS.out; go_wp2_with fail; clear s0 s1 s2 sl); (refine (K2.out _ HC.out).mono ?_; rintro e w1 ⟨rfl, hb⟩; (have HB := Lib.hid (below_then HB.out hb); (try have HC := Lib.hid (HC.out.keep hb)); (try have HS := Lib.hid (HS.out.keep hb)); (try have HA := Lib.hid (HA.out.keep hb)); (try have HD := Lib.hid (HD.out.keep hb)); (try have HE := Lib.hid (HE.out.keep hb))); clear hb; (obtain ⟨s0, s1, s2, sl⟩ := HS.out; go_wp2_with fail; clear s0 s1 s2 sl)); (refine (K3.out _ _ HA.out).mono ?_; rintro e w1 ⟨rfl, hb⟩; (have HB := Lib.hid (below_then HB.out hb); (try have HC := Lib.hid (HC.out.keep hb)); (try have HS := Lib.hid (HS.out.keep hb)); (try have HA := Lib.hid (HA.out.keep hb)); (try have HD := Lib.hid (HD.out.keep hb)); (try have HE := Lib.hid (HE.out.keep hb))); clear hb; (obtain ⟨s0, s1, s2, sl⟩ := HS.out; go_wp2_with fail; clear s0 s1 s2 sl)); (refine (K4.out _ HC.out).mono ?_; rintro e w1 ⟨rfl, hb⟩; (have HB := Lib.hid (below_then HB.out hb); (try have HC := Lib.hid (HC.out.keep hb)); (try have HS := Lib.hid (HS.out.keep hb)); (try have HA := Lib.hid (HA.out.keep hb)); (try have HD := Lib.hid (HD.out.keep hb)); (try have HE := Lib.hid (HE.out.keep hb))); clear hb; (obtain ⟨s0, s1, s2, sl⟩ := HS.out; go_wp2_with fail; clear s0 s1 s2 sl)); (refine (K5.out _ _ HA.out).mono ?_; rintro e w1 ⟨rfl, hb⟩; (have HB := Lib.hid (below_then HB.out hb); (try have HC := Lib.hid (HC.out.keep hb)); (try have HS := Lib.hid (HS.out.keep hb)); (try have HA := Lib.hid (HA.out.keep hb)); (try have HD := Lib.hid (HD.out.keep hb)); (try have HE := Lib.hid (HE.out.keep hb))); clear hb; (obtain ⟨s0, s1, s2, sl⟩ := HS.out; go_wp2_with fail; clear s0 s1 s2 sl)))
      (by_cases hz : Z.length = c.length; (have gz0 : (Z.length : Int) = (c.length : Int) := (by omega); have gz : ((Z.length : Int) != (c.length : Int)) = false := (by simp [gz0]); have gz2 : ((Z.length : Int) == (c.length : Int)) = true := (by simp [gz0]); clear gz0; have S2 := Lib.hid (S2.out hz); clear hz; (refine (K6.out _ _ HA.out).mono ?_; rintro e w1 ⟨v1, rfl, ho, hb⟩; (have HB := Lib.hid (below_then HB.out hb); (try have HC := Lib.hid (HC.out.keep hb)); (try have HS := Lib.hid (HS.out.keep hb)); (try have HA := Lib.hid (HA.out.keep hb)); (try have HD := Lib.hid (HD.out.keep hb)); (try have HE := Lib.hid (HE.out.keep hb))); have HD := Lib.hid (cal_of_own ho (by omega)); clear ho hb; (obtain ⟨s0, s1, s2, sl⟩ := HS.out; go_wp2_with fail; clear s0 s1 s2 sl); refine (K7.out _ HC.out).mono ?_; rintro e w1 ⟨v1, rfl, ho, hb⟩; (have HB := Lib.hid (below_then HB.out hb); (try have HC := Lib.hid (HC.out.keep hb)); (try have HS := Lib.hid (HS.out.keep hb)); (try have HA := Lib.hid (HA.out.keep hb)); (try have HD := Lib.hid (HD.out.keep hb)); (try have HE := Lib.hid (HE.out.keep hb))); have HE := Lib.hid (cal_of_own ho (by omega)); clear ho hb; obtain ⟨zb, zc, rfl, _⟩ := HE.out.ex; (obtain ⟨s0, s1, s2, sl⟩ := HS.out; go_wp2_with fail; clear s0 s1 s2 sl); (refine (S1.out _ _ _ HD.out HE.out).mono ?_; rintro e w1 ⟨rfl, hb⟩; (have HB := Lib.hid (below_then HB.out hb); (try have HC := Lib.hid (HC.out.keep hb)); (try have HS := Lib.hid (HS.out.keep hb)); (try have HA := Lib.hid (HA.out.keep hb)); (try have HD := Lib.hid (HD.out.keep hb)); (try have HE := Lib.hid (HE.out.keep hb))); clear hb; (obtain ⟨s0, s1, s2, sl⟩ := HS.out; go_wp2_with fail; clear s0 s1 s2 sl))); (refine (S2.out _ _ _ HD.out HC.out).mono ?_; rintro e w1 ⟨rfl, hb⟩; (have HB := Lib.hid (below_then HB.out hb); (try have HC := Lib.hid (HC.out.keep hb)); (try have HS := Lib.hid (HS.out.keep hb)); (try have HA := Lib.hid (HA.out.keep hb)); (try have HD := Lib.hid (HD.out.keep hb)); (try have HE := Lib.hid (HE.out.keep hb))); clear hb; (obtain ⟨s0, s1, s2, sl⟩ := HS.out; go_wp2_with fail; clear s0 s1 s2 sl)); (go_returns; exact ⟨rfl, HB.out⟩)); (have gz0 : ¬ (Z.length : Int) = (c.length : Int) := (by omega); have gz : ((Z.length : Int) != (c.length : Int)) = true := (by simp [gz0]); have gz2 : ((Z.length : Int) == (c.length : Int)) = false := (by simp [gz0]); clear gz0; (refine (K6.out _ _ HA.out).mono ?_; rintro e w1 ⟨v1, rfl, ho, hb⟩; (have HB := Lib.hid (below_then HB.out hb); (try have HC := Lib.hid (HC.out.keep hb)); (try have HS := Lib.hid (HS.out.keep hb)); (try have HA := Lib.hid (HA.out.keep hb)); (try have HD := Lib.hid (HD.out.keep hb)); (try have HE := Lib.hid (HE.out.keep hb))); have HD := Lib.hid (cal_of_own ho (by omega)); clear ho hb; (obtain ⟨s0, s1, s2, sl⟩ := HS.out; go_wp2_with fail; clear s0 s1 s2 sl); refine (K7.out _ HC.out).mono ?_; rintro e w1 ⟨v1, rfl, ho, hb⟩; (have HB := Lib.hid (below_then HB.out hb); (try have HC := Lib.hid (HC.out.keep hb)); (try have HS := Lib.hid (HS.out.keep hb)); (try have HA := Lib.hid (HA.out.keep hb)); (try have HD := Lib.hid (HD.out.keep hb)); (try have HE := Lib.hid (HE.out.keep hb))); have HE := Lib.hid (cal_of_own ho (by omega)); clear ho hb; obtain ⟨zb, zc, rfl, _⟩ := HE.out.ex; (obtain ⟨s0, s1, s2, sl⟩ := HS.out; go_wp2_with fail; clear s0 s1 s2 sl); (refine (S1.out _ _ _ HD.out HE.out).mono ?_; rintro e w1 ⟨rfl, hb⟩; (have HB := Lib.hid (below_then HB.out hb); (try have HC := Lib.hid (HC.out.keep hb)); (try have HS := Lib.hid (HS.out.keep hb)); (try have HA := Lib.hid (HA.out.keep hb)); (try have HD := Lib.hid (HD.out.keep hb)); (try have HE := Lib.hid (HE.out.keep hb))); clear hb; (obtain ⟨s0, s1, s2, sl⟩ := HS.out; go_wp2_with fail; clear s0 s1 s2 sl))); (go_returns; exact ⟨rfl, HB.out⟩)))
    · have d1 : decide (s.f ≤ a) = true := decide_eq_true e3
      have d2 : decide (a < s.t) = false := decide_eq_false (by omega)
      ((go_enter Try.func9, Try.ntmps9; go_wp2_with fail; refine (HAl.out _).mono ?_; rintro e w1 ⟨rfl, hb⟩; have HS := Lib.hid ((SlAt.new w 57 s).keep hb); have HB := Lib.hid (below_then (show Below w.heap.size w (w.alloc (.cells #[.int .i64 s.f, .int .i64 s.t, .int .i64 s.o] 57)) by (repeat (first | (with_reducible exact Below.refl _ _) | (with_reducible assumption) | (with_reducible refine below_alloc ?_ _) | (with_reducible refine below_drewN ?_ _) | (with_reducible refine Below.drew ?_) | (with_reducible refine below_then ?_ (by with_reducible assumption)) | (with_reducible refine Below.setCell ?_ (by go_size) _)))) hb); have HC := Lib.hid (HC.out.keep HB.out); clear hb; (obtain ⟨s0, s1, s2, sl⟩ := HS.out; go_wp2_with fail; clear s0 s1 s2 sl)); refine (K1.out _ HC.out).mono ?_; rintro e w1 ⟨v1, rfl, ho, hb⟩; (have HB := Lib.hid (below_then HB.out hb); (try have HC := Lib.hid (HC.out.keep hb)); (try have HS := Lib.hid (HS.out.keep hb)); (try have HA := Lib.hid (HA.out.keep hb)); (try have HD := Lib.hid (HD.out.keep hb)); (try have HE := Lib.hid (HE.out.keep hb))); have HA := Lib.hid (cal_of_own ho (by have := HL1.out; omega)); clear ho hb; obtain ⟨ab, ac, rfl, _⟩ := HA.out.ex; (obtain ⟨s0, s1, s2, sl⟩ := HS.out; go_wp2_with fail; clear s0 s1 s2 sl); (refine (K2.out _ HC.out).mono ?_; rintro e w1 ⟨rfl, hb⟩; (have HB := Lib.hid (below_then HB.out hb); (try have HC := Lib.hid (HC.out.keep hb)); (try have HS := Lib.hid (HS.out.keep hb)); (try have HA := Lib.hid (HA.out.keep hb)); (try have HD := Lib.hid (HD.out.keep hb)); (try have HE := Lib.hid (HE.out.keep hb))); clear hb; (obtain ⟨s0, s1, s2, sl⟩ := HS.out; go_wp2_with fail; clear s0 s1 s2 sl)); (refine (K3.out _ _ HA.out).mono ?_; rintro e w1 ⟨rfl, hb⟩; (have HB := Lib.hid (below_then HB.out hb); (try have HC := Lib.hid (HC.out.keep hb)); (try have HS := Lib.hid (HS.out.keep hb)); (try have HA := Lib.hid (HA.out.keep hb)); (try have HD := Lib.hid (HD.out.keep hb)); (try have HE := Lib.hid (HE.out.keep hb))); clear hb; (obtain ⟨s0, s1, s2, sl⟩ := HS.out; go_wp2_with fail; clear s0 s1 s2 sl)); (refine (K4.out _ HC.out).mono ?_; rintro e w1 ⟨rfl, hb⟩; (have HB := Lib.hid (below_then HB.out hb); (try have HC := Lib.hid (HC.out.keep hb)); (try have HS := Lib.hid (HS.out.keep hb)); (try have HA := Lib.hid (HA.out.keep hb)); (try have HD := Lib.hid (HD.out.keep hb)); (try have HE := Lib.hid (HE.out.keep hb))); clear hb; (obtain ⟨s0, s1, s2, sl⟩ := HS.out; go_wp2_with fail; clear s0 s1 s2 sl)); (refine (K5.out _ _ HA.out).mono ?_; rintro e w1 ⟨rfl, hb⟩; (have HB := Lib.hid (below_then HB.out hb); (try have HC := Lib.hid (HC.out.keep hb)); (try have HS := Lib.hid (HS.out.keep hb)); (try have HA := Lib.hid (HA.out.keep hb)); (try have HD := Lib.hid (HD.out.keep hb)); (try have HE := Lib.hid (HE.out.keep hb))); clear hb; (obtain ⟨s0, s1, s2, sl⟩ := HS.out; go_wp2_with fail; clear s0 s1 s2 sl)))
      (by_cases hz : Z.length = c.length; (have gz0 : (Z.length : Int) = (c.length : Int) := (by omega); have gz : ((Z.length : Int) != (c.length : Int)) = false := (by simp [gz0]); have gz2 : ((Z.length : Int) == (c.length : Int)) = true := (by simp [gz0]); clear gz0; have S2 := Lib.hid (S2.out hz); clear hz; (refine (K6.out _ _ HA.out).mono ?_; rintro e w1 ⟨v1, rfl, ho, hb⟩; (have HB := Lib.hid (below_then HB.out hb); (try have HC := Lib.hid (HC.out.keep hb)); (try have HS := Lib.hid (HS.out.keep hb)); (try have HA := Lib.hid (HA.out.keep hb)); (try have HD := Lib.hid (HD.out.keep hb)); (try have HE := Lib.hid (HE.out.keep hb))); have HD := Lib.hid (cal_of_own ho (by omega)); clear ho hb; (obtain ⟨s0, s1, s2, sl⟩ := HS.out; go_wp2_with fail; clear s0 s1 s2 sl); refine (K7.out _ HC.out).mono ?_; rintro e w1 ⟨v1, rfl, ho, hb⟩; (have HB := Lib.hid (below_then HB.out hb); (try have HC := Lib.hid (HC.out.keep hb)); (try have HS := Lib.hid (HS.out.keep hb)); (try have HA := Lib.hid (HA.out.keep hb)); (try have HD := Lib.hid (HD.out.keep hb)); (try have HE := Lib.hid (HE.out.keep hb))); have HE := Lib.hid (cal_of_own ho (by omega)); clear ho hb; obtain ⟨zb, zc, rfl, _⟩ := HE.out.ex; (obtain ⟨s0, s1, s2, sl⟩ := HS.out; go_wp2_with fail; clear s0 s1 s2 sl); (refine (S1.out _ _ _ HD.out HE.out).mono ?_; rintro e w1 ⟨rfl, hb⟩; (have HB := Lib.hid (below_then HB.out hb); (try have HC := Lib.hid (HC.out.keep hb)); (try have HS := Lib.hid (HS.out.keep hb)); (try have HA := Lib.hid (HA.out.keep hb)); (try have HD := Lib.hid (HD.out.keep hb)); (try have HE := Lib.hid (HE.out.keep hb))); clear hb; (obtain ⟨s0, s1, s2, sl⟩ := HS.out; go_wp2_with fail; clear s0 s1 s2 sl))); (refine (S2.out _ _ _ HD.out HC.out).mono ?_; rintro e w1 ⟨rfl, hb⟩; (have HB := Lib.hid (below_then HB.out hb); (try have HC := Lib.hid (HC.out.keep hb)); (try have HS := Lib.hid (HS.out.keep hb)); (try have HA := Lib.hid (HA.out.keep hb)); (try have HD := Lib.hid (HD.out.keep hb)); (try have HE := Lib.hid (HE.out.keep hb))); clear hb; (obtain ⟨s0, s1, s2, sl⟩ := HS.out; go_wp2_with fail; clear s0 s1 s2 sl)); (go_returns; exact ⟨rfl, HB.out⟩)); (have gz0 : ¬ (Z.length : Int) = (c.length : Int) := (by omega); have gz : ((Z.length : Int) != (c.length : Int)) = true := (by simp [gz0]); have gz2 : ((Z.length : Int) == (c.length : Int)) = false := (by simp [gz0]); clear gz0; (refine (K6.out _ _ HA.out).mono ?_; rintro e w1 ⟨v1, rfl, ho, hb⟩; (have HB := Lib.hid (below_then HB.out hb); (try have HC := Lib.hid (HC.out.keep hb)); (try have HS := Lib.hid (HS.out.keep hb)); (try have HA := Lib.hid (HA.out.keep hb)); (try have HD := Lib.hid (HD.out.keep hb)); (try have HE := Lib.hid (HE.out.keep hb))); have HD := Lib.hid (cal_of_own ho (by omega)); clear ho hb; (obtain ⟨s0, s1, s2, sl⟩ := HS.out; go_wp2_with fail; clear s0 s1 s2 sl); refine (K7.out _ HC.out).mono ?_; rintro e w1 ⟨v1, rfl, ho, hb⟩; (have HB := Lib.hid (below_then HB.out hb); (try have HC := Lib.hid (HC.out.keep hb)); (try have HS := Lib.hid (HS.out.keep hb)); (try have HA := Lib.hid (HA.out.keep hb)); (try have HD := Lib.hid (HD.out.keep hb)); (try have HE := Lib.hid (HE.out.keep hb))); have HE := Lib.hid (cal_of_own ho (by omega)); clear ho hb; obtain ⟨zb, zc, rfl, _⟩ := HE.out.ex; (obtain ⟨s0, s1, s2, sl⟩ := HS.out; go_wp2_with fail; clear s0 s1 s2 sl); (refine (S1.out _ _ _ HD.out HE.out).mono ?_; rintro e w1 ⟨rfl, hb⟩; (have HB := Lib.hid (below_then HB.out hb); (try have HC := Lib.hid (HC.out.keep hb)); (try have HS := Lib.hid (HS.out.keep hb)); (try have HA := Lib.hid (HA.out.keep hb)); (try have HD := Lib.hid (HD.out.keep hb)); (try have HE := Lib.hid (HE.out.keep hb))); clear hb; (obtain ⟨s0, s1, s2, sl⟩ := HS.out; go_wp2_with fail; clear s0 s1 s2 sl))); (go_returns; exact ⟨rfl, HB.out⟩)))

set_option maxRecDepth 100000 in set_option maxHeartbeats 4000000 in
theorem law08_CalPut (ba : Option Addr) (ca : Nat) (c : List Sl) (s : Sl) (a : Int) (w : World) (hr : Rd w ba (slc c)) (hca : c.length ≤ ca) (hna : ba = none → c.length = 0 ∧ ca = 0) :
    Calls Try.prog 9 #[.slice ba c.length ca, .agg #[.int .i64 s.f, .int .i64 s.t, .int .i64 s.o], .int .i64 a] w (RB w (.bool true)) := by
  by_cases hl : c.length ≤ 5000
  · have hc := CS.mk1 ⟨hr, by omega⟩ hca hna
    by_cases he : putE c s = 0
    · exact CalPut_ok ba ca c s a w hc he
    · exact CalPut_bad ba ca c s a w hc hl he
  · have HAl := Lib.hid (fun W => law08_alive W)
    have hd0 : 5000 < c.length := by omega
    clear hr hca hna hl
    go_enter Try.func9, Try.ntmps9
    go_wp2_with fail
    refine (HAl.out _).mono ?_
    rintro e w1 ⟨rfl, hb⟩
    have hB := below_then (show Below w.heap.size w (w.alloc (.cells #[.int .i64 s.f, .int .i64 s.t, .int .i64 s.o] 57)) by (repeat (first | (with_reducible exact Below.refl _ _) | (with_reducible assumption) | (with_reducible refine below_alloc ?_ _) | (with_reducible refine below_drewN ?_ _) | (with_reducible refine Below.drew ?_) | (with_reducible refine below_then ?_ (by with_reducible assumption)) | (with_reducible refine Below.setCell ?_ (by go_size) _)))) hb
    go_wp2_with fail
    go_returns
    exact ⟨rfl, hB⟩
set_option maxRecDepth 100000 in set_option maxHeartbeats 4000000 in
theorem open_slot {W : World} {base : Nat} {v : Value} (h : Value.okWide Try.prog W .any base 57 v) : ∃ s : Sl, v = .agg #[.int .i64 s.f, .int .i64 s.t, .int .i64 s.o] := by
  obtain ⟨l, hl, rfl, _⟩ := open_flat (n := 3) (.inl ⟨_, Try.underlying57⟩) (by kernel_rfl) (by kernel_rfl) h
  match l, hl with
  | [f, t, o], _ => exact ⟨⟨f, t, o⟩, rfl⟩
set_option maxRecDepth 100000 in set_option maxHeartbeats 4000000 in
theorem lift_calPut (os : Os) (started : os.Started) (H : Type) (enc : TypeId × Value → H) :
    ReturnsInHanded {} Try.checked os 9 .any (Rows.calPutSpec.pre6 enc Try.prog Try.f9 Rows.calPutRow.domain false) (Rows.calPutSpec.post enc Try.prog Try.f9 false true false false) := by
  refine returnsInHanded_of_change (C := Try.checked) ownKnob0 started (by kernel_rfl) Try.func9
    (ChangeSpec.witness6 (enc := enc) (C := Try.checked) false ⟨#[], #[.slice none 0 0, .agg #[.int .i64 0, .int .i64 0, .int .i64 0], .int .i64 0], []⟩ 8 (by kernel_rfl) (by kernel_rfl) (by kernel_rfl) (by kernel_rfl)) ?_
  intro W base args ds gs before hval0 hW hcnd _
  have hval : ∀ (j : Nat) t v, Try.f9.params[j]? = some t → args[j]? = some v → Value.okWide Try.prog W .any base t v := hval0
  have hW' := hW
  obtain ⟨p, q, hA0, hV, rfl, hfz, hnd⟩ := hW
  have hA : DataW.TrodAll enc Try.prog W 0 (fun _ => true) true Try.f9.params.toList args.toList ds p := hA0
  rw [Try.params9] at hA hval
  have hK := hA
  obtain ⟨v0, vs0, d0, ds0, p0, q0, hargs, rfl, rfl, h0, r0⟩ := trodAll_cons hA
  obtain ⟨v1, vs1, d1, ds1, p1, q1, rfl, rfl, rfl, h1, r1⟩ := trodAll_cons r0
  obtain ⟨v2, vs2, d2, ds2, p2, q2, rfl, rfl, rfl, h2, r2⟩ := trodAll_cons r1
  obtain ⟨rfl, rfl, rfl⟩ := trodAll_nil r2
  obtain rfl : args = #[v0, v1, v2] := by cases args; simp_all
  obtain ⟨ba, c, ca, rfl, hc, hca, hna⟩ := open_slots (hval 0 _ v0 rfl rfl) h0
  obtain ⟨s, rfl⟩ := open_slot (hval 1 _ v1 rfl rfl)
  obtain ⟨a, rfl⟩ := okWide_int Try.underlying3 (hval 2 _ v2 rfl rfl)
  obtain ⟨rfl, rfl⟩ := trodVars_none hV
  clear hA0 hval0
  simp only [List.append_nil] at hW' hK
  refine (law08_CalPut ba ca c s a W hc hca hna).mono fun e W' ⟨he, bel⟩ => ?_
  subst he
  refine ⟨_, rfl, _, _, _, [], _, [], hW', trodAll_mk1 (shut_bool Try.underlying4 _), trodAll_below bel _ _ _ _ ?_ hK, rfl, bel.frame _, fun h => by cases h⟩
  intro t ht
  simp at ht <;> (rcases ht with rfl | rfl | rfl <;> exact ⟨by kernel_rfl, of_decide_eq_true (by kernel_rfl)⟩)

theorem holds_calPut : Rows.calPutRow.holds Try.pinned (OpenSpec.ofChange Rows.calPutSpec) :=
  OpenClaim.holds_of_wide 9 Try.f9 rfl rfl rfl rfl rfl rfl rfl ⟨rfl, rfl, rfl, rfl, rfl⟩ rfl rfl rfl rfl rfl (by kernel_rfl) Try.func9 (by kernel_rfl)
    (of_decide_eq_true (by kernel_rfl)) (by unfold Func.isWrapper; first | (rw [if_pos (by decide +kernel)]; kernel_rfl) | (rw [if_neg (by decide +kernel)]; exact ⟨rfl, rfl⟩))
    (fun os started H enc _ => lift_calPut os started H enc)

theorem CalPut_holds : Rows.CalPutSaid := holds_calPut
end Go.Proofs.Ytfikgjcmnooglaa
