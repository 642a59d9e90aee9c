/- CAL: Put whole; Take. -/
import Derived.Test.YtfikgjcmnooglaaPut1
namespace Go.Proofs.Ytfikgjcmnooglaa
open Go.RowKit Go.Shelf

theorem rse_nil {w w' : World} (n : Int) (hb : Below w.heap.size w w') : RSE w [] n (.returned (.tuple #[.slice none 0 0, .int .i64 n])) w' := ⟨_, rfl, ⟨rfl, .inl ⟨rfl, rfl⟩⟩, hb⟩
set_option maxRecDepth 100000 in set_option maxHeartbeats 4000000 in
theorem cal_Put_bad (ba : Option Addr) (ca : Nat) (c : List Sl) (s : Sl) (w : World) (hc : CIn w ba c) (he : calE c ≠ 0) :
    Calls Try.prog 34 #[.slice ba c.length ca, .agg #[.int .i64 s.f, .int .i64 s.t, .int .i64 s.o]] w (RSE w [] (calE c)) := by
  have H1 := Lib.hid (fun W (h : Below w.heap.size w W) => cal_Check ba ca c W (hc.keep h))
  have hn : (calE c == 0) = false := by simpa using he
  have hm : (calE c != 0) = true := by simpa using he
  clear hc
  generalize calE c = z at *
  go_enter Try.func34, Try.ntmps34
  go_wp2_with fail
  refine (H1.out _ (by (repeat (first | (with_reducible exact Below.refl _ _) | (with_reducible assumption) | (with_reducible refine below_alloc ?_ _) | (with_reducible refine below_drewN ?_ _) | (with_reducible refine Below.drew ?_) | (with_reducible refine below_then ?_ (by with_reducible assumption)) | (with_reducible refine Below.setCell ?_ (by go_size) _))))).mono ?_
  rintro e w1 ⟨rfl, hb1⟩
  go_wp2_with fail
  go_returns
  exact rse_nil _ (below_then (by (repeat (first | (with_reducible exact Below.refl _ _) | (with_reducible assumption) | (with_reducible refine below_alloc ?_ _) | (with_reducible refine below_drewN ?_ _) | (with_reducible refine Below.drew ?_) | (with_reducible refine below_then ?_ (by with_reducible assumption)) | (with_reducible refine Below.setCell ?_ (by go_size) _)))) hb1)
set_option maxRecDepth 100000 in set_option maxHeartbeats 4000000 in
theorem cal_Put_no (ba : Option Addr) (ca : Nat) (c : List Sl) (s : Sl) (w : World) (hc : CIn w ba c) (h0 : calE c = 0) (n : Int)
    (hn : (¬ s.may ∧ n = 2) ∨ (s.may ∧ freeB c s.f s.t = false ∧ n = 80) ∨ (s.may ∧ freeB c s.f s.t = true ∧ c.length = 4096 ∧ n = 4)) :
    Calls Try.prog 34 #[.slice ba c.length ca, .agg #[.int .i64 s.f, .int .i64 s.t, .int .i64 s.o]] w (RSE w [] n) := by
  have hch := (calE_ok h0).1
  have H1 := Lib.hid (fun W (h : Below w.heap.size w W) => by have := cal_Check ba ca c W (hc.keep h); rw [h0] at this; exact this)
  have H2 := Lib.hid (fun W => cal_may s W)
  have H3 := Lib.hid (fun W (h : Below w.heap.size w W) => cal_free ba ca c s.f s.t W (hc.keep h) hch)
  clear hc hch h0
  rcases hn with ⟨hn, rfl⟩ | ⟨hn, hf, rfl⟩ | ⟨hn, hf, hl, rfl⟩
  · have H2 := Lib.hid (fun W => Calls.rb_eq (H2.out W) (congrArg Value.bool (decide_eq_false hn)))
    go_enter Try.func34, Try.ntmps34
    go_wp2_with fail
    refine (H1.out _ (by (repeat (first | (with_reducible exact Below.refl _ _) | (with_reducible assumption) | (with_reducible refine below_alloc ?_ _) | (with_reducible refine below_drewN ?_ _) | (with_reducible refine Below.drew ?_) | (with_reducible refine below_then ?_ (by with_reducible assumption)) | (with_reducible refine Below.setCell ?_ (by go_size) _))))).mono ?_
    rintro e w1 ⟨rfl, hb1⟩
    have HS := Lib.hid ((SlAt.new w 57 s).keep hb1)
    have HB := Lib.hid (below_then (show Below w.heap.size w (w.alloc (.cells #[.int .i64 s.f, .int .i64 s.t, .int .i64 s.o] 57)) by (repeat (first | (with_reducible exact Below.refl _ _) | (with_reducible assumption) | (with_reducible refine below_alloc ?_ _) | (with_reducible refine below_drewN ?_ _) | (with_reducible refine Below.drew ?_) | (with_reducible refine below_then ?_ (by with_reducible assumption)) | (with_reducible refine Below.setCell ?_ (by go_size) _)))) hb1)
    clear hb1
    (obtain ⟨s0, s1, s2, sl⟩ := HS.out; go_wp2_with fail; clear s0 s1 s2 sl)
    refine (H2.out _).mono ?_
    rintro e w2 ⟨rfl, hb1⟩
    (have HS := Lib.hid (HS.out.keep hb1); have HB := Lib.hid (below_then HB.out hb1))
    clear hb1
    (obtain ⟨s0, s1, s2, sl⟩ := HS.out; go_wp2_with fail; clear s0 s1 s2 sl)
    go_returns
    exact rse_nil _ HB.out
  · have H2 := Lib.hid (fun W => Calls.rb_eq (H2.out W) (congrArg Value.bool (decide_eq_true hn)))
    have H3 := Lib.hid (fun W h => Calls.rb_eq (H3.out W h) (congrArg Value.bool hf))
    go_enter Try.func34, Try.ntmps34
    go_wp2_with fail
    refine (H1.out _ (by (repeat (first | (with_reducible exact Below.refl _ _) | (with_reducible assumption) | (with_reducible refine below_alloc ?_ _) | (with_reducible refine below_drewN ?_ _) | (with_reducible refine Below.drew ?_) | (with_reducible refine below_then ?_ (by with_reducible assumption)) | (with_reducible refine Below.setCell ?_ (by go_size) _))))).mono ?_
    rintro e w1 ⟨rfl, hb1⟩
    have HS := Lib.hid ((SlAt.new w 57 s).keep hb1)
    have HB := Lib.hid (below_then (show Below w.heap.size w (w.alloc (.cells #[.int .i64 s.f, .int .i64 s.t, .int .i64 s.o] 57)) by (repeat (first | (with_reducible exact Below.refl _ _) | (with_reducible assumption) | (with_reducible refine below_alloc ?_ _) | (with_reducible refine below_drewN ?_ _) | (with_reducible refine Below.drew ?_) | (with_reducible refine below_then ?_ (by with_reducible assumption)) | (with_reducible refine Below.setCell ?_ (by go_size) _)))) hb1)
    clear hb1
    (obtain ⟨s0, s1, s2, sl⟩ := HS.out; go_wp2_with fail; clear s0 s1 s2 sl)
    refine (H2.out _).mono ?_
    rintro e w2 ⟨rfl, hb1⟩
    (have HS := Lib.hid (HS.out.keep hb1); have HB := Lib.hid (below_then HB.out hb1))
    clear hb1
    (obtain ⟨s0, s1, s2, sl⟩ := HS.out; go_wp2_with fail; clear s0 s1 s2 sl)
    refine (H3.out _ HB.out).mono ?_
    rintro e w3 ⟨rfl, hb1⟩
    (have HS := Lib.hid (HS.out.keep hb1); have HB := Lib.hid (below_then HB.out hb1))
    clear hb1
    (obtain ⟨s0, s1, s2, sl⟩ := HS.out; go_wp2_with fail; clear s0 s1 s2 sl)
    go_returns
    exact rse_nil _ HB.out
  · have H2 := Lib.hid (fun W => Calls.rb_eq (H2.out W) (congrArg Value.bool (decide_eq_true hn)))
    have H3 := Lib.hid (fun W h => Calls.rb_eq (H3.out W h) (congrArg Value.bool hf))
    have hl2 : (c.length : Int) = 4096 := by omega
    clear hf
    generalize c.length = N at *
    subst hl
    go_enter Try.func34, Try.ntmps34
    go_wp2_with fail
    refine (H1.out _ (by (repeat (first | (with_reducible exact Below.refl _ _) | (with_reducible assumption) | (with_reducible refine below_alloc ?_ _) | (with_reducible refine below_drewN ?_ _) | (with_reducible refine Below.drew ?_) | (with_reducible refine below_then ?_ (by with_reducible assumption)) | (with_reducible refine Below.setCell ?_ (by go_size) _))))).mono ?_
    rintro e w1 ⟨rfl, hb1⟩
    have HS := Lib.hid ((SlAt.new w 57 s).keep hb1)
    have HB := Lib.hid (below_then (show Below w.heap.size w (w.alloc (.cells #[.int .i64 s.f, .int .i64 s.t, .int .i64 s.o] 57)) by (repeat (first | (with_reducible exact Below.refl _ _) | (with_reducible assumption) | (with_reducible refine below_alloc ?_ _) | (with_reducible refine below_drewN ?_ _) | (with_reducible refine Below.drew ?_) | (with_reducible refine below_then ?_ (by with_reducible assumption)) | (with_reducible refine Below.setCell ?_ (by go_size) _)))) hb1)
    clear hb1
    (obtain ⟨s0, s1, s2, sl⟩ := HS.out; go_wp2_with fail; clear s0 s1 s2 sl)
    refine (H2.out _).mono ?_
    rintro e w2 ⟨rfl, hb1⟩
    (have HS := Lib.hid (HS.out.keep hb1); have HB := Lib.hid (below_then HB.out hb1))
    clear hb1
    (obtain ⟨s0, s1, s2, sl⟩ := HS.out; go_wp2_with fail; clear s0 s1 s2 sl)
    refine (H3.out _ HB.out).mono ?_
    rintro e w3 ⟨rfl, hb1⟩
    (have HS := Lib.hid (HS.out.keep hb1); have HB := Lib.hid (below_then HB.out hb1))
    clear hb1
    (obtain ⟨s0, s1, s2, sl⟩ := HS.out; go_wp2_with fail; clear s0 s1 s2 sl)
    go_returns
    exact rse_nil _ HB.out
theorem cal_Put (ba : Option Addr) (ca : Nat) (c : List Sl) (s : Sl) (w : World) (hc : CIn w ba c) (hna : ba = none → c.length = 0) :
    Calls Try.prog 34 #[.slice ba c.length ca, .agg #[.int .i64 s.f, .int .i64 s.t, .int .i64 s.o]] w (RSE w (putV c s) (putE c s)) := by
  by_cases he : putE c s = 0
  · rw [show putV c s = putL c s from if_pos he, he]
    exact cal_Put_ok ba ca c s w hc hna he
  · rw [show putV c s = [] from if_neg he]
    by_cases h0 : calE c = 0
    · refine cal_Put_no ba ca c s w hc h0 _ ?_
      by_cases hm : s.may
      · cases hf : freeB c s.f s.t
        · exact .inr (.inl ⟨hm, rfl, by unfold putE; rw [if_pos h0, if_pos hm, hf]; rfl⟩)
        · by_cases hl : c.length = 4096
          · exact .inr (.inr ⟨hm, rfl, hl, by unfold putE; rw [if_pos h0, if_pos hm, hf, if_pos rfl, if_pos hl]⟩)
          · exact absurd (by unfold putE; rw [if_pos h0, if_pos hm, hf, if_pos rfl, if_neg hl]) he
      · exact .inl ⟨hm, by unfold putE; rw [if_pos h0, if_neg hm]⟩
    · rw [show putE c s = calE c by unfold putE; rw [if_neg h0]]
      exact cal_Put_bad ba ca c s w hc h0

set_option maxRecDepth 100000 in set_option maxHeartbeats 4000000 in
theorem cal_Take (ba : Option Addr) (ca : Nat) (c : List Sl) (ow : Int) (w : World) (hc : CIn w ba c) :
    Calls Try.prog 36 #[.slice ba c.length ca, .int .i64 ow] w (RSE w (cutV ow 0 c) (calE c)) := by
  have H1 := Lib.hid (cal_Cut ba ca c ow 0 w hc)
  clear hc
  generalize cutV ow 0 c = l at *
  generalize calE c = z at *
  go_enter Try.func36, Try.ntmps36
  go_wp2_with fail
  refine H1.out.mono ?_
  rintro e w1 ⟨v, rfl, ho, hb1⟩
  have HO := Lib.hid ho
  clear ho
  go_wp2_with fail
  go_returns
  exact ⟨_, rfl, HO.out, hb1⟩
end Go.Proofs.Ytfikgjcmnooglaa
