/- CAL: the code's Put. -/
import Derived.Deep.DeepCutAuto
import Derived.Deep.RegionHeld3
import Derived.Test.YtofoenlhbmammaaGreatQ5F11
import Derived.Test.YtofoenlhbmammaaGreatQ0CalLawF11
import Derived.Test.YtofoenlhbmammaaGreatQ0InsF11
set_option linter.unusedVariables false
set_option linter.unusedSimpArgs false
namespace Go.Proofs.YtofoenlhbmammaaGreat

section
section
open Go.RowKit Go.Shelf

/-- A slot lies in a block. -/
structure SlAt (w : World) (B : Nat) (s : Sl) : Prop where
  c0 : w.cell? ⟨B, 0, none⟩ = some (.int .i64 s.f)
  c1 : w.cell? ⟨B, 1, none⟩ = some (.int .i64 s.t)
  c2 : w.cell? ⟨B, 2, none⟩ = some (.int .i64 s.o)
  lt : B < w.heap.size
theorem SlAt.keep {w W : World} {B : Nat} {s : Sl} (h : SlAt w B s) (hb : Below w.heap.size w W) : SlAt W B s := by
  obtain ⟨hc, _⟩ := bcell hb
  exact ⟨by rw [hc _ _ h.lt]; exact h.c0, by rw [hc _ _ h.lt]; exact h.c1, by rw [hc _ _ h.lt]; exact h.c2, Nat.lt_of_lt_of_le h.lt hb.size⟩
theorem SlAt.new (w : World) (t : TypeId) (s : Sl) : SlAt (w.alloc (.cells #[.int .i64 s.f, .int .i64 s.t, .int .i64 s.o] t)) w.heap.size s :=
  ⟨(Blk.new w t #[.int .i64 s.f, .int .i64 s.t, .int .i64 s.o]).cell 0 _ rfl, (Blk.new w t #[.int .i64 s.f, .int .i64 s.t, .int .i64 s.o]).cell 1 _ rfl, (Blk.new w t #[.int .i64 s.f, .int .i64 s.t, .int .i64 s.o]).cell 2 _ rfl, (Blk.new w t #[.int .i64 s.f, .int .i64 s.t, .int .i64 s.o]).lt⟩
set_option maxRecDepth 100000 in set_option maxHeartbeats 4000000 in
theorem cal_Put_ok (ba : Option Addr) (ca : Nat) (c : List Sl) (s : Sl) (w : World) (hc : CIn w ba c) (hna : ba = none → c.length = 0) (he : putE c s = 0) :
    Calls Tryz.prog 80 #[.slice ba c.length ca, .agg #[.int .i64 s.f, .int .i64 s.t, .int .i64 s.o]] w (RSE w (putL c s) 0) := by
  obtain ⟨h0, h1, h2, h3⟩ := putE_0 he
  have hch := (calE_ok h0).1
  have H1 := Lib.hid (fun W (h : Below w.heap.size w W) => by have := cal_Check ba ca c W (hc.keep h); rw [h0] at this; exact this)
  have H2 := Lib.hid (fun W => by have := cal_may s W; rw [decide_eq_true h1] at this; exact this)
  have H3 := Lib.hid (fun W (h : Below w.heap.size w W) => by have := cal_free ba ca c s.f s.t W (hc.keep h) hch; rw [h2] at this; exact this)
  have H4 := Lib.hid (fun W (h : Below w.heap.size w W) => slices_Clone ba ca c W (hc.keep h).rd hna hc.len)
  have H5 := Lib.hid (fun W (h : Below w.heap.size w W) => cal_after ba ca c s.f W (hc.keep h) hch)
  have hal := aft_le c s.f
  have H6 := Lib.hid (fun B v vb ty W hB ho hs hne => slices_Insert B v c (aft c s.f) s vb ty W hB ho hal (by omega) hs hne)
  have HP := Lib.hid (show putL c s = c.take (aft c s.f) ++ s :: c.drop (aft c s.f) from rfl)
  rw [← HP.out] at H6
  obtain ⟨n, hn⟩ : ∃ n, n = c.length := ⟨_, rfl⟩
  have hne : (n : Int) ≠ 4096 := by omega
  clear hc hch h0 h1 h2 he hna
  generalize aft c s.f = m at *
  go_enter Tryz.func80, Tryz.ntmps80
  go_wp2_with fail
  refine (H1.out _ (by (repeat (first | (with_reducible exact Below.refl _ _) | (with_reducible assumption) | (with_reducible refine below_alloc ?_ _) | (with_reducible refine below_drewN ?_ _) | (with_reducible refine Below.drew ?_) | (with_reducible refine below_then ?_ (by with_reducible assumption)) | (with_reducible refine Below.setCell ?_ (by go_size) _))))).mono ?_
  rintro e w1 ⟨rfl, hb1⟩
  have HS := Lib.hid ((SlAt.new w 68 s).keep hb1)
  have HB := Lib.hid (below_then (show Below w.heap.size w (w.alloc (.cells #[.int .i64 s.f, .int .i64 s.t, .int .i64 s.o] 68)) by (repeat (first | (with_reducible exact Below.refl _ _) | (with_reducible assumption) | (with_reducible refine below_alloc ?_ _) | (with_reducible refine below_drewN ?_ _) | (with_reducible refine Below.drew ?_) | (with_reducible refine below_then ?_ (by with_reducible assumption)) | (with_reducible refine Below.setCell ?_ (by go_size) _)))) hb1)
  clear hb1
  (obtain ⟨s0, s1, s2, sl⟩ := HS.out; go_wp2_with fail; clear s0 s1 s2 sl)
  refine (H2.out _).mono ?_
  rintro e w2 ⟨rfl, hb1⟩
  (have HS := Lib.hid (HS.out.keep hb1); have HB := Lib.hid (below_then HB.out hb1))
  clear hb1
  (obtain ⟨s0, s1, s2, sl⟩ := HS.out; go_wp2_with fail; clear s0 s1 s2 sl)
  refine (H3.out _ HB.out).mono ?_
  rintro e w3 ⟨rfl, hb1⟩
  (have HS := Lib.hid (HS.out.keep hb1); have HB := Lib.hid (below_then HB.out hb1))
  clear hb1
  (obtain ⟨s0, s1, s2, sl⟩ := HS.out; go_wp2_with fail; clear s0 s1 s2 sl)
  have H4 := Lib.hid (fun W (h : Below w3.heap.size w3 W) => H4.out W (below_then HB.out h))
  have H5 := Lib.hid (fun W (h : Below w3.heap.size w3 W) => H5.out W (below_then HB.out h))
  have HS2 := HS
  obtain ⟨s0, s1, s2, sl⟩ := HS2.out
  have mixed : Tryz.prog.follows .mixedOrders = true := by kernel_rfl
  go_region_held3 (fun W => W.cell? ⟨w.heap.size, 0, none⟩ = some (.int .i64 s.f) ∧ W.cell? ⟨w.heap.size, 1, none⟩ = some (.int .i64 s.t) ∧ W.cell? ⟨w.heap.size, 2, none⟩ = some (.int .i64 s.o)) (go_keep)
    (first
      | (go_at_call 106; refine (H4.out _ (by (repeat (first | (with_reducible exact Below.refl _ _) | (with_reducible assumption) | (with_reducible refine below_alloc ?_ _) | (with_reducible refine below_drewN ?_ _) | (with_reducible refine Below.drew ?_) | (with_reducible refine below_then ?_ (by with_reducible assumption)) | (with_reducible refine Below.setCell ?_ (by go_size) _))))).mono ?_; rintro e wa ⟨va, rfl, hoa, hba⟩; have hlo := hoa.lt; have hza := hba.size; (try simp at hza hlo); have hBa := below_then (show Below w3.heap.size w3 _ by (repeat (first | (with_reducible exact Below.refl _ _) | (with_reducible assumption) | (with_reducible refine below_alloc ?_ _) | (with_reducible refine below_drewN ?_ _) | (with_reducible refine Below.drew ?_) | (with_reducible refine below_then ?_ (by with_reducible assumption)) | (with_reducible refine Below.setCell ?_ (by go_size) _)))) hba; have hown := own_mono hoa (show w3.heap.size ≤ _ by first | omega | (simp <;> omega)); clear hoa; obtain ⟨ka0, ka1, ka2, ska⟩ := HS.out.keep hBa)
      | (go_at_call 107; refine (H5.out _ (by (repeat (first | (with_reducible exact Below.refl _ _) | (with_reducible assumption) | (with_reducible refine below_alloc ?_ _) | (with_reducible refine below_drewN ?_ _) | (with_reducible refine Below.drew ?_) | (with_reducible refine below_then ?_ (by with_reducible assumption)) | (with_reducible refine Below.setCell ?_ (by go_size) _))))).mono ?_; rintro e wb ⟨rfl, hbb⟩; have hzb := hbb.size; (try simp at hzb); have hBb := below_then (show Below w3.heap.size w3 _ by (repeat (first | (with_reducible exact Below.refl _ _) | (with_reducible assumption) | (with_reducible refine below_alloc ?_ _) | (with_reducible refine below_drewN ?_ _) | (with_reducible refine Below.drew ?_) | (with_reducible refine below_then ?_ (by with_reducible assumption)) | (with_reducible refine Below.setCell ?_ (by go_size) _)))) hbb; obtain ⟨kb0, kb1, kb2, skb⟩ := HS.out.keep hBb)
      | (go_at_call 105; refine (H6.out w3.heap.size _ _ 68 _ (by first | omega | (simp <;> omega)) (by (repeat (first | (with_reducible assumption) | (refine World.ownsRow.alloc ?_ _) | (refine own_keep ?_ hbb)))) (by (repeat (first | (exact Blk.new _ _ _) | (refine Blk.below ?_ hbb) | (refine Blk.below ?_ hba)))) (by intro e; have := hlo _ e; first | omega | (simp at this <;> omega))).mono ?_; rintro e wi ⟨vi, rfl, hoi, hbi⟩; have hBi := (show Below w3.heap.size w3 _ by (repeat (first | (with_reducible exact Below.refl _ _) | (with_reducible assumption) | (with_reducible refine below_alloc ?_ _) | (with_reducible refine below_drewN ?_ _) | (with_reducible refine Below.drew ?_) | (with_reducible refine below_then ?_ (by with_reducible assumption)) | (with_reducible refine Below.setCell ?_ (by go_size) _)))).trans hbi; obtain ⟨ki0, ki1, ki2, ski⟩ := HS.out.keep hBi))
  all_goals go_wp2_with fail
  all_goals go_returns
  all_goals exact ⟨_, rfl, own_mono hoi HB.out.size, below_then HB.out hBi⟩
end

section
open Go.RowKit Go.Shelf

theorem rse_nil {w w' : World} (n : Int) (hb : Below w.heap.size w w') : RSE w [] n (.returned (.tuple #[.slice none 0 0, .int .i64 n])) w' := ⟨_, rfl, ⟨rfl, .inl ⟨rfl, rfl⟩⟩, hb⟩
set_option maxRecDepth 100000 in set_option maxHeartbeats 4000000 in
theorem cal_Put_bad (ba : Option Addr) (ca : Nat) (c : List Sl) (s : Sl) (w : World) (hc : CIn w ba c) (he : calE c ≠ 0) :
    Calls Tryz.prog 80 #[.slice ba c.length ca, .agg #[.int .i64 s.f, .int .i64 s.t, .int .i64 s.o]] w (RSE w [] (calE c)) := by
  have H1 := Lib.hid (fun W (h : Below w.heap.size w W) => cal_Check ba ca c W (hc.keep h))
  have hn : (calE c == 0) = false := by simpa using he
  have hm : (calE c != 0) = true := by simpa using he
  clear hc
  generalize calE c = z at *
  go_enter Tryz.func80, Tryz.ntmps80
  go_wp2_with fail
  refine (H1.out _ (by (repeat (first | (with_reducible exact Below.refl _ _) | (with_reducible assumption) | (with_reducible refine below_alloc ?_ _) | (with_reducible refine below_drewN ?_ _) | (with_reducible refine Below.drew ?_) | (with_reducible refine below_then ?_ (by with_reducible assumption)) | (with_reducible refine Below.setCell ?_ (by go_size) _))))).mono ?_
  rintro e w1 ⟨rfl, hb1⟩
  go_wp2_with fail
  go_returns
  exact rse_nil _ (below_then (by (repeat (first | (with_reducible exact Below.refl _ _) | (with_reducible assumption) | (with_reducible refine below_alloc ?_ _) | (with_reducible refine below_drewN ?_ _) | (with_reducible refine Below.drew ?_) | (with_reducible refine below_then ?_ (by with_reducible assumption)) | (with_reducible refine Below.setCell ?_ (by go_size) _)))) hb1)
set_option maxRecDepth 100000 in set_option maxHeartbeats 4000000 in
theorem cal_Put_no (ba : Option Addr) (ca : Nat) (c : List Sl) (s : Sl) (w : World) (hc : CIn w ba c) (h0 : calE c = 0) (n : Int)
    (hn : (¬ s.may ∧ n = 2) ∨ (s.may ∧ freeB c s.f s.t = false ∧ n = 80) ∨ (s.may ∧ freeB c s.f s.t = true ∧ c.length = 4096 ∧ n = 4)) :
    Calls Tryz.prog 80 #[.slice ba c.length ca, .agg #[.int .i64 s.f, .int .i64 s.t, .int .i64 s.o]] w (RSE w [] n) := by
  have hch := (calE_ok h0).1
  have H1 := Lib.hid (fun W (h : Below w.heap.size w W) => by have := cal_Check ba ca c W (hc.keep h); rw [h0] at this; exact this)
  have H2 := Lib.hid (fun W => cal_may s W)
  have H3 := Lib.hid (fun W (h : Below w.heap.size w W) => cal_free ba ca c s.f s.t W (hc.keep h) hch)
  clear hc hch h0
  rcases hn with ⟨hn, rfl⟩ | ⟨hn, hf, rfl⟩ | ⟨hn, hf, hl, rfl⟩
  · have H2 := Lib.hid (fun W => Calls.rb_eq (H2.out W) (congrArg Value.bool (decide_eq_false hn)))
    go_enter Tryz.func80, Tryz.ntmps80
    go_wp2_with fail
    refine (H1.out _ (by (repeat (first | (with_reducible exact Below.refl _ _) | (with_reducible assumption) | (with_reducible refine below_alloc ?_ _) | (with_reducible refine below_drewN ?_ _) | (with_reducible refine Below.drew ?_) | (with_reducible refine below_then ?_ (by with_reducible assumption)) | (with_reducible refine Below.setCell ?_ (by go_size) _))))).mono ?_
    rintro e w1 ⟨rfl, hb1⟩
    have HS := Lib.hid ((SlAt.new w 68 s).keep hb1)
    have HB := Lib.hid (below_then (show Below w.heap.size w (w.alloc (.cells #[.int .i64 s.f, .int .i64 s.t, .int .i64 s.o] 68)) by (repeat (first | (with_reducible exact Below.refl _ _) | (with_reducible assumption) | (with_reducible refine below_alloc ?_ _) | (with_reducible refine below_drewN ?_ _) | (with_reducible refine Below.drew ?_) | (with_reducible refine below_then ?_ (by with_reducible assumption)) | (with_reducible refine Below.setCell ?_ (by go_size) _)))) hb1)
    clear hb1
    (obtain ⟨s0, s1, s2, sl⟩ := HS.out; go_wp2_with fail; clear s0 s1 s2 sl)
    refine (H2.out _).mono ?_
    rintro e w2 ⟨rfl, hb1⟩
    (have HS := Lib.hid (HS.out.keep hb1); have HB := Lib.hid (below_then HB.out hb1))
    clear hb1
    (obtain ⟨s0, s1, s2, sl⟩ := HS.out; go_wp2_with fail; clear s0 s1 s2 sl)
    go_returns
    exact rse_nil _ HB.out
  · have H2 := Lib.hid (fun W => Calls.rb_eq (H2.out W) (congrArg Value.bool (decide_eq_true hn)))
    have H3 := Lib.hid (fun W h => Calls.rb_eq (H3.out W h) (congrArg Value.bool hf))
    go_enter Tryz.func80, Tryz.ntmps80
    go_wp2_with fail
    refine (H1.out _ (by (repeat (first | (with_reducible exact Below.refl _ _) | (with_reducible assumption) | (with_reducible refine below_alloc ?_ _) | (with_reducible refine below_drewN ?_ _) | (with_reducible refine Below.drew ?_) | (with_reducible refine below_then ?_ (by with_reducible assumption)) | (with_reducible refine Below.setCell ?_ (by go_size) _))))).mono ?_
    rintro e w1 ⟨rfl, hb1⟩
    have HS := Lib.hid ((SlAt.new w 68 s).keep hb1)
    have HB := Lib.hid (below_then (show Below w.heap.size w (w.alloc (.cells #[.int .i64 s.f, .int .i64 s.t, .int .i64 s.o] 68)) by (repeat (first | (with_reducible exact Below.refl _ _) | (with_reducible assumption) | (with_reducible refine below_alloc ?_ _) | (with_reducible refine below_drewN ?_ _) | (with_reducible refine Below.drew ?_) | (with_reducible refine below_then ?_ (by with_reducible assumption)) | (with_reducible refine Below.setCell ?_ (by go_size) _)))) hb1)
    clear hb1
    (obtain ⟨s0, s1, s2, sl⟩ := HS.out; go_wp2_with fail; clear s0 s1 s2 sl)
    refine (H2.out _).mono ?_
    rintro e w2 ⟨rfl, hb1⟩
    (have HS := Lib.hid (HS.out.keep hb1); have HB := Lib.hid (below_then HB.out hb1))
    clear hb1
    (obtain ⟨s0, s1, s2, sl⟩ := HS.out; go_wp2_with fail; clear s0 s1 s2 sl)
    refine (H3.out _ HB.out).mono ?_
    rintro e w3 ⟨rfl, hb1⟩
    (have HS := Lib.hid (HS.out.keep hb1); have HB := Lib.hid (below_then HB.out hb1))
    clear hb1
    (obtain ⟨s0, s1, s2, sl⟩ := HS.out; go_wp2_with fail; clear s0 s1 s2 sl)
    go_returns
    exact rse_nil _ HB.out
  · have H2 := Lib.hid (fun W => Calls.rb_eq (H2.out W) (congrArg Value.bool (decide_eq_true hn)))
    have H3 := Lib.hid (fun W h => Calls.rb_eq (H3.out W h) (congrArg Value.bool hf))
    have hl2 : (c.length : Int) = 4096 := by omega
    clear hf
    generalize c.length = N at *
    subst hl
    go_enter Tryz.func80, Tryz.ntmps80
    go_wp2_with fail
    refine (H1.out _ (by (repeat (first | (with_reducible exact Below.refl _ _) | (with_reducible assumption) | (with_reducible refine below_alloc ?_ _) | (with_reducible refine below_drewN ?_ _) | (with_reducible refine Below.drew ?_) | (with_reducible refine below_then ?_ (by with_reducible assumption)) | (with_reducible refine Below.setCell ?_ (by go_size) _))))).mono ?_
    rintro e w1 ⟨rfl, hb1⟩
    have HS := Lib.hid ((SlAt.new w 68 s).keep hb1)
    have HB := Lib.hid (below_then (show Below w.heap.size w (w.alloc (.cells #[.int .i64 s.f, .int .i64 s.t, .int .i64 s.o] 68)) by (repeat (first | (with_reducible exact Below.refl _ _) | (with_reducible assumption) | (with_reducible refine below_alloc ?_ _) | (with_reducible refine below_drewN ?_ _) | (with_reducible refine Below.drew ?_) | (with_reducible refine below_then ?_ (by with_reducible assumption)) | (with_reducible refine Below.setCell ?_ (by go_size) _)))) hb1)
    clear hb1
    (obtain ⟨s0, s1, s2, sl⟩ := HS.out; go_wp2_with fail; clear s0 s1 s2 sl)
    refine (H2.out _).mono ?_
    rintro e w2 ⟨rfl, hb1⟩
    (have HS := Lib.hid (HS.out.keep hb1); have HB := Lib.hid (below_then HB.out hb1))
    clear hb1
    (obtain ⟨s0, s1, s2, sl⟩ := HS.out; go_wp2_with fail; clear s0 s1 s2 sl)
    refine (H3.out _ HB.out).mono ?_
    rintro e w3 ⟨rfl, hb1⟩
    (have HS := Lib.hid (HS.out.keep hb1); have HB := Lib.hid (below_then HB.out hb1))
    clear hb1
    (obtain ⟨s0, s1, s2, sl⟩ := HS.out; go_wp2_with fail; clear s0 s1 s2 sl)
    go_returns
    exact rse_nil _ HB.out
theorem cal_Put (ba : Option Addr) (ca : Nat) (c : List Sl) (s : Sl) (w : World) (hc : CIn w ba c) (hna : ba = none → c.length = 0) :
    Calls Tryz.prog 80 #[.slice ba c.length ca, .agg #[.int .i64 s.f, .int .i64 s.t, .int .i64 s.o]] w (RSE w (putV c s) (putE c s)) := by
  by_cases he : putE c s = 0
  · rw [show putV c s = putL c s from if_pos he, he]
    exact cal_Put_ok ba ca c s w hc hna he
  · rw [show putV c s = [] from if_neg he]
    by_cases h0 : calE c = 0
    · refine cal_Put_no ba ca c s w hc h0 _ ?_
      by_cases hm : s.may
      · cases hf : freeB c s.f s.t
        · exact .inr (.inl ⟨hm, rfl, by unfold putE; rw [if_pos h0, if_pos hm, hf]; rfl⟩)
        · by_cases hl : c.length = 4096
          · exact .inr (.inr ⟨hm, rfl, hl, by unfold putE; rw [if_pos h0, if_pos hm, hf, if_pos rfl, if_pos hl]⟩)
          · exact absurd (by unfold putE; rw [if_pos h0, if_pos hm, hf, if_pos rfl, if_neg hl]) he
      · exact .inl ⟨hm, by unfold putE; rw [if_pos h0, if_neg hm]⟩
    · rw [show putE c s = calE c by unfold putE; rw [if_neg h0]]
      exact cal_Put_bad ba ca c s w hc h0

end
end
end Go.Proofs.YtofoenlhbmammaaGreat
