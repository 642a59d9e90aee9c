/- CAL: Put. -/
import Derived.Test.YtfikgjcmnooglaaIns3
import Derived.Test.YtfikgjcmnooglaaCut2
import Derived.Test.YtfikgjcmnooglaaPutLaw
import Derived.Deep.DeepCutAuto
import Derived.Deep.RegionHeld3
namespace Go.Proofs.Ytfikgjcmnooglaa
open Go.RowKit Go.Shelf

/-- A slot lies in a block. -/
structure SlAt (w : World) (B : Nat) (s : Sl) : Prop where
  c0 : w.cell? ⟨B, 0, none⟩ = some (.int .i64 s.f)
  c1 : w.cell? ⟨B, 1, none⟩ = some (.int .i64 s.t)
  c2 : w.cell? ⟨B, 2, none⟩ = some (.int .i64 s.o)
  lt : B < w.heap.size
theorem SlAt.keep {w W : World} {B : Nat} {s : Sl} (h : SlAt w B s) (hb : Below w.heap.size w W) : SlAt W B s := by
  obtain ⟨hc, _⟩ := bcell hb
  exact ⟨by rw [hc _ _ h.lt]; exact h.c0, by rw [hc _ _ h.lt]; exact h.c1, by rw [hc _ _ h.lt]; exact h.c2, Nat.lt_of_lt_of_le h.lt hb.size⟩
theorem SlAt.new (w : World) (t : TypeId) (s : Sl) : SlAt (w.alloc (.cells #[.int .i64 s.f, .int .i64 s.t, .int .i64 s.o] t)) w.heap.size s :=
  ⟨(Blk.new w t #[.int .i64 s.f, .int .i64 s.t, .int .i64 s.o]).cell 0 _ rfl, (Blk.new w t #[.int .i64 s.f, .int .i64 s.t, .int .i64 s.o]).cell 1 _ rfl, (Blk.new w t #[.int .i64 s.f, .int .i64 s.t, .int .i64 s.o]).cell 2 _ rfl, (Blk.new w t #[.int .i64 s.f, .int .i64 s.t, .int .i64 s.o]).lt⟩
set_option maxRecDepth 100000 in set_option maxHeartbeats 4000000 in
theorem cal_Put_ok (ba : Option Addr) (ca : Nat) (c : List Sl) (s : Sl) (w : World) (hc : CIn w ba c) (hna : ba = none → c.length = 0) (he : putE c s = 0) :
    Calls Try.prog 34 #[.slice ba c.length ca, .agg #[.int .i64 s.f, .int .i64 s.t, .int .i64 s.o]] w (RSE w (putL c s) 0) := by
  obtain ⟨h0, h1, h2, h3⟩ := putE_0 he
  have hch := (calE_ok h0).1
  have H1 := Lib.hid (fun W (h : Below w.heap.size w W) => by have := cal_Check ba ca c W (hc.keep h); rw [h0] at this; exact this)
  have H2 := Lib.hid (fun W => by have := cal_may s W; rw [decide_eq_true h1] at this; exact this)
  have H3 := Lib.hid (fun W (h : Below w.heap.size w W) => by have := cal_free ba ca c s.f s.t W (hc.keep h) hch; rw [h2] at this; exact this)
  have H4 := Lib.hid (fun W (h : Below w.heap.size w W) => slices_Clone ba ca c W (hc.keep h).rd hna hc.len)
  have H5 := Lib.hid (fun W (h : Below w.heap.size w W) => cal_after ba ca c s.f W (hc.keep h) hch)
  have hal := aft_le c s.f
  have H6 := Lib.hid (fun B v vb ty W hB ho hs hne => slices_Insert B v c (aft c s.f) s vb ty W hB ho hal (by omega) hs hne)
  have HP := Lib.hid (show putL c s = c.take (aft c s.f) ++ s :: c.drop (aft c s.f) from rfl)
  rw [← HP.out] at H6
  obtain ⟨n, hn⟩ : ∃ n, n = c.length := ⟨_, rfl⟩
  have hne : (n : Int) ≠ 4096 := by omega
  clear hc hch h0 h1 h2 he hna
  generalize aft c s.f = m at *
  go_enter Try.func34, Try.ntmps34
  go_wp2_with fail
  refine (H1.out _ (by (repeat (first | (with_reducible exact Below.refl _ _) | (with_reducible assumption) | (with_reducible refine below_alloc ?_ _) | (with_reducible refine below_drewN ?_ _) | (with_reducible refine Below.drew ?_) | (with_reducible refine below_then ?_ (by with_reducible assumption)) | (with_reducible refine Below.setCell ?_ (by go_size) _))))).mono ?_
  rintro e w1 ⟨rfl, hb1⟩
  have HS := Lib.hid ((SlAt.new w 57 s).keep hb1)
  have HB := Lib.hid (below_then (show Below w.heap.size w (w.alloc (.cells #[.int .i64 s.f, .int .i64 s.t, .int .i64 s.o] 57)) by (repeat (first | (with_reducible exact Below.refl _ _) | (with_reducible assumption) | (with_reducible refine below_alloc ?_ _) | (with_reducible refine below_drewN ?_ _) | (with_reducible refine Below.drew ?_) | (with_reducible refine below_then ?_ (by with_reducible assumption)) | (with_reducible refine Below.setCell ?_ (by go_size) _)))) hb1)
  clear hb1
  (obtain ⟨s0, s1, s2, sl⟩ := HS.out; go_wp2_with fail; clear s0 s1 s2 sl)
  refine (H2.out _).mono ?_
  rintro e w2 ⟨rfl, hb1⟩
  (have HS := Lib.hid (HS.out.keep hb1); have HB := Lib.hid (below_then HB.out hb1))
  clear hb1
  (obtain ⟨s0, s1, s2, sl⟩ := HS.out; go_wp2_with fail; clear s0 s1 s2 sl)
  refine (H3.out _ HB.out).mono ?_
  rintro e w3 ⟨rfl, hb1⟩
  (have HS := Lib.hid (HS.out.keep hb1); have HB := Lib.hid (below_then HB.out hb1))
  clear hb1
  (obtain ⟨s0, s1, s2, sl⟩ := HS.out; go_wp2_with fail; clear s0 s1 s2 sl)
  have H4 := Lib.hid (fun W (h : Below w3.heap.size w3 W) => H4.out W (below_then HB.out h))
  have H5 := Lib.hid (fun W (h : Below w3.heap.size w3 W) => H5.out W (below_then HB.out h))
  have HS2 := HS
  obtain ⟨s0, s1, s2, sl⟩ := HS2.out
  have mixed : Try.prog.follows .mixedOrders = true := by kernel_rfl
  go_region_held3 (fun W => W.cell? ⟨w.heap.size, 0, none⟩ = some (.int .i64 s.f) ∧ W.cell? ⟨w.heap.size, 1, none⟩ = some (.int .i64 s.t) ∧ W.cell? ⟨w.heap.size, 2, none⟩ = some (.int .i64 s.o)) (go_keep)
    (first
      | (go_at_call 94; refine (H4.out _ (by (repeat (first | (with_reducible exact Below.refl _ _) | (with_reducible assumption) | (with_reducible refine below_alloc ?_ _) | (with_reducible refine below_drewN ?_ _) | (with_reducible refine Below.drew ?_) | (with_reducible refine below_then ?_ (by with_reducible assumption)) | (with_reducible refine Below.setCell ?_ (by go_size) _))))).mono ?_; rintro e wa ⟨va, rfl, hoa, hba⟩; have hlo := hoa.lt; have hza := hba.size; (try simp at hza hlo); have hBa := below_then (show Below w3.heap.size w3 _ by (repeat (first | (with_reducible exact Below.refl _ _) | (with_reducible assumption) | (with_reducible refine below_alloc ?_ _) | (with_reducible refine below_drewN ?_ _) | (with_reducible refine Below.drew ?_) | (with_reducible refine below_then ?_ (by with_reducible assumption)) | (with_reducible refine Below.setCell ?_ (by go_size) _)))) hba; have hown := own_mono hoa (show w3.heap.size ≤ _ by first | omega | (simp <;> omega)); clear hoa; obtain ⟨ka0, ka1, ka2, ska⟩ := HS.out.keep hBa)
      | (go_at_call 82; refine (H5.out _ (by (repeat (first | (with_reducible exact Below.refl _ _) | (with_reducible assumption) | (with_reducible refine below_alloc ?_ _) | (with_reducible refine below_drewN ?_ _) | (with_reducible refine Below.drew ?_) | (with_reducible refine below_then ?_ (by with_reducible assumption)) | (with_reducible refine Below.setCell ?_ (by go_size) _))))).mono ?_; rintro e wb ⟨rfl, hbb⟩; have hzb := hbb.size; (try simp at hzb); have hBb := below_then (show Below w3.heap.size w3 _ by (repeat (first | (with_reducible exact Below.refl _ _) | (with_reducible assumption) | (with_reducible refine below_alloc ?_ _) | (with_reducible refine below_drewN ?_ _) | (with_reducible refine Below.drew ?_) | (with_reducible refine below_then ?_ (by with_reducible assumption)) | (with_reducible refine Below.setCell ?_ (by go_size) _)))) hbb; obtain ⟨kb0, kb1, kb2, skb⟩ := HS.out.keep hBb)
      | (go_at_call 93; refine (H6.out w3.heap.size _ _ 57 _ (by first | omega | (simp <;> omega)) (by (repeat (first | (with_reducible assumption) | (refine World.ownsRow.alloc ?_ _) | (refine own_keep ?_ hbb)))) (by (repeat (first | (exact Blk.new _ _ _) | (refine Blk.below ?_ hbb) | (refine Blk.below ?_ hba)))) (by intro e; have := hlo _ e; first | omega | (simp at this <;> omega))).mono ?_; rintro e wi ⟨vi, rfl, hoi, hbi⟩; have hBi := (show Below w3.heap.size w3 _ by (repeat (first | (with_reducible exact Below.refl _ _) | (with_reducible assumption) | (with_reducible refine below_alloc ?_ _) | (with_reducible refine below_drewN ?_ _) | (with_reducible refine Below.drew ?_) | (with_reducible refine below_then ?_ (by with_reducible assumption)) | (with_reducible refine Below.setCell ?_ (by go_size) _)))).trans hbi; obtain ⟨ki0, ki1, ki2, ski⟩ := HS.out.keep hBi))
  all_goals go_wp2_with fail
  all_goals go_returns
  all_goals exact ⟨_, rfl, own_mono hoi HB.out.size, below_then HB.out hBi⟩
end Go.Proofs.Ytfikgjcmnooglaa
