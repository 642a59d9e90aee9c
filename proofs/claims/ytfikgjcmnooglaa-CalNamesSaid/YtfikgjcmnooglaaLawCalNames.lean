/- CalNames: the chapter's examples of calendars are so, and the errors have their numbers: the call returns true. -/
import Derived.Test.YtfikgjcmnooglaaCalAlive
import Derived.Test.YtfikgjcmnooglaaRowCal
namespace Go.Proofs.Ytfikgjcmnooglaa
open Go.ChangeShapes Go.WideShapes Go.ChangeAt Go.RowKit Go.Shelf

set_option maxRecDepth 100000 in set_option maxHeartbeats 4000000 in
theorem law08_CalNames (w : World) : Calls Try.prog 7 #[] w (RB w (.bool true)) := by
  have HAl := Lib.hid (fun W => law08_alive W)
  have HSo := Lib.hid (fun W => law08_some W)
  have HSl := Lib.hid (fun f t o W => law08_slot f t o W)
  have p1 : nextE someC 0 1 = 0 := by decide +kernel
  have p2 : nextV someC 0 1 = 0 := by decide +kernel
  have p3 : nextE someC 2 3 = 0 := by decide +kernel
  have p4 : nextV someC 2 3 = 9 := by decide +kernel
  have p5 : atE someC 2 = 0 := by decide +kernel
  have p6 : atO someC 2 = 7 := by decide +kernel
  have p7 : atE someC 3 = 6 := by decide +kernel
  have p8 : atO someC 3 = 0 := by decide +kernel
  have p9 : calE someC = 0 := by decide +kernel
  have q1 : cutV 8 6 someC = [⟨1, 3, 7⟩, ⟨5, 6, 8⟩] := by decide +kernel
  have q2 : cutV 8 5 someC = [⟨1, 3, 7⟩] := by decide +kernel
  have q3 : cutV 7 0 someC = [⟨5, 9, 8⟩] := by decide +kernel
  have K1 := Lib.hid (fun W v (h : CS W v someC) => by have := s_Next h 0 1 (by decide); rw [p1, p2] at this; exact this)
  have K2 := Lib.hid (fun W v (h : CS W v someC) => by have := s_Next h 2 3 (by decide); rw [p3, p4] at this; exact this)
  have K3 := Lib.hid (fun W v (h : CS W v someC) => by have := s_At h 2; rw [p5, p6] at this; exact this)
  have K4 := Lib.hid (fun W v (h : CS W v someC) => by have := s_At h 3; rw [p7, p8] at this; exact this)
  have K5 := Lib.hid (fun W v (h : CS W v someC) => by have := s_Cut h 8 6; rw [q1, p9] at this; exact this)
  have K6 := Lib.hid (fun W v (h : CS W v someC) => by have := s_Cut h 8 5; rw [q2, p9] at this; exact this)
  have K7 := Lib.hid (fun W v (h : CS W v someC) => by have := s_Take h 7; rw [q3, p9] at this; exact this)
  have S := fun (d : List Sl) W v u (h : CS W v d) (h2 : CS W u d) => Calls.rb_eq (s_Same h h2) (show Value.bool (decide _) = .bool true by rw [decide_eq_true rfl])
  have S1 := Lib.hid (S [⟨1, 3, 7⟩, ⟨5, 6, 8⟩])
  have S2 := Lib.hid (S [⟨1, 3, 7⟩])
  have S3 := Lib.hid (S [⟨5, 9, 8⟩])
  clear p1 p2 p3 p4 p5 p6 p7 p8 p9 q1 q2 q3 S
  have HB := Lib.hid (Below.refl w.heap.size w)
  go_enter Try.func7, Try.ntmps7
  go_wp2_with fail
  (refine (HSo.out _).mono ?_; rintro e w1 ⟨v1, rfl, ho, hb⟩; (have HB := Lib.hid (below_then HB.out hb); (try have HC := Lib.hid (HC.out.keep hb)); (try have HA := Lib.hid (HA.out.keep hb)); (try have HD := Lib.hid (HD.out.keep hb)); (try have HE := Lib.hid (HE.out.keep hb))); have HC := Lib.hid (cal_of_own ho (by decide)); clear ho hb; go_wp2_with fail)
  (refine (K1.out _ _ HC.out).mono ?_; rintro e w1 ⟨rfl, hb⟩; (have HB := Lib.hid (below_then HB.out hb); (try have HC := Lib.hid (HC.out.keep hb)); (try have HA := Lib.hid (HA.out.keep hb)); (try have HD := Lib.hid (HD.out.keep hb)); (try have HE := Lib.hid (HE.out.keep hb))); clear hb; go_wp2_with fail)
  (refine (HSo.out _).mono ?_; rintro e w1 ⟨v1, rfl, ho, hb⟩; (have HB := Lib.hid (below_then HB.out hb); (try have HC := Lib.hid (HC.out.keep hb)); (try have HA := Lib.hid (HA.out.keep hb)); (try have HD := Lib.hid (HD.out.keep hb)); (try have HE := Lib.hid (HE.out.keep hb))); have HC := Lib.hid (cal_of_own ho (by decide)); clear ho hb; go_wp2_with fail)
  (refine (K2.out _ _ HC.out).mono ?_; rintro e w1 ⟨rfl, hb⟩; (have HB := Lib.hid (below_then HB.out hb); (try have HC := Lib.hid (HC.out.keep hb)); (try have HA := Lib.hid (HA.out.keep hb)); (try have HD := Lib.hid (HD.out.keep hb)); (try have HE := Lib.hid (HE.out.keep hb))); clear hb; go_wp2_with fail)
  (refine (HSo.out _).mono ?_; rintro e w1 ⟨v1, rfl, ho, hb⟩; (have HB := Lib.hid (below_then HB.out hb); (try have HC := Lib.hid (HC.out.keep hb)); (try have HA := Lib.hid (HA.out.keep hb)); (try have HD := Lib.hid (HD.out.keep hb)); (try have HE := Lib.hid (HE.out.keep hb))); have HC := Lib.hid (cal_of_own ho (by decide)); clear ho hb; go_wp2_with fail)
  (refine (K3.out _ _ HC.out).mono ?_; rintro e w1 ⟨rfl, hb⟩; (have HB := Lib.hid (below_then HB.out hb); (try have HC := Lib.hid (HC.out.keep hb)); (try have HA := Lib.hid (HA.out.keep hb)); (try have HD := Lib.hid (HD.out.keep hb)); (try have HE := Lib.hid (HE.out.keep hb))); clear hb; go_wp2_with fail)
  (refine (HSo.out _).mono ?_; rintro e w1 ⟨v1, rfl, ho, hb⟩; (have HB := Lib.hid (below_then HB.out hb); (try have HC := Lib.hid (HC.out.keep hb)); (try have HA := Lib.hid (HA.out.keep hb)); (try have HD := Lib.hid (HD.out.keep hb)); (try have HE := Lib.hid (HE.out.keep hb))); have HC := Lib.hid (cal_of_own ho (by decide)); clear ho hb; go_wp2_with fail)
  (refine (K4.out _ _ HC.out).mono ?_; rintro e w1 ⟨rfl, hb⟩; (have HB := Lib.hid (below_then HB.out hb); (try have HC := Lib.hid (HC.out.keep hb)); (try have HA := Lib.hid (HA.out.keep hb)); (try have HD := Lib.hid (HD.out.keep hb)); (try have HE := Lib.hid (HE.out.keep hb))); clear hb; go_wp2_with fail)
  (refine (HSo.out _).mono ?_; rintro e w1 ⟨v1, rfl, ho, hb⟩; (have HB := Lib.hid (below_then HB.out hb); (try have HC := Lib.hid (HC.out.keep hb)); (try have HA := Lib.hid (HA.out.keep hb)); (try have HD := Lib.hid (HD.out.keep hb)); (try have HE := Lib.hid (HE.out.keep hb))); have HC := Lib.hid (cal_of_own ho (by decide)); clear ho hb; go_wp2_with fail)
  (refine (K5.out _ _ HC.out).mono ?_; rintro e w1 ⟨v1, rfl, ho, hb⟩; (have HB := Lib.hid (below_then HB.out hb); (try have HC := Lib.hid (HC.out.keep hb)); (try have HA := Lib.hid (HA.out.keep hb)); (try have HD := Lib.hid (HD.out.keep hb)); (try have HE := Lib.hid (HE.out.keep hb))); have HA := Lib.hid (cal_of_own ho (by decide)); clear ho hb; go_wp2_with fail)
  (refine (HSo.out _).mono ?_; rintro e w1 ⟨v1, rfl, ho, hb⟩; (have HB := Lib.hid (below_then HB.out hb); (try have HC := Lib.hid (HC.out.keep hb)); (try have HA := Lib.hid (HA.out.keep hb)); (try have HD := Lib.hid (HD.out.keep hb)); (try have HE := Lib.hid (HE.out.keep hb))); have HC := Lib.hid (cal_of_own ho (by decide)); clear ho hb; go_wp2_with fail)
  (refine (K6.out _ _ HC.out).mono ?_; rintro e w1 ⟨v1, rfl, ho, hb⟩; (have HB := Lib.hid (below_then HB.out hb); (try have HC := Lib.hid (HC.out.keep hb)); (try have HA := Lib.hid (HA.out.keep hb)); (try have HD := Lib.hid (HD.out.keep hb)); (try have HE := Lib.hid (HE.out.keep hb))); have HD := Lib.hid (cal_of_own ho (by decide)); clear ho hb; go_wp2_with fail)
  (refine (HSo.out _).mono ?_; rintro e w1 ⟨v1, rfl, ho, hb⟩; (have HB := Lib.hid (below_then HB.out hb); (try have HC := Lib.hid (HC.out.keep hb)); (try have HA := Lib.hid (HA.out.keep hb)); (try have HD := Lib.hid (HD.out.keep hb)); (try have HE := Lib.hid (HE.out.keep hb))); have HC := Lib.hid (cal_of_own ho (by decide)); clear ho hb; go_wp2_with fail)
  (refine (K7.out _ _ HC.out).mono ?_; rintro e w1 ⟨v1, rfl, ho, hb⟩; (have HB := Lib.hid (below_then HB.out hb); (try have HC := Lib.hid (HC.out.keep hb)); (try have HA := Lib.hid (HA.out.keep hb)); (try have HD := Lib.hid (HD.out.keep hb)); (try have HE := Lib.hid (HE.out.keep hb))); have HE := Lib.hid (cal_of_own ho (by decide)); clear ho hb; go_wp2_with fail)
  (refine (HAl.out _).mono ?_; rintro e w1 ⟨rfl, hb⟩; (have HB := Lib.hid (below_then HB.out hb); (try have HC := Lib.hid (HC.out.keep hb)); (try have HA := Lib.hid (HA.out.keep hb)); (try have HD := Lib.hid (HD.out.keep hb)); (try have HE := Lib.hid (HE.out.keep hb))); clear hb; go_wp2_with fail)
  (refine (HSl.out 1 3 7 _).mono ?_; rintro e w1 ⟨rfl, hb⟩; (have HB := Lib.hid (below_then HB.out hb); (try have HC := Lib.hid (HC.out.keep hb)); (try have HA := Lib.hid (HA.out.keep hb)); (try have HD := Lib.hid (HD.out.keep hb)); (try have HE := Lib.hid (HE.out.keep hb))); clear hb; go_wp2_with fail)
  (refine (HSl.out 5 6 8 _).mono ?_; rintro e w1 ⟨rfl, hb⟩; (have HB := Lib.hid (below_then HB.out hb); (try have HC := Lib.hid (HC.out.keep hb)); (try have HA := Lib.hid (HA.out.keep hb)); (try have HD := Lib.hid (HD.out.keep hb)); (try have HE := Lib.hid (HE.out.keep hb))); clear hb)
  have HX := Lib.hid (cal_of_own (c := [(⟨1, 3, 7⟩ : Sl), ⟨5, 6, 8⟩]) (own_made (w := w1) (cur := #[.int .i64 1, .int .i64 3, .int .i64 7, .int .i64 5, .int .i64 6, .int .i64 8]) (e := 57) (size := 3) (n := 2) rfl rfl (by decide)) (by decide))
  (have HB := Lib.hid (below_then HB.out (show Below w1.heap.size w1 (w1.alloc (.cells #[.int .i64 1, .int .i64 3, .int .i64 7, .int .i64 5, .int .i64 6, .int .i64 8] 57)) by (repeat (first | (with_reducible exact Below.refl _ _) | (with_reducible assumption) | (with_reducible refine below_alloc ?_ _) | (with_reducible refine below_drewN ?_ _) | (with_reducible refine Below.drew ?_) | (with_reducible refine below_then ?_ (by with_reducible assumption)) | (with_reducible refine Below.setCell ?_ (by go_size) _))))); (try have HC := Lib.hid (HC.out.keep (show Below w1.heap.size w1 (w1.alloc (.cells #[.int .i64 1, .int .i64 3, .int .i64 7, .int .i64 5, .int .i64 6, .int .i64 8] 57)) by (repeat (first | (with_reducible exact Below.refl _ _) | (with_reducible assumption) | (with_reducible refine below_alloc ?_ _) | (with_reducible refine below_drewN ?_ _) | (with_reducible refine Below.drew ?_) | (with_reducible refine below_then ?_ (by with_reducible assumption)) | (with_reducible refine Below.setCell ?_ (by go_size) _)))))); (try have HA := Lib.hid (HA.out.keep (show Below w1.heap.size w1 (w1.alloc (.cells #[.int .i64 1, .int .i64 3, .int .i64 7, .int .i64 5, .int .i64 6, .int .i64 8] 57)) by (repeat (first | (with_reducible exact Below.refl _ _) | (with_reducible assumption) | (with_reducible refine below_alloc ?_ _) | (with_reducible refine below_drewN ?_ _) | (with_reducible refine Below.drew ?_) | (with_reducible refine below_then ?_ (by with_reducible assumption)) | (with_reducible refine Below.setCell ?_ (by go_size) _)))))); (try have HD := Lib.hid (HD.out.keep (show Below w1.heap.size w1 (w1.alloc (.cells #[.int .i64 1, .int .i64 3, .int .i64 7, .int .i64 5, .int .i64 6, .int .i64 8] 57)) by (repeat (first | (with_reducible exact Below.refl _ _) | (with_reducible assumption) | (with_reducible refine below_alloc ?_ _) | (with_reducible refine below_drewN ?_ _) | (with_reducible refine Below.drew ?_) | (with_reducible refine below_then ?_ (by with_reducible assumption)) | (with_reducible refine Below.setCell ?_ (by go_size) _)))))); (try have HE := Lib.hid (HE.out.keep (show Below w1.heap.size w1 (w1.alloc (.cells #[.int .i64 1, .int .i64 3, .int .i64 7, .int .i64 5, .int .i64 6, .int .i64 8] 57)) by (repeat (first | (with_reducible exact Below.refl _ _) | (with_reducible assumption) | (with_reducible refine below_alloc ?_ _) | (with_reducible refine below_drewN ?_ _) | (with_reducible refine Below.drew ?_) | (with_reducible refine below_then ?_ (by with_reducible assumption)) | (with_reducible refine Below.setCell ?_ (by go_size) _)))))))
  go_wp2_with fail
  (refine (S1.out _ _ _ HA.out HX.out).mono ?_; rintro e w1 ⟨rfl, hb⟩; (have HB := Lib.hid (below_then HB.out hb); (try have HC := Lib.hid (HC.out.keep hb)); (try have HA := Lib.hid (HA.out.keep hb)); (try have HD := Lib.hid (HD.out.keep hb)); (try have HE := Lib.hid (HE.out.keep hb))); clear hb; go_wp2_with fail)
  (refine (HSl.out 1 3 7 _).mono ?_; rintro e w1 ⟨rfl, hb⟩; (have HB := Lib.hid (below_then HB.out hb); (try have HC := Lib.hid (HC.out.keep hb)); (try have HA := Lib.hid (HA.out.keep hb)); (try have HD := Lib.hid (HD.out.keep hb)); (try have HE := Lib.hid (HE.out.keep hb))); clear hb)
  have HX := Lib.hid (cal_of_own (c := [(⟨1, 3, 7⟩ : Sl)]) (own_made (w := w1) (cur := #[.int .i64 1, .int .i64 3, .int .i64 7]) (e := 57) (size := 3) (n := 1) rfl rfl (by decide)) (by decide))
  (have HB := Lib.hid (below_then HB.out (show Below w1.heap.size w1 (w1.alloc (.cells #[.int .i64 1, .int .i64 3, .int .i64 7] 57)) by (repeat (first | (with_reducible exact Below.refl _ _) | (with_reducible assumption) | (with_reducible refine below_alloc ?_ _) | (with_reducible refine below_drewN ?_ _) | (with_reducible refine Below.drew ?_) | (with_reducible refine below_then ?_ (by with_reducible assumption)) | (with_reducible refine Below.setCell ?_ (by go_size) _))))); (try have HC := Lib.hid (HC.out.keep (show Below w1.heap.size w1 (w1.alloc (.cells #[.int .i64 1, .int .i64 3, .int .i64 7] 57)) by (repeat (first | (with_reducible exact Below.refl _ _) | (with_reducible assumption) | (with_reducible refine below_alloc ?_ _) | (with_reducible refine below_drewN ?_ _) | (with_reducible refine Below.drew ?_) | (with_reducible refine below_then ?_ (by with_reducible assumption)) | (with_reducible refine Below.setCell ?_ (by go_size) _)))))); (try have HA := Lib.hid (HA.out.keep (show Below w1.heap.size w1 (w1.alloc (.cells #[.int .i64 1, .int .i64 3, .int .i64 7] 57)) by (repeat (first | (with_reducible exact Below.refl _ _) | (with_reducible assumption) | (with_reducible refine below_alloc ?_ _) | (with_reducible refine below_drewN ?_ _) | (with_reducible refine Below.drew ?_) | (with_reducible refine below_then ?_ (by with_reducible assumption)) | (with_reducible refine Below.setCell ?_ (by go_size) _)))))); (try have HD := Lib.hid (HD.out.keep (show Below w1.heap.size w1 (w1.alloc (.cells #[.int .i64 1, .int .i64 3, .int .i64 7] 57)) by (repeat (first | (with_reducible exact Below.refl _ _) | (with_reducible assumption) | (with_reducible refine below_alloc ?_ _) | (with_reducible refine below_drewN ?_ _) | (with_reducible refine Below.drew ?_) | (with_reducible refine below_then ?_ (by with_reducible assumption)) | (with_reducible refine Below.setCell ?_ (by go_size) _)))))); (try have HE := Lib.hid (HE.out.keep (show Below w1.heap.size w1 (w1.alloc (.cells #[.int .i64 1, .int .i64 3, .int .i64 7] 57)) by (repeat (first | (with_reducible exact Below.refl _ _) | (with_reducible assumption) | (with_reducible refine below_alloc ?_ _) | (with_reducible refine below_drewN ?_ _) | (with_reducible refine Below.drew ?_) | (with_reducible refine below_then ?_ (by with_reducible assumption)) | (with_reducible refine Below.setCell ?_ (by go_size) _)))))))
  go_wp2_with fail
  (refine (S2.out _ _ _ HD.out HX.out).mono ?_; rintro e w1 ⟨rfl, hb⟩; (have HB := Lib.hid (below_then HB.out hb); (try have HC := Lib.hid (HC.out.keep hb)); (try have HA := Lib.hid (HA.out.keep hb)); (try have HD := Lib.hid (HD.out.keep hb)); (try have HE := Lib.hid (HE.out.keep hb))); clear hb; go_wp2_with fail)
  (refine (HSl.out 5 9 8 _).mono ?_; rintro e w1 ⟨rfl, hb⟩; (have HB := Lib.hid (below_then HB.out hb); (try have HC := Lib.hid (HC.out.keep hb)); (try have HA := Lib.hid (HA.out.keep hb)); (try have HD := Lib.hid (HD.out.keep hb)); (try have HE := Lib.hid (HE.out.keep hb))); clear hb)
  have HX := Lib.hid (cal_of_own (c := [(⟨5, 9, 8⟩ : Sl)]) (own_made (w := w1) (cur := #[.int .i64 5, .int .i64 9, .int .i64 8]) (e := 57) (size := 3) (n := 1) rfl rfl (by decide)) (by decide))
  (have HB := Lib.hid (below_then HB.out (show Below w1.heap.size w1 (w1.alloc (.cells #[.int .i64 5, .int .i64 9, .int .i64 8] 57)) by (repeat (first | (with_reducible exact Below.refl _ _) | (with_reducible assumption) | (with_reducible refine below_alloc ?_ _) | (with_reducible refine below_drewN ?_ _) | (with_reducible refine Below.drew ?_) | (with_reducible refine below_then ?_ (by with_reducible assumption)) | (with_reducible refine Below.setCell ?_ (by go_size) _))))); (try have HC := Lib.hid (HC.out.keep (show Below w1.heap.size w1 (w1.alloc (.cells #[.int .i64 5, .int .i64 9, .int .i64 8] 57)) by (repeat (first | (with_reducible exact Below.refl _ _) | (with_reducible assumption) | (with_reducible refine below_alloc ?_ _) | (with_reducible refine below_drewN ?_ _) | (with_reducible refine Below.drew ?_) | (with_reducible refine below_then ?_ (by with_reducible assumption)) | (with_reducible refine Below.setCell ?_ (by go_size) _)))))); (try have HA := Lib.hid (HA.out.keep (show Below w1.heap.size w1 (w1.alloc (.cells #[.int .i64 5, .int .i64 9, .int .i64 8] 57)) by (repeat (first | (with_reducible exact Below.refl _ _) | (with_reducible assumption) | (with_reducible refine below_alloc ?_ _) | (with_reducible refine below_drewN ?_ _) | (with_reducible refine Below.drew ?_) | (with_reducible refine below_then ?_ (by with_reducible assumption)) | (with_reducible refine Below.setCell ?_ (by go_size) _)))))); (try have HD := Lib.hid (HD.out.keep (show Below w1.heap.size w1 (w1.alloc (.cells #[.int .i64 5, .int .i64 9, .int .i64 8] 57)) by (repeat (first | (with_reducible exact Below.refl _ _) | (with_reducible assumption) | (with_reducible refine below_alloc ?_ _) | (with_reducible refine below_drewN ?_ _) | (with_reducible refine Below.drew ?_) | (with_reducible refine below_then ?_ (by with_reducible assumption)) | (with_reducible refine Below.setCell ?_ (by go_size) _)))))); (try have HE := Lib.hid (HE.out.keep (show Below w1.heap.size w1 (w1.alloc (.cells #[.int .i64 5, .int .i64 9, .int .i64 8] 57)) by (repeat (first | (with_reducible exact Below.refl _ _) | (with_reducible assumption) | (with_reducible refine below_alloc ?_ _) | (with_reducible refine below_drewN ?_ _) | (with_reducible refine Below.drew ?_) | (with_reducible refine below_then ?_ (by with_reducible assumption)) | (with_reducible refine Below.setCell ?_ (by go_size) _)))))))
  go_wp2_with fail
  (refine (S3.out _ _ _ HE.out HX.out).mono ?_; rintro e w1 ⟨rfl, hb⟩; (have HB := Lib.hid (below_then HB.out hb); (try have HC := Lib.hid (HC.out.keep hb)); (try have HA := Lib.hid (HA.out.keep hb)); (try have HD := Lib.hid (HD.out.keep hb)); (try have HE := Lib.hid (HE.out.keep hb))); clear hb; go_wp2_with fail)
  go_returns
  exact ⟨rfl, HB.out⟩

set_option maxRecDepth 100000 in set_option maxHeartbeats 4000000 in
theorem lift_calNames (os : Os) (started : os.Started) (H : Type) (enc : TypeId × Value → H) :
    ReturnsInHanded {} Try.checked os 7 .any (Rows.calNamesSpec.pre6 enc Try.prog Try.f7 Rows.calNamesRow.domain false) (Rows.calNamesSpec.post enc Try.prog Try.f7 false true false false) := by
  refine returnsInHanded_of_change (C := Try.checked) ownKnob0 started (by kernel_rfl) Try.func7
    (ChangeSpec.witness6 (enc := enc) (C := Try.checked) false ⟨#[], #[], []⟩ 8 (by kernel_rfl) (by kernel_rfl) (by kernel_rfl) (by kernel_rfl)) ?_
  intro W base args ds gs before hval0 hW hcnd _
  have hval : ∀ (j : Nat) t v, Try.f7.params[j]? = some t → args[j]? = some v → Value.okWide Try.prog W .any base t v := hval0
  have hW' := hW
  obtain ⟨p, q, hA0, hV, rfl, hfz, hnd⟩ := hW
  have hA : DataW.TrodAll enc Try.prog W 0 (fun _ => true) true Try.f7.params.toList args.toList ds p := hA0
  rw [Try.params7] at hA hval
  have hK := hA
  obtain ⟨rfl, rfl, rfl⟩ := trodAll_none hA
  obtain ⟨rfl, rfl⟩ := trodVars_none hV
  clear hA0 hval0
  simp only [List.append_nil] at hW' hK
  refine (law08_CalNames W).mono fun e W' ⟨he, bel⟩ => ?_
  subst he
  refine ⟨_, rfl, _, _, _, [], _, [], hW', trodAll_mk1 (shut_bool Try.underlying4 _), trodAll_below bel _ _ _ _ ?_ hK, rfl, bel.frame _, fun h => by cases h⟩
  intro t ht
  simp at ht <;> (rcases ht with rfl <;> exact ⟨by kernel_rfl, of_decide_eq_true (by kernel_rfl)⟩)

theorem holds_calNames : Rows.calNamesRow.holds Try.pinned (OpenSpec.ofChange Rows.calNamesSpec) :=
  OpenClaim.holds_of_wide 7 Try.f7 rfl rfl rfl rfl rfl rfl rfl ⟨rfl, rfl, rfl, rfl, rfl⟩ rfl rfl rfl rfl rfl (by kernel_rfl) Try.func7 (by kernel_rfl)
    (of_decide_eq_true (by kernel_rfl)) (by unfold Func.isWrapper; first | (rw [if_pos (by decide +kernel)]; kernel_rfl) | (rw [if_neg (by decide +kernel)]; exact ⟨rfl, rfl⟩))
    (fun os started H enc _ => lift_calNames os started H enc)

theorem CalNames_holds : Rows.CalNamesSaid := holds_calNames
end Go.Proofs.Ytfikgjcmnooglaa
