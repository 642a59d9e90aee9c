/- CAL: the chapter's C; the chapter's first examples hold. -/
import Derived.Test.YtfikgjcmnooglaaCalOwn
namespace Go.Proofs.Ytfikgjcmnooglaa
open Go.RowKit Go.Shelf

set_option maxRecDepth 100000 in set_option maxHeartbeats 4000000 in
theorem law08_slot (f t o : Int) (w : World) : Calls Try.prog 46 #[.int .i64 f, .int .i64 t, .int .i64 o] w (RB w (.agg #[.int .i64 f, .int .i64 t, .int .i64 o])) := by
  go_enter Try.func46, Try.ntmps46
  go_wp2_with fail
  exact bodyPost_ret (v := .agg #[.int .i64 f, .int .i64 t, .int .i64 o]) (by simp [results, Try.f46, go_sem]) rfl ⟨rfl, by (repeat (first | (with_reducible exact Below.refl _ _) | (with_reducible assumption) | (with_reducible refine below_alloc ?_ _) | (with_reducible refine below_drewN ?_ _) | (with_reducible refine Below.drew ?_) | (with_reducible refine below_then ?_ (by with_reducible assumption)) | (with_reducible refine Below.setCell ?_ (by go_size) _)))⟩

theorem own_made {w : World} {cur : Array Value} {e : TypeId} {size n : Nat} {xs : List Value} (hx : cur.toList = xs) (hl : xs.length = n * size) (hn : n ≤ maxLen) :
    (w.alloc (.cells cur e)).ownsRow w.heap.size e size (.slice (some ⟨w.heap.size, 0, none⟩) n n) n xs :=
  ⟨hl, .inr ⟨w.heap.size, n, cur, rfl, Nat.le_refl _, heap_alloc_new w _, Nat.le_refl _, hn, by rw [← Array.length_toList, hx, hl], by rw [hx, List.take_of_length_le (by omega)]⟩⟩
def someC : List Sl := [⟨1, 3, 7⟩, ⟨5, 9, 8⟩]
set_option maxRecDepth 100000 in set_option maxHeartbeats 4000000 in
theorem law08_some (w : World) : Calls Try.prog 45 #[] w (RS w someC) := by
  have H1 := Lib.hid (fun W => law08_slot 1 3 7 W)
  have H2 := Lib.hid (fun W => law08_slot 5 9 8 W)
  go_enter Try.func45, Try.ntmps45
  go_wp2_with fail
  refine (H1.out _).mono ?_
  rintro e w1 ⟨rfl, hb1⟩
  go_wp2_with fail
  refine (H2.out _).mono ?_
  rintro e w2 ⟨rfl, hb2⟩
  have hB := below_then hb1 hb2
  go_wp2_with fail
  go_returns
  exact ⟨_, rfl, own_mono (own_made rfl rfl (by decide)) hB.size, below_alloc hB _⟩

set_option maxRecDepth 100000 in set_option maxHeartbeats 4000000 in
theorem law08_alive (w : World) : Calls Try.prog 42 #[] w (RB w (.bool true)) := by
  have HSo := Lib.hid (fun W => law08_some W)
  have HSl := Lib.hid (fun f t o W => law08_slot f t o W)
  have p1 : putE someC ⟨3, 5, 9⟩ = 0 := by decide +kernel
  have p2 : putV someC ⟨3, 5, 9⟩ = [⟨1, 3, 7⟩, ⟨3, 5, 9⟩, ⟨5, 9, 8⟩] := by decide +kernel
  have p3 : putE someC ⟨4, 6, 9⟩ = 80 := by decide +kernel
  have p4 : nextE someC 0 2 = 0 := by decide +kernel
  have p5 : nextV someC 0 2 = 3 := by decide +kernel
  have P1 := Lib.hid (fun W v (h : CS W v someC) => by have := s_Put h ⟨3, 5, 9⟩; rw [p1, p2] at this; exact this)
  have P2 := Lib.hid (fun W v (h : CS W v someC) => by have := s_Put h ⟨4, 6, 9⟩; rw [p3] at this; exact this)
  have P3 := Lib.hid (fun W v (h : CS W v someC) => by have := s_Next h 0 2 (by decide); rw [p4, p5] at this; exact this)
  have PS := Lib.hid (fun W v u (h : CS W v [(⟨1, 3, 7⟩ : Sl), ⟨3, 5, 9⟩, ⟨5, 9, 8⟩]) (h2 : CS W u [(⟨1, 3, 7⟩ : Sl), ⟨3, 5, 9⟩, ⟨5, 9, 8⟩]) => Calls.rb_eq (s_Same h h2) (show Value.bool (decide _) = .bool true by rw [decide_eq_true rfl]))
  clear p1 p2 p3 p4 p5
  have HB := Lib.hid (Below.refl w.heap.size w)
  go_enter Try.func42, Try.ntmps42
  go_wp2_with fail
  refine (HSo.out _).mono ?_
  rintro e w1 ⟨v1, rfl, ho, hb⟩
  (have HB := Lib.hid (below_then HB.out hb); (try have HC := Lib.hid (HC.out.keep hb)); (try have HA := Lib.hid (HA.out.keep hb)); (try have HD := Lib.hid (HD.out.keep hb)); (try have HE := Lib.hid (HE.out.keep hb)))
  have HC := Lib.hid (cal_of_own ho (by decide))
  clear ho hb
  go_wp2_with fail
  refine (HSl.out 3 5 9 _).mono ?_
  rintro e w2 ⟨rfl, hb⟩
  (have HB := Lib.hid (below_then HB.out hb); (try have HC := Lib.hid (HC.out.keep hb)); (try have HA := Lib.hid (HA.out.keep hb)); (try have HD := Lib.hid (HD.out.keep hb)); (try have HE := Lib.hid (HE.out.keep hb)))
  clear hb
  go_wp2_with fail
  refine (P1.out _ _ HC.out).mono ?_
  rintro e w3 ⟨va, rfl, ho, hb⟩
  (have HB := Lib.hid (below_then HB.out hb); (try have HC := Lib.hid (HC.out.keep hb)); (try have HA := Lib.hid (HA.out.keep hb)); (try have HD := Lib.hid (HD.out.keep hb)); (try have HE := Lib.hid (HE.out.keep hb)))
  have HA := Lib.hid (cal_of_own ho (by decide))
  clear ho hb HC
  go_wp2_with fail
  refine (HSo.out _).mono ?_
  rintro e w4 ⟨v4, rfl, ho, hb⟩
  (have HB := Lib.hid (below_then HB.out hb); (try have HC := Lib.hid (HC.out.keep hb)); (try have HA := Lib.hid (HA.out.keep hb)); (try have HD := Lib.hid (HD.out.keep hb)); (try have HE := Lib.hid (HE.out.keep hb)))
  have HC := Lib.hid (cal_of_own ho (by decide))
  clear ho hb
  go_wp2_with fail
  refine (HSl.out 4 6 9 _).mono ?_
  rintro e w5 ⟨rfl, hb⟩
  (have HB := Lib.hid (below_then HB.out hb); (try have HC := Lib.hid (HC.out.keep hb)); (try have HA := Lib.hid (HA.out.keep hb)); (try have HD := Lib.hid (HD.out.keep hb)); (try have HE := Lib.hid (HE.out.keep hb)))
  clear hb
  go_wp2_with fail
  refine (P2.out _ _ HC.out).mono ?_
  rintro e w6 ⟨vb, rfl, ho, hb⟩
  (have HB := Lib.hid (below_then HB.out hb); (try have HC := Lib.hid (HC.out.keep hb)); (try have HA := Lib.hid (HA.out.keep hb)); (try have HD := Lib.hid (HD.out.keep hb)); (try have HE := Lib.hid (HE.out.keep hb)))
  clear ho hb HC
  go_wp2_with fail
  refine (HSo.out _).mono ?_
  rintro e w7 ⟨v7, rfl, ho, hb⟩
  (have HB := Lib.hid (below_then HB.out hb); (try have HC := Lib.hid (HC.out.keep hb)); (try have HA := Lib.hid (HA.out.keep hb)); (try have HD := Lib.hid (HD.out.keep hb)); (try have HE := Lib.hid (HE.out.keep hb)))
  have HC := Lib.hid (cal_of_own ho (by decide))
  clear ho hb
  go_wp2_with fail
  refine (P3.out _ _ HC.out).mono ?_
  rintro e w8 ⟨rfl, hb⟩
  (have HB := Lib.hid (below_then HB.out hb); (try have HC := Lib.hid (HC.out.keep hb)); (try have HA := Lib.hid (HA.out.keep hb)); (try have HD := Lib.hid (HD.out.keep hb)); (try have HE := Lib.hid (HE.out.keep hb)))
  clear hb HC
  go_wp2_with fail
  refine (HSl.out 1 3 7 _).mono ?_
  rintro e w9 ⟨rfl, hb⟩
  (have HB := Lib.hid (below_then HB.out hb); (try have HC := Lib.hid (HC.out.keep hb)); (try have HA := Lib.hid (HA.out.keep hb)); (try have HD := Lib.hid (HD.out.keep hb)); (try have HE := Lib.hid (HE.out.keep hb)))
  clear hb
  go_wp2_with fail
  refine (HSl.out 3 5 9 _).mono ?_
  rintro e w10 ⟨rfl, hb⟩
  (have HB := Lib.hid (below_then HB.out hb); (try have HC := Lib.hid (HC.out.keep hb)); (try have HA := Lib.hid (HA.out.keep hb)); (try have HD := Lib.hid (HD.out.keep hb)); (try have HE := Lib.hid (HE.out.keep hb)))
  clear hb
  go_wp2_with fail
  refine (HSl.out 5 9 8 _).mono ?_
  rintro e w11 ⟨rfl, hb⟩
  (have HB := Lib.hid (below_then HB.out hb); (try have HC := Lib.hid (HC.out.keep hb)); (try have HA := Lib.hid (HA.out.keep hb)); (try have HD := Lib.hid (HD.out.keep hb)); (try have HE := Lib.hid (HE.out.keep hb)))
  clear hb
  have HD := Lib.hid (cal_of_own (c := [(⟨1, 3, 7⟩ : Sl), ⟨3, 5, 9⟩, ⟨5, 9, 8⟩]) (own_made (w := w11) (cur := #[.int .i64 1, .int .i64 3, .int .i64 7, .int .i64 3, .int .i64 5, .int .i64 9, .int .i64 5, .int .i64 9, .int .i64 8]) (e := 57) (size := 3) (n := 3) rfl rfl (by decide)) (by decide))
  go_wp2_with fail
  refine (PS.out _ _ _ (HA.out.keep (by (repeat (first | (with_reducible exact Below.refl _ _) | (with_reducible assumption) | (with_reducible refine below_alloc ?_ _) | (with_reducible refine below_drewN ?_ _) | (with_reducible refine Below.drew ?_) | (with_reducible refine below_then ?_ (by with_reducible assumption)) | (with_reducible refine Below.setCell ?_ (by go_size) _))))) HD.out).mono ?_
  rintro e w12 ⟨rfl, hb⟩
  have hBf := below_then (below_alloc HB.out _) hb
  clear hb
  go_wp2_with fail
  go_returns
  exact ⟨rfl, hBf⟩
end Go.Proofs.Ytfikgjcmnooglaa
