/- FAULT: lists of the call's own; a number is marked. -/
import Derived.Test.YthabpiphfaedaaaDoorQ0Fault4
namespace Go.Proofs.YthabpiphfaedaaaDoor

section
open Go.RowKit Go.Shelf

/-- A list's slice, whole. -/
structure LS (W : World) (v : Value) (l : List Int) : Prop where
  ex : ∃ base cap, v = .slice base l.length cap ∧ IIn W base l ∧ (base = none → l.length = 0)
theorem LS.keep {w W : World} {v : Value} {l : List Int} (h : LS w v l) (hb : Below w.heap.size w W) : LS W v l := by
  obtain ⟨base, cap, e, h1, h2⟩ := h.ex
  exact ⟨base, cap, e, h1.keep hb, h2⟩
theorem list_of_own' {W : World} {B : Nat} {v : Value} {l : List Int} (h : W.ownsRow B 3 1 v l.length (ic l)) (hl : l.length ≤ 30000) : LS W v l := by
  have h' := h
  rcases h.2 with ⟨rfl, hz⟩ | ⟨g, cap, cur, rfl, _⟩
  · obtain ⟨base, cap, e, rd, hc⟩ := own_rd h'
    obtain rfl : l = [] := List.eq_nil_of_length_eq_zero hz
    cases e
    exact ⟨none, 0, rfl, ⟨rd, hl⟩, fun _ => rfl⟩
  · obtain ⟨base, cap', e, rd, hc⟩ := own_rd h'
    cases e
    exact ⟨_, cap, rfl, ⟨rd, hl⟩, fun h => by cases h⟩
theorem own_made1 {w : World} {cur : Array Value} {e : TypeId} {size n : Nat} {xs : List Value} (hx : cur.toList = xs) (hl : xs.length = n * size) (hn : n ≤ maxLen) :
    (w.alloc (.cells cur e)).ownsRow w.heap.size e size (.slice (some ⟨w.heap.size, 0, none⟩) n n) n xs :=
  ⟨hl, .inr ⟨w.heap.size, n, cur, rfl, Nat.le_refl _, heap_alloc_new w _, Nat.le_refl _, hn, by rw [← Array.length_toList, hx, hl], by rw [hx, List.take_of_length_le (by omega)]⟩⟩
section
variable {w : World} {v u : Value} {c d : List Int} (h : LS w v c) (hd : LS w u d)
include h
theorem s_Mark (n k : Int) : Calls Tryd.prog 72 #[.int .i64 n, v, .int .i64 k] w (RLF w (markV n c k) (markE n c k)) := by
  obtain ⟨base, cap, rfl, h1, h2⟩ := h.ex
  exact fault_Mark n base cap c k w h1 h2
include hd
theorem s_same : Calls Tryd.prog 40 #[v, u] w (RB w (.bool (decide (c = d)))) := by
  obtain ⟨base, cap, rfl, h1, h2⟩ := h.ex
  obtain ⟨base', cap', rfl, h1', h2'⟩ := hd.ex
  exact same_law base base' cap cap' c d w h1 h1'
end
theorem markV_len (n : Int) (l : List Int) (k : Int) : (markV n l k).length ≤ l.length + 1 := by
  unfold markV
  split
  · rw [insL_len]; exact Nat.le_refl _
  · exact Nat.zero_le _
theorem clearV_len (n : Int) (l : List Int) (k : Int) : (clearV n l k).length ≤ l.length := by
  unfold clearV delL
  split
  · simp; omega
  · exact Nat.zero_le _
set_option maxRecDepth 100000 in set_option maxHeartbeats 4000000 in
theorem law17_alive (w : World) : Calls Tryd.prog 37 #[] w (RB w (.bool true)) := by
  have p1 : markE 8 [1, 5] 3 = 0 := by decide +kernel
  have p2 : markV 8 [1, 5] 3 = [1, 3, 5] := by decide +kernel
  have P1 := Lib.hid (fun W v (h : LS W v [1, 5]) => by have := s_Mark h 8 3; rw [p1, p2] at this; exact this)
  have PS := Lib.hid (fun W v u (h : LS W v [1, 3, 5]) (h2 : LS W u [1, 3, 5]) => Calls.rb_eq (s_same h h2) (show Value.bool (decide _) = .bool true by rw [decide_eq_true rfl]))
  clear p1 p2
  have HB := Lib.hid (Below.refl w.heap.size w)
  have HC := Lib.hid (list_of_own' (l := [1, 5]) (own_made1 (w := w) (cur := #[.int .i64 1, .int .i64 5]) (e := 3) (size := 1) (n := 2) rfl rfl (by decide)) (by decide))
  go_enter Tryd.func37, Tryd.ntmps37
  go_wp2_with fail
  refine (P1.out _ _ HC.out).mono ?_
  rintro e w1 ⟨v, rfl, ho, hb⟩
  have HB := Lib.hid (below_then (show Below w.heap.size w _ by (repeat (first | (with_reducible exact Below.refl _ _) | (with_reducible assumption) | (with_reducible refine below_alloc ?_ _) | (with_reducible refine below_drewN ?_ _) | (with_reducible refine Below.drew ?_) | (with_reducible refine below_then ?_ (by with_reducible assumption)) | (with_reducible refine Below.setCell ?_ (by go_size) _)))) hb)
  have HA := Lib.hid (list_of_own' ho (by decide))
  clear ho hb HC
  have HD := Lib.hid (list_of_own' (l := [1, 3, 5]) (own_made1 (w := w1) (cur := #[.int .i64 1, .int .i64 3, .int .i64 5]) (e := 3) (size := 1) (n := 3) rfl rfl (by decide)) (by decide))
  go_wp2_with fail
  refine (PS.out _ _ _ (HA.out.keep (by (repeat (first | (with_reducible exact Below.refl _ _) | (with_reducible assumption) | (with_reducible refine below_alloc ?_ _) | (with_reducible refine below_drewN ?_ _) | (with_reducible refine Below.drew ?_) | (with_reducible refine below_then ?_ (by with_reducible assumption)) | (with_reducible refine Below.setCell ?_ (by go_size) _))))) HD.out).mono ?_
  rintro e w2 ⟨rfl, hb⟩
  have hBf := below_then (below_alloc HB.out _) hb
  clear hb
  go_wp2_with fail
  go_returns
  exact ⟨rfl, hBf⟩
end
end Go.Proofs.YthabpiphfaedaaaDoor
