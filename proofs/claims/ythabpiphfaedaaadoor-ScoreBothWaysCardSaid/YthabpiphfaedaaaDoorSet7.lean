/- REF 03: sets joined, met, within; SET: met, within. -/
import Derived.Test.YthabpiphfaedaaaDoorSet6
namespace Go.Proofs.YthabpiphfaedaaaDoor
open Go.RowKit Go.Shelf

theorem set_of_own {W : World} {B : Nat} {v : Value} {ws : List Nat} (h : W.ownsRow B 63 1 v ws.length (wcells ws)) (hl : ws.length ≤ 4611686018427387904) (hf : W64 ws) :
    ∃ base cap, v = .slice base ws.length cap ∧ SetIn W base ws ∧ ws.length ≤ cap := by
  obtain ⟨base, cap, rfl, rd, hc⟩ := own_rd h
  exact ⟨base, cap, rfl, ⟨rd, hl, hf⟩, hc⟩

theorem mem_zipWith {f : Nat → Nat → Nat} {a b : List Nat} {x : Nat} (h : x ∈ List.zipWith f a b) : ∃ p ∈ a, ∃ q ∈ b, x = f p q := by
  obtain ⟨i, hi, rfl⟩ := List.mem_iff_getElem.1 h
  rw [List.length_zipWith] at hi
  exact ⟨a[i], List.getElem_mem _, b[i], List.getElem_mem _, by simp⟩
theorem zip_fit {f : Nat → Nat → Nat} {a b : List Nat} (hf : ∀ x y, x < 2 ^ 64 → y < 2 ^ 64 → f x y < 2 ^ 64) (ha : W64 a) (hb : W64 b) : W64 (List.zipWith f a b) := by
  intro x hx
  obtain ⟨p, hp, q, hq, rfl⟩ := mem_zipWith hx
  exact hf p q (ha p hp) (hb q hq)
theorem andW_fit (x y : Nat) (hx : x < 2 ^ 64) (_ : y < 2 ^ 64) : andW x y < 2 ^ 64 := Nat.lt_of_le_of_lt Nat.and_le_left hx
theorem orW_fit (x y : Nat) (hx : x < 2 ^ 64) (hy : y < 2 ^ 64) : orW x y < 2 ^ 64 := Nat.or_lt_two_pow hx hy
theorem lessW_fit (x y : Nat) (hx : x < 2 ^ 64) (_ : y < 2 ^ 64) : lessW x y < 2 ^ 64 := Nat.lt_of_le_of_lt Nat.and_le_left hx

/-- What is joined, if all may be. -/
def joinIf (f : Nat → Nat → Nat) (n : Int) (a b : List Nat) : List Nat := if sChk2 n a b = 0 then List.zipWith f a b else []
theorem joinIf_fit {f : Nat → Nat → Nat} {n : Int} {a b : List Nat} (hf : ∀ x y, x < 2 ^ 64 → y < 2 ^ 64 → f x y < 2 ^ 64) (ha : W64 a) (hb : W64 b) : W64 (joinIf f n a b) := by
  unfold joinIf; split
  · exact zip_fit hf ha hb
  · intro x hx; simp at hx
theorem joinIf_len {f : Nat → Nat → Nat} {n : Int} {a b : List Nat} : (joinIf f n a b).length ≤ a.length := by
  unfold joinIf; split
  · simp; omega
  · simp

set_option maxRecDepth 100000 in set_option maxHeartbeats 4000000 in
theorem set_Meet (n : Int) (ba bb : Option Addr) (ca cb : Nat) (a b : List Nat) (w : World) (ha : SetIn w ba a) (hb : SetIn w bb b) :
    Calls Tryd.prog 26 #[.int .i64 n, .slice ba a.length ca, .slice bb b.length cb] w (RB w (.tuple #[.bool (anyNZ (joinIf andW n a b)), .int .i64 (sChk2 n a b)])) := by
  have HC := Lib.hid (show Calls Tryd.prog 60 #[.int .i64 n, .slice ba a.length ca, .slice bb b.length cb] w (RUE w (joinIf andW n a b) (sChk2 n a b)) from set_And n ba bb ca cb a b w ha hb)
  have hf := Lib.hid (joinIf_fit (n := n) andW_fit ha.fit hb.fit)
  have hl := joinIf_len (f := andW) (n := n) (a := a) (b := b)
  have hal := ha.len
  have eg : ∀ args w, (callFunc 61 args).run Tryd.prog w = .ok (.enter 61 args) w := enters_of Tryd.func61 (by kernel_rfl) rfl
  clear ha hb
  go_enter Tryd.func26, Tryd.ntmps26
  go_wp2_with fail
  refine HC.out.mono ?_
  rintro e w1 ⟨v, rfl, ho, hb1⟩
  obtain ⟨base, cap, rfl, hs, _⟩ := set_of_own ho (by omega) hf.out
  go_wp2_with fail
  refine (set_contains _ base cap _ _ hs eg set_Meet_asks).mono ?_
  rintro e w2 ⟨rfl, hb2⟩
  go_wp2_with fail
  go_returns
  exact ⟨rfl, by (repeat (first | (with_reducible exact Below.refl _ _) | (with_reducible assumption) | (with_reducible refine below_alloc ?_ _) | (with_reducible refine below_drewN ?_ _) | (with_reducible refine Below.drew ?_) | (with_reducible refine below_then ?_ (by with_reducible assumption)) | (with_reducible refine Below.setCell ?_ (by go_size) _)))⟩

set_option maxRecDepth 100000 in set_option maxHeartbeats 4000000 in
theorem set_In (n : Int) (ba bb : Option Addr) (ca cb : Nat) (a b : List Nat) (w : World) (ha : SetIn w ba a) (hb : SetIn w bb b) :
    Calls Tryd.prog 19 #[.int .i64 n, .slice ba a.length ca, .slice bb b.length cb] w (RB w (.tuple #[.bool (decide (sChk2 n a b = 0) && !anyNZ (joinIf lessW n a b)), .int .i64 (sChk2 n a b)])) := by
  have HC := Lib.hid (show Calls Tryd.prog 29 #[.int .i64 n, .slice ba a.length ca, .slice bb b.length cb] w (RUE w (joinIf lessW n a b) (sChk2 n a b)) from set_Less n ba bb ca cb a b w ha hb)
  have hf := Lib.hid (joinIf_fit (n := n) lessW_fit ha.fit hb.fit)
  have hl := joinIf_len (f := lessW) (n := n) (a := a) (b := b)
  have hal := ha.len
  have eg : ∀ args w, (callFunc 54 args).run Tryd.prog w = .ok (.enter 54 args) w := enters_of Tryd.func54 (by kernel_rfl) rfl
  clear ha hb
  by_cases hz : sChk2 n a b = 0
  · have hy1 : (sChk2 n a b == 0) = true := by simpa using hz
    have hq := Lib.hid (decide_eq_true hz)
    clear hz
    go_enter Tryd.func19, Tryd.ntmps19
    go_wp2_with fail
    refine HC.out.mono ?_
    rintro e w1 ⟨v, rfl, ho, hb1⟩
    obtain ⟨base, cap, rfl, hs, _⟩ := set_of_own ho (by omega) hf.out
    go_wp2_with fail
    refine (set_contains _ base cap _ _ hs eg set_In_asks).mono ?_
    rintro e w2 ⟨rfl, hb2⟩
    go_wp2_with fail
    go_returns
    exact ⟨by rw [hq.out]; rfl, by (repeat (first | (with_reducible exact Below.refl _ _) | (with_reducible assumption) | (with_reducible refine below_alloc ?_ _) | (with_reducible refine below_drewN ?_ _) | (with_reducible refine Below.drew ?_) | (with_reducible refine below_then ?_ (by with_reducible assumption)) | (with_reducible refine Below.setCell ?_ (by go_size) _)))⟩
  · have hy1 : (sChk2 n a b == 0) = false := by simpa using hz
    have hq := Lib.hid (decide_eq_false hz)
    clear hz
    go_enter Tryd.func19, Tryd.ntmps19
    go_wp2_with fail
    refine HC.out.mono ?_
    rintro e w1 ⟨v, rfl, ho, hb1⟩
    go_wp2_with fail
    go_returns
    exact ⟨by rw [hq.out]; rfl, by (repeat (first | (with_reducible exact Below.refl _ _) | (with_reducible assumption) | (with_reducible refine below_alloc ?_ _) | (with_reducible refine below_drewN ?_ _) | (with_reducible refine Below.drew ?_) | (with_reducible refine below_then ?_ (by with_reducible assumption)) | (with_reducible refine Below.setCell ?_ (by go_size) _)))⟩
end Go.Proofs.YthabpiphfaedaaaDoor
