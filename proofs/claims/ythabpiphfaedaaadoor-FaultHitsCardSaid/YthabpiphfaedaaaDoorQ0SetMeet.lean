/- SET: met, within; REF 03. -/
import Derived.Test.YthabpiphfaedaaaDoorQ0SetTwo
namespace Go.Proofs.YthabpiphfaedaaaDoor

section
section
open Go.RowKit Go.Shelf

/-- Does one word, at the least, have a bit? -/
def anyNZ (ws : List Nat) : Bool := ws.any (fun x => decide (x ≠ 0))
def firstNZ (ws : List Nat) : Int := if anyNZ ws then ((ws.findIdx (fun x => decide (x ≠ 0)) : Nat) : Int) else -1

theorem any_take_succ {α : Type} {l : List α} {p : α → Bool} {k : Nat} (h : k < l.length) (h0 : (l.take k).any p = false) : (l.take (k + 1)).any p = p l[k] := by
  rw [List.take_succ_eq_append_getElem h, List.any_append, h0]; simp

/-- A closure that asks whether a word has a bit. -/
def AsksNZ (P : Program) (g : Nat) : Prop :=
  ∀ (x : Nat) (W : World), Calls P g #[.int .u64 (x : Int)] W fun e w' => e = .returned (.bool (decide (x ≠ 0))) ∧ w' = W

set_option maxRecDepth 100000 in set_option maxHeartbeats 4000000 in
theorem set_index (g : Nat) (base : Option Addr) (cap : Nat) (ws : List Nat) (w : World) (hs : SetIn w base ws) (eg : ∀ args w, (callFunc g args).run Tryd.prog w = .ok (.enter g args) w) (hf : AsksNZ Tryd.prog g) :
    Calls Tryd.prog 81 #[.slice base ws.length cap, .func (.func g) #[] #[]] w (RB w (.int .i64 (firstNZ ws))) := by
  have HS := Lib.hid hs
  have HF := Lib.hid hf
  have hlen := hs.len
  clear hs hf
  go_enter Tryd.func81, Tryd.ntmps81
  go_wp2_with fail
  go_loopw [8] (fun i wr => ∃ k : Nat, k ≤ ws.length ∧ i = .int .i64 k ∧ (ws.take k).any (fun x => decide (x ≠ 0)) = false ∧ ∃ q, wr = w.drewN q) (fun i _ => ws.length - (intOf i).toNat)
  case atStart => exact ⟨0, Nat.zero_le _, rfl, by simp, 0, rfl⟩
  case round =>
    obtain ⟨k, hk, rfl, h0, q, rfl⟩ := hrel
    have H0 := Lib.hid h0
    clear h0
    by_cases hlt : k < ws.length
    · obtain ⟨b, off, rfl, hc⟩ := HS.out.rd k _ (wcells_at hlt)
      have hx := Lib.hid (any_take_succ hlt H0.out)
      have hin := List.getElem_mem hlt
      have HF1 := Lib.hid (HF.out ws[k])
      by_cases hz : ws[k] = 0
      · have hd : decide (ws[k] ≠ 0) = false := by simp [hz]
        have hn := Lib.hid (hx.out.trans hd)
        obtain ⟨x, hxx⟩ : ∃ x, x = ws[k] := ⟨_, rfl⟩
        rw [← hxx] at hc hd HF1
        clear hxx hx hin hz
        go_wp2_with ((with_reducible refine (HF1.out _).mono ?_); rintro e w3 ⟨rfl, rfl⟩)
        go_roundw
        case rel => exact ⟨k + 1, by omega, by go_num, hn.out, _, rfl⟩
        case measure => simp [intOf]; omega
      · have hd : decide (ws[k] ≠ 0) = true := by simp [hz]
        have hn := Lib.hid (show firstNZ ws = (k : Int) by
          have ha : anyNZ ws = true := List.any_eq_true.2 ⟨ws[k], hin, hd⟩
          unfold firstNZ
          rw [if_pos ha]
          congr 1
          rw [List.findIdx_eq hlt]
          refine ⟨hd, fun j hj => ?_⟩
          have := List.any_eq_false.1 H0.out (ws[j]) (by rw [List.mem_take_iff_getElem]; exact ⟨j, by omega, rfl⟩)
          simpa using this)
        obtain ⟨x, hxx⟩ : ∃ x, x = ws[k] := ⟨_, rfl⟩
        rw [← hxx] at hc hd HF1
        clear hxx hx hin hz
        go_wp2_with ((with_reducible refine (HF1.out _).mono ?_); rintro e w3 ⟨rfl, rfl⟩)
        go_returns
        exact ⟨by rw [hn.out]; rfl, by (repeat (first | (with_reducible exact Below.refl _ _) | (with_reducible assumption) | (with_reducible refine below_alloc ?_ _) | (with_reducible refine below_drewN ?_ _) | (with_reducible refine Below.drew ?_) | (with_reducible refine below_then ?_ (by with_reducible assumption)) | (with_reducible refine Below.setCell ?_ (by go_size) _)))⟩
    · obtain rfl : k = ws.length := by omega
      have hn := Lib.hid (show firstNZ ws = -1 by
        have := H0.out; rw [List.take_length] at this
        unfold firstNZ anyNZ; rw [if_neg (by rw [this]; decide)])
      go_wp2_with fail
      go_returns
      exact ⟨by rw [hn.out]; rfl, by (repeat (first | (with_reducible exact Below.refl _ _) | (with_reducible assumption) | (with_reducible refine below_alloc ?_ _) | (with_reducible refine below_drewN ?_ _) | (with_reducible refine Below.drew ?_) | (with_reducible refine below_then ?_ (by with_reducible assumption)) | (with_reducible refine Below.setCell ?_ (by go_size) _)))⟩

theorem firstNZ_ge (ws : List Nat) : decide (firstNZ ws ≥ 0) = anyNZ ws := by
  unfold firstNZ; cases anyNZ ws <;> simp

set_option maxRecDepth 100000 in set_option maxHeartbeats 4000000 in
theorem set_contains (g : Nat) (base : Option Addr) (cap : Nat) (ws : List Nat) (w : World) (hs : SetIn w base ws) (eg : ∀ args w, (callFunc g args).run Tryd.prog w = .ok (.enter g args) w) (hf : AsksNZ Tryd.prog g) :
    Calls Tryd.prog 53 #[.slice base ws.length cap, .func (.func g) #[] #[]] w (RB w (.bool (anyNZ ws))) := by
  have HS := Lib.hid (set_index g base cap ws w hs eg hf)
  have hn := Lib.hid (firstNZ_ge ws)
  clear hs hf
  go_enter Tryd.func53, Tryd.ntmps53
  go_wp2_with fail
  refine HS.out.mono ?_
  rintro e w1 ⟨rfl, hb1⟩
  go_wp2_with fail
  go_returns
  exact ⟨by rw [← hn.out]; rfl, by (repeat (first | (with_reducible exact Below.refl _ _) | (with_reducible assumption) | (with_reducible refine below_alloc ?_ _) | (with_reducible refine below_drewN ?_ _) | (with_reducible refine Below.drew ?_) | (with_reducible refine below_then ?_ (by with_reducible assumption)) | (with_reducible refine Below.setCell ?_ (by go_size) _)))⟩

set_option maxRecDepth 100000 in set_option maxHeartbeats 4000000 in
theorem set_Meet_asks : AsksNZ Tryd.prog 61 := by
  intro x W
  have h := Lib.hid (show ((x : Int) != 0) = decide (x ≠ 0) by by_cases e : x = 0 <;> simp [e])
  go_enter Tryd.func61, Tryd.ntmps61
  go_wp2_with fail
  go_returns
  exact ⟨by rw [← h.out]; rfl, rfl⟩

set_option maxRecDepth 100000 in set_option maxHeartbeats 4000000 in
theorem set_In_asks : AsksNZ Tryd.prog 54 := by
  intro x W
  have h := Lib.hid (show ((x : Int) != 0) = decide (x ≠ 0) by by_cases e : x = 0 <;> simp [e])
  go_enter Tryd.func54, Tryd.ntmps54
  go_wp2_with fail
  go_returns
  exact ⟨by rw [← h.out]; rfl, rfl⟩
end

section
open Go.RowKit Go.Shelf

theorem set_of_own {W : World} {B : Nat} {v : Value} {ws : List Nat} (h : W.ownsRow B 63 1 v ws.length (wcells ws)) (hl : ws.length ≤ 4611686018427387904) (hf : W64 ws) :
    ∃ base cap, v = .slice base ws.length cap ∧ SetIn W base ws ∧ ws.length ≤ cap := by
  obtain ⟨base, cap, rfl, rd, hc⟩ := own_rd h
  exact ⟨base, cap, rfl, ⟨rd, hl, hf⟩, hc⟩

theorem mem_zipWith {f : Nat → Nat → Nat} {a b : List Nat} {x : Nat} (h : x ∈ List.zipWith f a b) : ∃ p ∈ a, ∃ q ∈ b, x = f p q := by
  obtain ⟨i, hi, rfl⟩ := List.mem_iff_getElem.1 h
  rw [List.length_zipWith] at hi
  exact ⟨a[i], List.getElem_mem _, b[i], List.getElem_mem _, by simp⟩
theorem zip_fit {f : Nat → Nat → Nat} {a b : List Nat} (hf : ∀ x y, x < 2 ^ 64 → y < 2 ^ 64 → f x y < 2 ^ 64) (ha : W64 a) (hb : W64 b) : W64 (List.zipWith f a b) := by
  intro x hx
  obtain ⟨p, hp, q, hq, rfl⟩ := mem_zipWith hx
  exact hf p q (ha p hp) (hb q hq)
theorem andW_fit (x y : Nat) (hx : x < 2 ^ 64) (_ : y < 2 ^ 64) : andW x y < 2 ^ 64 := Nat.lt_of_le_of_lt Nat.and_le_left hx
theorem orW_fit (x y : Nat) (hx : x < 2 ^ 64) (hy : y < 2 ^ 64) : orW x y < 2 ^ 64 := Nat.or_lt_two_pow hx hy
theorem lessW_fit (x y : Nat) (hx : x < 2 ^ 64) (_ : y < 2 ^ 64) : lessW x y < 2 ^ 64 := Nat.lt_of_le_of_lt Nat.and_le_left hx

/-- What is joined, if all may be. -/
def joinIf (f : Nat → Nat → Nat) (n : Int) (a b : List Nat) : List Nat := if sChk2 n a b = 0 then List.zipWith f a b else []
theorem joinIf_fit {f : Nat → Nat → Nat} {n : Int} {a b : List Nat} (hf : ∀ x y, x < 2 ^ 64 → y < 2 ^ 64 → f x y < 2 ^ 64) (ha : W64 a) (hb : W64 b) : W64 (joinIf f n a b) := by
  unfold joinIf; split
  · exact zip_fit hf ha hb
  · intro x hx; simp at hx
theorem joinIf_len {f : Nat → Nat → Nat} {n : Int} {a b : List Nat} : (joinIf f n a b).length ≤ a.length := by
  unfold joinIf; split
  · simp; omega
  · simp

set_option maxRecDepth 100000 in set_option maxHeartbeats 4000000 in
theorem set_Meet (n : Int) (ba bb : Option Addr) (ca cb : Nat) (a b : List Nat) (w : World) (ha : SetIn w ba a) (hb : SetIn w bb b) :
    Calls Tryd.prog 26 #[.int .i64 n, .slice ba a.length ca, .slice bb b.length cb] w (RB w (.tuple #[.bool (anyNZ (joinIf andW n a b)), .int .i64 (sChk2 n a b)])) := by
  have HC := Lib.hid (show Calls Tryd.prog 60 #[.int .i64 n, .slice ba a.length ca, .slice bb b.length cb] w (RUE w (joinIf andW n a b) (sChk2 n a b)) from set_And n ba bb ca cb a b w ha hb)
  have hf := Lib.hid (joinIf_fit (n := n) andW_fit ha.fit hb.fit)
  have hl := joinIf_len (f := andW) (n := n) (a := a) (b := b)
  have hal := ha.len
  have eg : ∀ args w, (callFunc 61 args).run Tryd.prog w = .ok (.enter 61 args) w := enters_of Tryd.func61 (by kernel_rfl) rfl
  clear ha hb
  go_enter Tryd.func26, Tryd.ntmps26
  go_wp2_with fail
  refine HC.out.mono ?_
  rintro e w1 ⟨v, rfl, ho, hb1⟩
  obtain ⟨base, cap, rfl, hs, _⟩ := set_of_own ho (by omega) hf.out
  go_wp2_with fail
  refine (set_contains _ base cap _ _ hs eg set_Meet_asks).mono ?_
  rintro e w2 ⟨rfl, hb2⟩
  go_wp2_with fail
  go_returns
  exact ⟨rfl, by (repeat (first | (with_reducible exact Below.refl _ _) | (with_reducible assumption) | (with_reducible refine below_alloc ?_ _) | (with_reducible refine below_drewN ?_ _) | (with_reducible refine Below.drew ?_) | (with_reducible refine below_then ?_ (by with_reducible assumption)) | (with_reducible refine Below.setCell ?_ (by go_size) _)))⟩

set_option maxRecDepth 100000 in set_option maxHeartbeats 4000000 in
theorem set_In (n : Int) (ba bb : Option Addr) (ca cb : Nat) (a b : List Nat) (w : World) (ha : SetIn w ba a) (hb : SetIn w bb b) :
    Calls Tryd.prog 19 #[.int .i64 n, .slice ba a.length ca, .slice bb b.length cb] w (RB w (.tuple #[.bool (decide (sChk2 n a b = 0) && !anyNZ (joinIf lessW n a b)), .int .i64 (sChk2 n a b)])) := by
  have HC := Lib.hid (show Calls Tryd.prog 29 #[.int .i64 n, .slice ba a.length ca, .slice bb b.length cb] w (RUE w (joinIf lessW n a b) (sChk2 n a b)) from set_Less n ba bb ca cb a b w ha hb)
  have hf := Lib.hid (joinIf_fit (n := n) lessW_fit ha.fit hb.fit)
  have hl := joinIf_len (f := lessW) (n := n) (a := a) (b := b)
  have hal := ha.len
  have eg : ∀ args w, (callFunc 54 args).run Tryd.prog w = .ok (.enter 54 args) w := enters_of Tryd.func54 (by kernel_rfl) rfl
  clear ha hb
  by_cases hz : sChk2 n a b = 0
  · have hy1 : (sChk2 n a b == 0) = true := by simpa using hz
    have hq := Lib.hid (decide_eq_true hz)
    clear hz
    go_enter Tryd.func19, Tryd.ntmps19
    go_wp2_with fail
    refine HC.out.mono ?_
    rintro e w1 ⟨v, rfl, ho, hb1⟩
    obtain ⟨base, cap, rfl, hs, _⟩ := set_of_own ho (by omega) hf.out
    go_wp2_with fail
    refine (set_contains _ base cap _ _ hs eg set_In_asks).mono ?_
    rintro e w2 ⟨rfl, hb2⟩
    go_wp2_with fail
    go_returns
    exact ⟨by rw [hq.out]; rfl, by (repeat (first | (with_reducible exact Below.refl _ _) | (with_reducible assumption) | (with_reducible refine below_alloc ?_ _) | (with_reducible refine below_drewN ?_ _) | (with_reducible refine Below.drew ?_) | (with_reducible refine below_then ?_ (by with_reducible assumption)) | (with_reducible refine Below.setCell ?_ (by go_size) _)))⟩
  · have hy1 : (sChk2 n a b == 0) = false := by simpa using hz
    have hq := Lib.hid (decide_eq_false hz)
    clear hz
    go_enter Tryd.func19, Tryd.ntmps19
    go_wp2_with fail
    refine HC.out.mono ?_
    rintro e w1 ⟨v, rfl, ho, hb1⟩
    go_wp2_with fail
    go_returns
    exact ⟨by rw [hq.out]; rfl, by (repeat (first | (with_reducible exact Below.refl _ _) | (with_reducible assumption) | (with_reducible refine below_alloc ?_ _) | (with_reducible refine below_drewN ?_ _) | (with_reducible refine Below.drew ?_) | (with_reducible refine below_then ?_ (by with_reducible assumption)) | (with_reducible refine Below.setCell ?_ (by go_size) _)))⟩
end
end
end Go.Proofs.YthabpiphfaedaaaDoor
