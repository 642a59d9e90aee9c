/- SET, REF 03: whether one is in a set; how many there are. -/
import Derived.Test.YthabpiphfaedaaaSetOf
namespace Go.Proofs.Ythabpiphfaedaaa
open Go.RowKit Go.Shelf

/-- Is an integer in a set? -/
def hasI (ws : List Nat) (k : Int) : Bool := decide (0 ≤ k) && there ws k.toNat

theorem topOut {n : Int} {ws : List Nat} (h : sChk n ws = 0) (hw : W64 ws) {i : Nat} (hi : n.toNat ≤ i) : there ws i = false := by
  obtain ⟨hn, hl, ht⟩ := sMay_len h
  by_cases hin : i / 64 < ws.length
  · have hn' := hn
    unfold nMay at hn'
    have hnw : nWords n = (n.toNat + 63) / 64 := by unfold nWords; omega
    have hk : i / 64 = nWords n - 1 := by omega
    have hm : n % 64 ≠ 0 := by omega
    unfold topClear at ht
    rw [decide_eq_false hm, Bool.false_or, decide_eq_true_eq] at ht
    rw [there_in hin]
    have e : ws.getD (nWords n - 1) 0 = ws[i / 64] := by simp only [← hk]; simp [hin]
    rw [e] at ht
    have hlt : ws[i / 64] < 2 ^ (n % 64).toNat := by
      rcases Nat.div_eq_zero_iff.1 ht with h0 | h0
      · exact absurd h0 (by have := Nat.two_pow_pos (n % 64).toNat; omega)
      · exact h0
    rw [bitOf_test, Nat.testBit_lt_two_pow]
    exact Nat.lt_of_lt_of_le hlt (Nat.pow_le_pow_right (by decide) (by omega))
  · exact there_out (by omega)

theorem nMay_of {n : Int} {ws : List Nat} (h : sChk n ws = 0) : nMay n := (sMay_len h).1
theorem hasI_top {n : Int} {ws : List Nat} (h : sChk n ws = 0) (hw : W64 ws) {k : Int} (hk : n ≤ k) : hasI ws k = false := by
  have := nMay_of h
  unfold nMay at this
  unfold hasI
  rw [topOut h hw (by omega), Bool.and_false]
theorem hasI_neg {ws : List Nat} {k : Int} (hk : k < 0) : hasI ws k = false := by
  unfold hasI; rw [decide_eq_false (by omega)]; rfl
theorem hasI_nat {ws : List Nat} {k : Nat} : hasI ws (k : Int) = there ws k := by
  unfold hasI; rw [decide_eq_true (by omega), Int.toNat_natCast, Bool.true_and]

/-- What is told of a set that may be; nothing of one that may not. -/
def hasV (n : Int) (ws : List Nat) (k : Int) : Bool := if sChk n ws = 0 then hasI ws k else false

set_option maxRecDepth 100000 in set_option maxHeartbeats 4000000 in
theorem set_Has (n : Int) (base : Option Addr) (cap : Nat) (ws : List Nat) (k : Int) (w : World) (hs : SetIn w base ws) :
    Calls Try.prog 56 #[.int .i64 n, .slice base ws.length cap, .int .i64 k] w (RB w (.tuple #[.bool (hasV n ws k), .int .i64 (sChk n ws)])) := by
  have HC := Lib.hid (set_Check n base cap ws w hs.rd hs.len hs.fit)
  by_cases hz : sChk n ws = 0
  · have hy1 : (sChk n ws == 0) = true := by simpa using hz
    have hy2 : (sChk n ws != 0) = false := by simpa using hz
    have hv : hasV n ws k = hasI ws k := if_pos hz
    obtain ⟨hn, hlen, _⟩ := sMay_len hz
    have hz0 := Lib.hid hz
    replace hlen := Lib.hid hlen
    unfold nMay at hn
    by_cases h0 : k < 0
    · have hq := Lib.hid (hv.trans (hasI_neg h0))
      clear hv hz
      go_enter Try.func56, Try.ntmps56
      go_wp2_with ((with_reducible refine HC.out.mono ?_); rintro e w3 ⟨rfl, hw3⟩; have hw3 := hw3.symm; subst hw3)
      all_goals
        go_returns
        exact ⟨by rw [hq.out, hz0.out]; rfl, by (repeat (first | (with_reducible exact Below.refl _ _) | (with_reducible assumption) | (with_reducible refine below_alloc ?_ _) | (with_reducible refine below_drewN ?_ _) | (with_reducible refine Below.drew ?_) | (with_reducible refine below_then ?_ (by with_reducible assumption)) | (with_reducible refine Below.setCell ?_ (by go_size) _)))⟩
    · by_cases h1 : n ≤ k
      · have hq := Lib.hid (hv.trans (hasI_top hz hs.fit h1))
        clear hv hz
        go_enter Try.func56, Try.ntmps56
        go_wp2_with ((with_reducible refine HC.out.mono ?_); rintro e w3 ⟨rfl, hw3⟩; have hw3 := hw3.symm; subst hw3)
        all_goals
          go_returns
          exact ⟨by rw [hq.out, hz0.out]; rfl, by (repeat (first | (with_reducible exact Below.refl _ _) | (with_reducible assumption) | (with_reducible refine below_alloc ?_ _) | (with_reducible refine below_drewN ?_ _) | (with_reducible refine Below.drew ?_) | (with_reducible refine below_then ?_ (by with_reducible assumption)) | (with_reducible refine Below.setCell ?_ (by go_size) _)))⟩
      · obtain ⟨j, rfl⟩ : ∃ j : Nat, k = (j : Int) := ⟨k.toNat, by omega⟩
        have hjw : j / 64 < ws.length := by rw [hlen.out]; unfold nWords; omega
        obtain ⟨b, off, rfl, hc⟩ := hs.rd _ _ (wcells_at hjw)
        have hb := hs.fit _ (List.getElem_mem hjw)
        have hq := Lib.hid (hv.trans (hasI_nat.trans (there_in hjw)))
        obtain ⟨x, hx⟩ : ∃ x, x = ws[j / 64] := ⟨_, rfl⟩
        rw [← hx] at hc hb hq
        have hu := Lib.hid (u64_bit x (j % 64) hb)
        have h2 : (j : Int) < n := by omega
        clear hx hv hz hs
        go_enter Try.func56, Try.ntmps56
        go_wp2_with ((with_reducible refine HC.out.mono ?_); rintro e w3 ⟨rfl, hw3⟩; have hw3 := hw3.symm; subst hw3)
        all_goals
          go_returns
          exact ⟨by rw [hq.out, hz0.out, ← hu.out]; rfl, by (repeat (first | (with_reducible exact Below.refl _ _) | (with_reducible assumption) | (with_reducible refine below_alloc ?_ _) | (with_reducible refine below_drewN ?_ _) | (with_reducible refine Below.drew ?_) | (with_reducible refine below_then ?_ (by with_reducible assumption)) | (with_reducible refine Below.setCell ?_ (by go_size) _)))⟩
  · have hy1 : (sChk n ws == 0) = false := by simpa using hz
    have hy2 : (sChk n ws != 0) = true := by simpa using hz
    have hq := Lib.hid (show hasV n ws k = false from if_neg hz)
    clear hz
    go_enter Try.func56, Try.ntmps56
    go_wp2_with ((with_reducible refine HC.out.mono ?_); rintro e w3 ⟨rfl, hw3⟩; have hw3 := hw3.symm; subst hw3)
    all_goals
      go_returns
      exact ⟨by rw [hq.out]; rfl, by (repeat (first | (with_reducible exact Below.refl _ _) | (with_reducible assumption) | (with_reducible refine below_alloc ?_ _) | (with_reducible refine below_drewN ?_ _) | (with_reducible refine Below.drew ?_) | (with_reducible refine below_then ?_ (by with_reducible assumption)) | (with_reducible refine Below.setCell ?_ (by go_size) _)))⟩

set_option maxRecDepth 100000 in set_option maxHeartbeats 4000000 in
theorem ref03_ThereI (base : Option Addr) (cap : Nat) (ws : List Nat) (k : Int) (w : World) (hr : SetIn w base ws) (hk : k ≤ 9223372036854775807) :
    Calls Try.prog 48 #[.slice base ws.length cap, .int .i64 k] w fun e w' => e = .returned (.bool (hasI ws k)) ∧ w' = w := by
  by_cases h0 : k < 0
  · rw [hasI_neg h0]
    exact ref03_There_neg base cap ws k w h0
  · obtain ⟨j, rfl⟩ : ∃ j : Nat, k = (j : Int) := ⟨k.toNat, by omega⟩
    rw [hasI_nat]
    have hlen := hr.len
    by_cases h : j / 64 < ws.length
    · obtain ⟨b, off, rfl, hc⟩ := hr.rd _ _ (wcells_at h)
      have hb := hr.fit _ (List.getElem_mem h)
      have hq := Lib.hid (there_in h)
      obtain ⟨x, hx⟩ : ∃ x, x = ws[j / 64] := ⟨_, rfl⟩
      rw [← hx] at hc hb hq
      clear hx hr
      go_enter Try.func48, Try.ntmps48
      have hu := Lib.hid (u64_bit x (j % 64) hb)
      go_wp2_with fail
      go_returns
      exact ⟨by rw [hq.out, ← hu.out]; rfl, rfl⟩
    · have hq := Lib.hid (there_out (ws := ws) (k := j) (by omega))
      clear hr
      go_enter Try.func48, Try.ntmps48
      go_wp2_with fail
      go_returns
      exact ⟨by rw [hq.out]; rfl, rfl⟩

set_option maxRecDepth 100000 in set_option maxHeartbeats 4000000 in
theorem ref03_Has (n : Int) (base : Option Addr) (cap : Nat) (ws : List Nat) (k : Int) (w : World) (hs : SetIn w base ws) (hk : k ≤ 9223372036854775807) :
    Calls Try.prog 87 #[.int .i64 n, .slice base ws.length cap, .int .i64 k] w (RB w (.tuple #[.bool (hasV n ws k), .int .i64 (sChk n ws)])) := by
  have HC := Lib.hid (ref03_Check n base cap ws w hs)
  have HT := Lib.hid (ref03_ThereI base cap ws k w hs hk)
  by_cases hz : sChk n ws = 0
  · have hy2 : (sChk n ws != 0) = false := by simpa using hz
    have hv := Lib.hid (show hasV n ws k = hasI ws k from if_pos hz)
    have hz0 := Lib.hid hz
    clear hz
    go_enter Try.func87, Try.ntmps87
    go_wp2_with (first | ((with_reducible refine HC.out.mono ?_); rintro e w3 ⟨rfl, hw3⟩; have hw3 := hw3.symm; subst hw3) | ((with_reducible refine HT.out.mono ?_); rintro e w3 ⟨rfl, hw3⟩; have hw3 := hw3.symm; subst hw3))
    all_goals
      go_returns
      exact ⟨by rw [hv.out, hz0.out]; rfl, by (repeat (first | (with_reducible exact Below.refl _ _) | (with_reducible assumption) | (with_reducible refine below_alloc ?_ _) | (with_reducible refine below_drewN ?_ _) | (with_reducible refine Below.drew ?_) | (with_reducible refine below_then ?_ (by with_reducible assumption)) | (with_reducible refine Below.setCell ?_ (by go_size) _)))⟩
  · have hy2 : (sChk n ws != 0) = true := by simpa using hz
    have hv := Lib.hid (show hasV n ws k = false from if_neg hz)
    clear hz
    go_enter Try.func87, Try.ntmps87
    go_wp2_with ((with_reducible refine HC.out.mono ?_); rintro e w3 ⟨rfl, hw3⟩; have hw3 := hw3.symm; subst hw3)
    all_goals
      go_returns
      exact ⟨by rw [hv.out]; rfl, by (repeat (first | (with_reducible exact Below.refl _ _) | (with_reducible assumption) | (with_reducible refine below_alloc ?_ _) | (with_reducible refine below_drewN ?_ _) | (with_reducible refine Below.drew ?_) | (with_reducible refine below_then ?_ (by with_reducible assumption)) | (with_reducible refine Below.setCell ?_ (by go_size) _)))⟩
end Go.Proofs.Ythabpiphfaedaaa
