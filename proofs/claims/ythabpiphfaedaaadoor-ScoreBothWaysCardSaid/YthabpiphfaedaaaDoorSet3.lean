/- REF 03: whether a number is in a set; whether a set may be. -/
import Derived.Test.YthabpiphfaedaaaDoorSet2
namespace Go.Proofs.YthabpiphfaedaaaDoor
open Go.RowKit Go.Shelf

/-- The bit of a word. -/
def bitOf (x j : Nat) : Bool := x / 2 ^ j % 2 == 1
/-- Is a number in a set? -/
def there (ws : List Nat) (k : Nat) : Bool := bitOf (ws.getD (k / 64) 0) (k % 64)
theorem there_out {ws : List Nat} {k : Nat} (h : ws.length ≤ k / 64) : there ws k = false := by
  unfold there; rw [List.getD_eq_getElem?_getD, List.getElem?_eq_none h]; simp [bitOf]
theorem there_in {ws : List Nat} {k : Nat} (h : k / 64 < ws.length) : there ws k = bitOf ws[k / 64] (k % 64) := by
  unfold there; simp [h]

set_option maxRecDepth 100000 in set_option maxHeartbeats 4000000 in
theorem ref03_There_neg (base : Option Addr) (cap : Nat) (ws : List Nat) (k : Int) (w : World) (hk : k < 0) :
    Calls Tryd.prog 91 #[.slice base ws.length cap, .int .i64 k] w fun e w' => e = .returned (.bool false) ∧ w' = w := by
  go_enter Tryd.func91, Tryd.ntmps91
  go_wp2_with fail
  go_returns
  exact ⟨rfl, rfl⟩

theorem u64_bit (x : Nat) (j : Nat) (hx : x < 18446744073709551616) : (bits .and .u64 ((x : Int) / 2 ^ j) 1 == 1) = bitOf x j := by
  have e0 : (x : Int) / 2 ^ j = ((x / 2 ^ j : Nat) : Int) := by simp
  rw [e0]
  have h1 : x / 2 ^ j < 18446744073709551616 := Nat.lt_of_le_of_lt (Nat.div_le_self _ _) hx
  have h2 := u64_and_nat (x / 2 ^ j) 1 h1 (by decide)
  rw [show ((1 : Nat) : Int) = 1 from rfl] at h2
  rw [h2, nat_mask1, bitOf]
  rcases Nat.mod_two_eq_zero_or_one (x / 2 ^ j) with h | h <;> rw [h] <;> rfl

set_option maxRecDepth 100000 in set_option maxHeartbeats 4000000 in
theorem ref03_There (base : Option Addr) (cap : Nat) (ws : List Nat) (k : Nat) (w : World) (hr : SetIn w base ws) (hk : k ≤ 1000000) :
    Calls Tryd.prog 91 #[.slice base ws.length cap, .int .i64 (k : Int)] w fun e w' => e = .returned (.bool (there ws k)) ∧ w' = w := by
  have hlen := hr.len
  by_cases h : k / 64 < ws.length
  · obtain ⟨b, off, rfl, hc⟩ := hr.rd _ _ (wcells_at h)
    have hb := hr.fit _ (List.getElem_mem h)
    have hq := Lib.hid (there_in h)
    obtain ⟨x, hx⟩ : ∃ x, x = ws[k / 64] := ⟨_, rfl⟩
    rw [← hx] at hc hb hq
    clear hx hr
    go_enter Tryd.func91, Tryd.ntmps91
    have hu := Lib.hid (u64_bit x (k % 64) hb)
    go_wp2_with fail
    go_returns
    exact ⟨by rw [hq.out, ← hu.out]; rfl, rfl⟩
  · have hq := Lib.hid (there_out (ws := ws) (k := k) (by omega))
    clear hr
    go_enter Tryd.func91, Tryd.ntmps91
    go_wp2_with fail
    go_returns
    exact ⟨by rw [hq.out]; rfl, rfl⟩

/-- No bit from n up to k. -/
def clearTo (ws : List Nat) (n k : Nat) : Bool := (List.range (k - n)).all (fun j => !there ws (n + j))
theorem clearTo_zero (ws : List Nat) (n : Nat) : clearTo ws n n = true := by simp [clearTo]
theorem clearTo_succ (ws : List Nat) (n k : Nat) (h : n ≤ k) : clearTo ws n (k + 1) = (clearTo ws n k && !there ws k) := by
  unfold clearTo
  rw [show k + 1 - n = (k - n) + 1 by omega, List.range_succ, List.all_append]
  simp [show n + (k - n) = k by omega]
theorem clearTo_no (ws : List Nat) (n k m : Nat) (h : n ≤ k) (hk : k < m) (ht : there ws k = true) : clearTo ws n m = false := by
  rw [← Bool.not_eq_true]
  unfold clearTo
  rw [List.all_eq_true]
  intro hc
  have := hc (k - n) (by simp; omega)
  rw [show n + (k - n) = k by omega, ht] at this
  cases this

/-- May a set be, as the reference asks it. -/
def refMay (n : Int) (ws : List Nat) : Bool := decide (ws.length = nWords n) && clearTo ws n.toNat (64 * nWords n)

set_option maxRecDepth 100000 in set_option maxHeartbeats 4000000 in
theorem ref03_May (n : Int) (base : Option Addr) (cap : Nat) (ws : List Nat) (w : World) (hr : SetIn w base ws) (hn : nMay n) :
    Calls Tryd.prog 88 #[.int .i64 n, .slice base ws.length cap] w fun e w' => e = .returned (.bool (refMay n ws)) ∧ w' = w := by
  have hp := nWords_pos hn
  have hlen := hr.len
  have HR := Lib.hid hr
  have hn' := hn
  unfold nMay at hn'
  obtain ⟨n0, n1⟩ := hn'
  have hw0 : 64 * ((nWords n : Int) - 1) < n := by unfold nWords; omega
  have hw1 : n ≤ 64 * (nWords n : Int) := by unfold nWords; omega
  clear hr hn
  go_enter Tryd.func88, Tryd.ntmps88
  go_wp2_with fail
  go_loop [5] (fun v => ∃ k : Nat, k ≤ nWords n ∧ v = .int .i64 k) (fun v => nWords n - (intOf v).toNat)
  case atStart => exact ⟨0, Nat.zero_le _, rfl⟩
  case round =>
    obtain ⟨k, hk, rfl⟩ := hrel
    by_cases hlt : k < nWords n
    · have h64 : 64 * (k : Int) < n := by omega
      go_wp2_with fail
      go_round
      case rel => exact ⟨k + 1, by omega, by go_num⟩
      case measure => simp [intOf]; omega
    · obtain rfl : k = nWords n := by omega
      by_cases hl : ws.length = nWords n
      · have e1 : ((ws.length : Int) != (nWords n : Int)) = false := by rw [bne_eq_false_iff_eq]; omega
        have hq := Lib.hid (show refMay n ws = clearTo ws n.toNat (64 * nWords n) by simp [refMay, hl])
        have hl1 : ws.length ≤ nWords n := by omega
        have hl2 : nWords n ≤ ws.length := by omega
        clear hl
        go_wp2_with fail
        go_loop [6] (fun v => ∃ k : Nat, n.toNat ≤ k ∧ k ≤ 64 * nWords n ∧ v = .int .i64 k ∧ clearTo ws n.toNat k = true) (fun v => 64 * nWords n - (intOf v).toNat)
        case atStart => exact ⟨n.toNat, Nat.le_refl _, by omega, by rw [Int.toNat_of_nonneg (by omega)], clearTo_zero _ _⟩
        case round =>
          obtain ⟨k, hk0, hk1, rfl, hcl⟩ := hrel
          have HC := Lib.hid hcl
          clear hcl
          by_cases hlt2 : k < 64 * nWords n
          · cases ht : there ws k with
            | true =>
              have hf := Lib.hid (hq.out.trans (clearTo_no ws n.toNat k _ hk0 hlt2 ht))
              go_wp2_with ((go_at_call 91; refine (ref03_There base cap ws k _ HR.out (by omega)).mono ?_; rintro e w1 ⟨rfl, rfl⟩))
              go_returns
              exact ⟨by rw [hf.out]; rfl, rfl⟩
            | false =>
              have hf := Lib.hid ((clearTo_succ ws n.toNat k hk0).trans (by rw [HC.out, ht]; rfl : _ = true))
              go_wp2_with ((go_at_call 91; refine (ref03_There base cap ws k _ HR.out (by omega)).mono ?_; rintro e w1 ⟨rfl, rfl⟩))
              go_round
              case rel => exact ⟨k + 1, by omega, by omega, by go_num, hf.out⟩
              case measure => simp [intOf]; omega
          · obtain rfl : k = 64 * nWords n := by omega
            go_wp2_with fail
            go_returns
            exact ⟨by rw [hq.out, HC.out]; rfl, rfl⟩
      · have e1 : ((ws.length : Int) != (nWords n : Int)) = true := by rw [bne_iff_ne]; omega
        have hq := Lib.hid (show refMay n ws = false by simp [refMay, hl])
        go_wp2_with fail
        go_returns
        exact ⟨by rw [hq.out]; rfl, rfl⟩
end Go.Proofs.YthabpiphfaedaaaDoor
