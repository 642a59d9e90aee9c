/- SET: how many words, and whether a set may be. -/
import Derived.Test.YtofoenlhbmammaaProg
import Derived.WalkSpells
import Derived.Test.YtofoenlhbmammaaQ0OwnG13
set_option linter.unusedVariables false
set_option linter.unusedSimpArgs false
namespace Go.Proofs.Ytofoenlhbmammaa

section
open Go.RowKit Go.Shelf

/-- Words, as they lie. -/
def wcells (ws : List Nat) : List Value := ws.map (fun (x : Nat) => Value.int .u64 (x : Int))
theorem wcells_len (ws : List Nat) : (wcells ws).length = ws.length := by simp [wcells]
theorem wcells_at {ws : List Nat} {k : Nat} (h : k < ws.length) : (wcells ws)[k]? = some (.int .u64 (ws[k] : Int)) := by simp [wcells, h]
/-- Each word fits. -/
def W64 (ws : List Nat) : Prop := ∀ x ∈ ws, x < 18446744073709551616

def nMay (n : Int) : Prop := 1 ≤ n ∧ n ≤ 12288
instance (n : Int) : Decidable (nMay n) := by unfold nMay; infer_instance
def nWords (n : Int) : Nat := ((n + 63) / 64).toNat
/-- No bit at n or beyond. -/
def topClear (n : Int) (ws : List Nat) : Bool := decide (n % 64 = 0) || decide (ws.getD (nWords n - 1) 0 / 2 ^ (n % 64).toNat = 0)
def setMay (n : Int) (ws : List Nat) : Prop := ws.length = nWords n ∧ topClear n ws = true
instance (n : Int) (ws : List Nat) : Decidable (setMay n ws) := by unfold setMay; infer_instance
/-- The error of a set. -/
def sChk (n : Int) (ws : List Nat) : Int := if nMay n then okIf (setMay n ws) 8 else 2

set_option maxRecDepth 100000 in set_option maxHeartbeats 4000000 in
theorem set_words_no (n : Int) (w : World) (h : ¬ nMay n) : Calls Try.prog 52 #[.int .i64 n] w fun e w' => e = .returned (.int .i64 (-1)) ∧ w' = w := by
  unfold nMay at h
  by_cases h1 : n < 1
  · go_enter Try.func52, Try.ntmps52
    go_wp2
    go_returns
    exact ⟨rfl, rfl⟩
  · have h2 : 12288 < n := by omega
    go_enter Try.func52, Try.ntmps52
    go_wp2
    go_returns
    exact ⟨rfl, rfl⟩

set_option maxRecDepth 100000 in set_option maxHeartbeats 4000000 in
theorem set_words_ok (n : Int) (w : World) (h : nMay n) : Calls Try.prog 52 #[.int .i64 n] w fun e w' => e = .returned (.int .i64 (nWords n : Int)) ∧ w' = w := by
  unfold nMay at h
  obtain ⟨h1, h2⟩ := h
  have h3 : ¬ n < 1 := by omega
  have e1 : (n + 64 - 1) / 64 = (nWords n : Int) := by unfold nWords; omega
  have e1 := Lib.hid e1
  go_enter Try.func52, Try.ntmps52
  go_wp2
  go_returns
  refine ⟨?_, rfl⟩
  rw [← e1.out]; rfl

theorem nWords_pos {n : Int} (h : nMay n) : 1 ≤ nWords n ∧ nWords n ≤ 192 := by unfold nMay at h; unfold nWords; omega

set_option maxRecDepth 100000 in set_option maxHeartbeats 4000000 in
theorem set_Check (n : Int) (base : Option Addr) (cap : Nat) (ws : List Nat) (w : World) (hr : Rd w base (wcells ws)) (hl : ws.length ≤ 4611686018427387904) (h64 : W64 ws) :
    Calls Try.prog 35 #[.int .i64 n, .slice base ws.length cap] w fun e w' => e = .returned (.int .i64 (sChk n ws)) ∧ w' = w := by
  by_cases hn : nMay n
  · have hp := nWords_pos hn
    by_cases hlen : ws.length = nWords n
    · have hw : nWords n - 1 < ws.length := by omega
      obtain ⟨b, off, rfl, hc⟩ := hr _ _ (wcells_at hw)
      have hb := h64 _ (List.getElem_mem hw)
      have e0 : ((ws.length : Int) != (nWords n : Int)) = false := by rw [bne_eq_false_iff_eq]; omega
      have e3 : (nWords n : Int) - 1 = ((nWords n - 1 : Nat) : Int) := by omega
      have hn' := hn
      unfold nMay at hn'
      have m0 : 0 ≤ n % 64 := by omega
      have m1 : n % 64 < 64 := by omega
      have p0 : 0 < nWords n := by omega
      have hg : ws.getD (nWords n - 1) 0 = ws[nWords n - 1] := by simp [hw]
      by_cases hm : n % 64 ≤ 0
      · have ht : topClear n ws = true := by simp [topClear, show n % 64 = 0 by omega]
        have hq := Lib.hid (show sChk n ws = 0 by rw [sChk, if_pos hn, okIf_yes ⟨hlen, ht⟩])
        go_enter Try.func35, Try.ntmps35
        go_wp2_with ((go_at_call 52; refine (set_words_ok n _ hn).mono ?_; rintro e w1 ⟨rfl, rfl⟩))
        go_returns
        exact ⟨by rw [hq.out]; rfl, rfl⟩
      by_cases hz : ws[nWords n - 1] / 2 ^ (n % 64).toNat = 0
      · have ht : topClear n ws = true := by simp only [topClear, hg, hz]; simp
        have hq := Lib.hid (show sChk n ws = 0 by rw [sChk, if_pos hn, okIf_yes ⟨hlen, ht⟩])
        have hk : ((ws[nWords n - 1] : Int) / 2 ^ (n % 64).toNat != 0) = false := by rw [bne_eq_false_iff_eq]; exact_mod_cast hz
        clear hz ht hg
        go_enter Try.func35, Try.ntmps35
        go_wp2_with ((go_at_call 52; refine (set_words_ok n _ hn).mono ?_; rintro e w1 ⟨rfl, rfl⟩))
        go_returns
        exact ⟨by rw [hq.out]; rfl, rfl⟩
      · have ht : ¬ topClear n ws = true := by simp only [topClear, hg, hz]; simp; omega
        have hq := Lib.hid (show sChk n ws = 8 by rw [sChk, if_pos hn, okIf_no (fun h => ht h.2)])
        have hk : ((ws[nWords n - 1] : Int) / 2 ^ (n % 64).toNat != 0) = true := by rw [bne_iff_ne]; exact_mod_cast hz
        clear hz ht hg
        go_enter Try.func35, Try.ntmps35
        go_wp2_with ((go_at_call 52; refine (set_words_ok n _ hn).mono ?_; rintro e w1 ⟨rfl, rfl⟩))
        go_returns
        exact ⟨by rw [hq.out]; rfl, rfl⟩
    · have hq := Lib.hid (show sChk n ws = 8 by rw [sChk, if_pos hn, okIf_no (fun h => hlen h.1)])
      have e1 : ((ws.length : Int) == (nWords n : Int)) = false := by rw [beq_eq_false_iff_ne]; omega
      have e2 : ((ws.length : Int) != (nWords n : Int)) = true := by rw [bne_iff_ne]; omega
      go_enter Try.func35, Try.ntmps35
      go_wp2_with ((go_at_call 52; refine (set_words_ok n _ hn).mono ?_; rintro e w1 ⟨rfl, rfl⟩))
      go_returns
      exact ⟨by rw [hq.out]; rfl, rfl⟩
  · have hq := Lib.hid (show sChk n ws = 2 by rw [sChk, if_neg hn])
    go_enter Try.func35, Try.ntmps35
    go_wp2_with ((go_at_call 52; refine (set_words_no n _ hn).mono ?_; rintro e w1 ⟨rfl, rfl⟩))
    go_returns
    exact ⟨by rw [hq.out]; rfl, rfl⟩
end
end Go.Proofs.Ytofoenlhbmammaa
