/- SET, REF 03: how many there are. REF 02: whether two lists are the same. -/
import Derived.Test.YthabpiphfaedaaaDoorOnes
namespace Go.Proofs.YthabpiphfaedaaaDoor
open Go.RowKit Go.Shelf

theorem numsTo_word {ws : List Nat} {k : Nat} (h : k < ws.length) : (numsTo ws (64 * (k + 1))).length = (numsTo ws (64 * k)).length + popB 64 ws[k] := by
  unfold numsTo popB
  rw [show 64 * (k + 1) = 64 * k + 64 by omega, List.range_add, List.filter_append, List.map_append, List.length_append]
  congr 1
  rw [List.length_map, List.filter_map, List.length_map]
  congr 1
  apply List.filter_congr
  intro j hj
  rw [List.mem_range] at hj
  simp only [Function.comp_apply]
  rw [there_in (by omega), bitOf_test]
  simp only [show (64 * k + j) / 64 = k by omega, show (64 * k + j) % 64 = j by omega]

/-- How many there are in a set that may be. -/
def manyV (n : Int) (ws : List Nat) : Int := if sChk n ws = 0 then ((nums ws).length : Int) else 0

set_option maxRecDepth 100000 in set_option maxHeartbeats 4000000 in
theorem set_Many (n : Int) (base : Option Addr) (cap : Nat) (ws : List Nat) (w : World) (hs : SetIn w base ws) :
    Calls Tryd.prog 31 #[.int .i64 n, .slice base ws.length cap] w (RB w (.tuple #[.int .i64 (manyV n ws), .int .i64 (sChk n ws)])) := by
  have HC := Lib.hid (set_Check n base cap ws w hs.rd hs.len hs.fit)
  have HS := Lib.hid hs
  by_cases hz : sChk n ws = 0
  · have hy1 : (sChk n ws == 0) = true := by simpa using hz
    have hy2 : (sChk n ws != 0) = false := by simpa using hz
    have hv := Lib.hid (show manyV n ws = ((nums ws).length : Int) from if_pos hz)
    obtain ⟨hn, hlen, _⟩ := sMay_len hz
    have hp := (nWords_pos hn).2
    have hz0 := Lib.hid hz
    have hl192 : ws.length ≤ 192 := by omega
    clear hlen hp hz hs hn
    go_enter Tryd.func31, Tryd.ntmps31
    go_wp2_with ((with_reducible refine HC.out.mono ?_); rintro e w3 ⟨rfl, hw3⟩; have hw3 := hw3.symm; subst hw3)
    go_loopw [4, 15] (fun m i wr => ∃ k : Nat, k ≤ ws.length ∧ i = .int .i64 k ∧ m = .int .i64 ((numsTo ws (64 * k)).length : Nat) ∧ ∃ q, wr = w.drewN q) (fun _ i _ => ws.length - (intOf i).toNat)
    case atStart => exact ⟨0, Nat.zero_le _, rfl, rfl, 0, rfl⟩
    case round =>
      clear HC
      obtain ⟨k, hk, rfl, rfl, q, rfl⟩ := hrel
      by_cases hlt : k < ws.length
      · obtain ⟨b, off, rfl, hc⟩ := HS.out.rd k _ (wcells_at hlt)
        have hx := HS.out.fit _ (List.getElem_mem hlt)
        have hnw := Lib.hid (numsTo_word hlt)
        have hl1 := numsTo_len ws (64 * (k + 1))
        have hsm := Lib.hid (numsTo_word hlt)
        obtain ⟨m1, hm1⟩ : ∃ m, m = (numsTo ws (64 * k)).length := ⟨_, rfl⟩
        rw [hnw.out, ← hm1] at hl1
        rw [← hm1] at hnw hsm
        obtain ⟨x, hxx⟩ : ∃ x, x = ws[k] := ⟨_, rfl⟩
        rw [← hxx] at hc hx hnw hl1 hsm
        have HO := Lib.hid (fun w => ones64 x hx w)
        obtain ⟨pp, hpp⟩ : ∃ p, p = popB 64 x := ⟨_, rfl⟩
        rw [← hpp] at hnw hl1 HO hsm
        rw [← hm1]
        clear hxx hpp hm1
        go_wp2_with ((with_reducible refine (HO.out _).mono ?_); rintro e w3 ⟨rfl, hw3⟩; have hw3 := hw3.symm; subst hw3)
        all_goals
          go_roundw
          case rel => exact ⟨k + 1, by omega, by go_num, by rw [hnw.out]; go_num, _, rfl⟩
          case measure => simp [intOf]; omega
      · obtain rfl : k = ws.length := by omega
        go_wp2_with fail
        go_returns
        exact ⟨by rw [hv.out, hz0.out]; rfl, by (repeat (first | (with_reducible exact Below.refl _ _) | (with_reducible assumption) | (with_reducible refine below_alloc ?_ _) | (with_reducible refine below_drewN ?_ _) | (with_reducible refine Below.drew ?_) | (with_reducible refine below_then ?_ (by with_reducible assumption)) | (with_reducible refine Below.setCell ?_ (by go_size) _)))⟩
  · have hy1 : (sChk n ws == 0) = false := by simpa using hz
    have hy2 : (sChk n ws != 0) = true := by simpa using hz
    have hq := Lib.hid (show manyV n ws = 0 from if_neg hz)
    clear hz hs
    go_enter Tryd.func31, Tryd.ntmps31
    go_wp2_with ((with_reducible refine HC.out.mono ?_); rintro e w3 ⟨rfl, hw3⟩; have hw3 := hw3.symm; subst hw3)
    all_goals
      go_returns
      exact ⟨by rw [hq.out]; rfl, by (repeat (first | (with_reducible exact Below.refl _ _) | (with_reducible assumption) | (with_reducible refine below_alloc ?_ _) | (with_reducible refine below_drewN ?_ _) | (with_reducible refine Below.drew ?_) | (with_reducible refine below_then ?_ (by with_reducible assumption)) | (with_reducible refine Below.setCell ?_ (by go_size) _)))⟩
end Go.Proofs.YthabpiphfaedaaaDoor
