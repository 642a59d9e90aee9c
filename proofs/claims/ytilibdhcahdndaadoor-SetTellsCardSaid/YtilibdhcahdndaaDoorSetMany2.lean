/- REF 03: a set's numbers; how many there are. -/
import Derived.Test.YtilibdhcahdndaaDoorSetMany
namespace Go.Proofs.YtilibdhcahdndaaDoor
open Go.RowKit Go.Shelf

def listV (n : Int) (ws : List Nat) : List Int := if sChk n ws = 0 then nums ws else []
theorem sChk_len {n : Int} {ws : List Nat} (h : sChk n ws = 0) : ws.length ≤ 192 := by
  obtain ⟨hn, hlen, _⟩ := sMay_len h
  have hp := (nWords_pos hn).2
  omega

set_option maxRecDepth 100000 in set_option maxHeartbeats 4000000 in
theorem ref03_List (n : Int) (base : Option Addr) (cap : Nat) (ws : List Nat) (w : World) (hs : SetIn w base ws) :
    Calls Tryd.prog 19 #[.int .i64 n, .slice base ws.length cap] w (RIE w (listV n ws) (sChk n ws)) := by
  have HC := Lib.hid (ref03_Check n base cap ws w hs)
  by_cases hz : sChk n ws = 0
  · have hy2 : (sChk n ws != 0) = false := by simpa using hz
    have hv := Lib.hid (show listV n ws = nums ws from if_pos hz)
    have hz0 := Lib.hid hz
    have HA := Lib.hid (ref03_All base cap ws w hs (by have := sChk_len hz; omega))
    clear hz
    go_enter Tryd.func19, Tryd.ntmps19
    go_wp2_with ((with_reducible refine HC.out.mono ?_); rintro e w3 ⟨rfl, hw3⟩; have hw3 := hw3.symm; subst hw3)
    refine HA.out.mono ?_
    rintro e w1 ⟨v, rfl, ho, hb1⟩
    go_wp2_with fail
    go_returns
    exact ⟨v, by rw [hz0.out]; rfl, by rw [hv.out]; exact ho, hb1⟩
  · have hy2 : (sChk n ws != 0) = true := by simpa using hz
    have hv := Lib.hid (show listV n ws = [] from if_neg hz)
    clear hz
    go_enter Tryd.func19, Tryd.ntmps19
    go_wp2_with ((with_reducible refine HC.out.mono ?_); rintro e w3 ⟨rfl, hw3⟩; have hw3 := hw3.symm; subst hw3)
    go_returns
    exact ⟨_, rfl, by rw [hv.out]; exact World.ownsRow_nil _ _ _ _, by (repeat (first | (with_reducible exact Below.refl _ _) | (with_reducible assumption) | (with_reducible refine below_alloc ?_ _) | (with_reducible refine below_drewN ?_ _) | (with_reducible refine Below.drew ?_) | (with_reducible refine below_then ?_ (by with_reducible assumption)) | (with_reducible refine Below.setCell ?_ (by go_size) _)))⟩

set_option maxRecDepth 100000 in set_option maxHeartbeats 4000000 in
theorem ref03_Many (n : Int) (base : Option Addr) (cap : Nat) (ws : List Nat) (w : World) (hs : SetIn w base ws) :
    Calls Tryd.prog 21 #[.int .i64 n, .slice base ws.length cap] w (RB w (.tuple #[.int .i64 (manyV n ws), .int .i64 (sChk n ws)])) := by
  have HC := Lib.hid (ref03_Check n base cap ws w hs)
  by_cases hz : sChk n ws = 0
  · have hy2 : (sChk n ws != 0) = false := by simpa using hz
    have hv := Lib.hid (show manyV n ws = ((nums ws).length : Int) from if_pos hz)
    have hz0 := Lib.hid hz
    have hl := sChk_len hz
    have HA := Lib.hid (ref03_All base cap ws w hs (by omega))
    have hnl := numsTo_len ws (64 * ws.length)
    change (nums ws).length ≤ _ at hnl
    clear hz
    go_enter Tryd.func21, Tryd.ntmps21
    go_wp2_with ((with_reducible refine HC.out.mono ?_); rintro e w3 ⟨rfl, hw3⟩; have hw3 := hw3.symm; subst hw3)
    refine HA.out.mono ?_
    rintro e w1 ⟨v, rfl, ho, hb1⟩
    obtain ⟨bs, cp, rfl, _, _⟩ := own_rd ho
    go_wp2_with fail
    go_returns
    exact ⟨by rw [hv.out, hz0.out]; rfl, hb1⟩
  · have hy2 : (sChk n ws != 0) = true := by simpa using hz
    have hv := Lib.hid (show manyV n ws = 0 from if_neg hz)
    clear hz
    go_enter Tryd.func21, Tryd.ntmps21
    go_wp2_with ((with_reducible refine HC.out.mono ?_); rintro e w3 ⟨rfl, hw3⟩; have hw3 := hw3.symm; subst hw3)
    go_returns
    exact ⟨by rw [hv.out]; rfl, by (repeat (first | (with_reducible exact Below.refl _ _) | (with_reducible assumption) | (with_reducible refine below_alloc ?_ _) | (with_reducible refine below_drewN ?_ _) | (with_reducible refine Below.drew ?_) | (with_reducible refine below_then ?_ (by with_reducible assumption)) | (with_reducible refine Below.setCell ?_ (by go_size) _)))⟩
end Go.Proofs.YtilibdhcahdndaaDoor
