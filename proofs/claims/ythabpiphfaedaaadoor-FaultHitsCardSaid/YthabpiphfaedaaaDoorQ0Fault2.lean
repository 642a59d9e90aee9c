/- FAULT: slices.BinarySearch at numbers; two lists the same. -/
import Derived.Test.YthabpiphfaedaaaDoorQ0Fault1
namespace Go.Proofs.YthabpiphfaedaaaDoor

section
open Go.RowKit Go.Shelf

set_option maxRecDepth 100000 in set_option maxHeartbeats 4000000 in
theorem same_law (ba bb : Option Addr) (ca cb : Nat) (a b : List Int) (w : World) (ha : IIn w ba a) (hb : IIn w bb b) :
    Calls Tryd.prog 40 #[.slice ba a.length ca, .slice bb b.length cb] w (RB w (.bool (decide (a = b)))) := by
  have HA := Lib.hid ha
  have HB := Lib.hid hb
  have hla := ha.len
  have hlb := hb.len
  clear ha hb
  by_cases hl : a.length = b.length
  · have HL := Lib.hid hl
    have HX := Lib.hid (fun h => List.ext_getElem (l₁ := a) (l₂ := b) hl h)
    have hll : (a.length == b.length) = true := by simpa using hl
    have hln : (a.length != b.length) = false := by simpa using hl
    clear hl
    go_enter Tryd.func40, Tryd.ntmps40
    go_wp2_with fail
    go_loopw [5] (fun i wr => ∃ k : Nat, k ≤ a.length ∧ i = .int .i64 k ∧ (∀ j (h1 : j < a.length) (h2 : j < b.length), j < k → a[j] = b[j]) ∧ Below w.heap.size w wr) (fun i _ => a.length - (intOf i).toNat)
    case atStart => exact ⟨0, Nat.zero_le _, rfl, fun j _ _ h => absurd h (by omega), Below.refl _ _⟩
    case round =>
      obtain ⟨k, hk, rfl, hall, hbel⟩ := hrel
      have HW := Lib.hid hbel
      have HF := Lib.hid hall
      clear hbel hall
      by_cases hlt : k < a.length
      · have hlt2 : k < b.length := by have := HL.out; omega
        obtain ⟨b1, o1, rfl, c0, hbl1⟩ := (HA.out.keep HW.out).at hlt
        obtain ⟨b2, o2, rfl, d0, hbl2⟩ := (HB.out.keep HW.out).at hlt2
        have hnx := Lib.hid (fun (h : a[k] = b[k]) (j : Nat) (h1 : j < a.length) (h2 : j < b.length) (hjk : j < k + 1) => show a[j] = b[j] by
          rcases Nat.lt_or_ge j k with h5 | h5
          · exact HF.out j h1 h2 h5
          · have : j = k := by omega
            subst this; exact h)
        have hno := Lib.hid (fun (h : a[k] ≠ b[k]) => show decide (a = b) = false by
          rw [decide_eq_false_iff_not]; intro e; subst e; exact h rfl)
        obtain ⟨x, hx⟩ : ∃ x, x = a[k] := ⟨_, rfl⟩
        obtain ⟨y, hy⟩ : ∃ y, y = b[k] := ⟨_, rfl⟩
        rw [← hx] at c0 hnx hno
        rw [← hy] at d0 hnx hno
        clear hx hy
        by_cases hr : x = y
        · have heq : (x == y) = true := by simpa using hr
          have heq2 : (x != y) = false := by simpa using hr
          have hyes := Lib.hid (hnx.out hr)
          clear hnx hno hr
          go_wp2_with (refine wp_region_quiet_lit (by kernel_rfl) (by kernel_rfl) ?_; (repeat (any_goals (first | go_big_quiet_step (fail) | quiet_step (fail) | (refine wpQuiet_step (fun K hK => ?_); go_simp; split <;> (refine hK _ ?_; clear hK K))))); all_goals (refine wpQuiet_nil ?_; intro _ hw'; obtain ⟨nq, hw''⟩ := hw'; subst hw''))
          all_goals
            go_roundw
            case rel => exact ⟨k + 1, by omega, by go_num, hyes.out, by first | exact HW.out | exact below_drewN HW.out _⟩
            case measure => (simp [intOf] <;> omega)
        · have heq : (x == y) = false := by simpa using hr
          have heq2 : (x != y) = true := by simpa using hr
          have hyes := Lib.hid (hno.out hr)
          clear hnx hno hr
          go_wp2_with (refine wp_region_quiet_lit (by kernel_rfl) (by kernel_rfl) ?_; (repeat (any_goals (first | go_big_quiet_step (fail) | quiet_step (fail) | (refine wpQuiet_step (fun K hK => ?_); go_simp; split <;> (refine hK _ ?_; clear hK K))))); all_goals (refine wpQuiet_nil ?_; intro _ hw'; obtain ⟨nq, hw''⟩ := hw'; subst hw''))
          all_goals
            go_returns
            exact ⟨by rw [hyes.out]; rfl, by first | exact HW.out | exact below_drewN HW.out _⟩
      · obtain rfl : k = a.length := by omega
        have hq := Lib.hid (show decide (a = b) = true by rw [decide_eq_true_iff]; exact HX.out (fun j h1 h2 => HF.out j h1 h2 h1))
        go_wp2_with fail
        go_returns
        exact ⟨by rw [hq.out]; rfl, HW.out⟩
  · have hq := Lib.hid (show decide (a = b) = false by rw [decide_eq_false_iff_not]; intro e; subst e; exact hl rfl)
    have hll : (a.length == b.length) = false := by simpa using hl
    have hln : (a.length != b.length) = true := by simpa using hl
    clear hl
    go_enter Tryd.func40, Tryd.ntmps40
    go_wp2_with fail
    go_returns
    exact ⟨by rw [hq.out]; rfl, by (repeat (first | (with_reducible exact Below.refl _ _) | (with_reducible assumption) | (with_reducible refine below_alloc ?_ _) | (with_reducible refine below_drewN ?_ _) | (with_reducible refine Below.drew ?_) | (with_reducible refine below_then ?_ (by with_reducible assumption)) | (with_reducible refine Below.setCell ?_ (by go_size) _)))⟩
end
end Go.Proofs.YthabpiphfaedaaaDoor
