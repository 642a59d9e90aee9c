/- FAULT, the document: whether numbers are marks; a mark's place; what is asked. -/
import Derived.Test.YthabpiphfaedaaaQ0Fault1
namespace Go.Proofs.Ythabpiphfaedaaa

section
open Go.RowKit Go.Shelf

set_option maxRecDepth 100000 in set_option maxHeartbeats 4000000 in
theorem same_ref (ba bb : Option Addr) (ca cb : Nat) (a b : List Int) (w : World) (ha : IIn w ba a) (hb : IIn w bb b) :
    Calls Try.prog 28 #[.slice ba a.length ca, .slice bb b.length cb] w (RB w (.bool (decide (a = b)))) := by
  have HA := Lib.hid ha
  have HB := Lib.hid hb
  have hla := ha.len
  have hlb := hb.len
  clear ha hb
  by_cases hl : a.length = b.length
  · have HL := Lib.hid hl
    have HX := Lib.hid (fun h => List.ext_getElem (l₁ := a) (l₂ := b) hl h)
    have hll : (a.length == b.length) = true := by simpa using hl
    have hln : (a.length != b.length) = false := by simpa using hl
    clear hl
    go_enter Try.func28, Try.ntmps28
    go_wp2_with fail
    go_loopw [5] (fun i wr => ∃ k : Nat, k ≤ a.length ∧ i = .int .i64 k ∧ (∀ j (h1 : j < a.length) (h2 : j < b.length), j < k → a[j] = b[j]) ∧ Below w.heap.size w wr) (fun i _ => a.length - (intOf i).toNat)
    case atStart => exact ⟨0, Nat.zero_le _, rfl, fun j _ _ h => absurd h (by omega), Below.refl _ _⟩
    case round =>
      obtain ⟨k, hk, rfl, hall, hbel⟩ := hrel
      have HW := Lib.hid hbel
      have HF := Lib.hid hall
      clear hbel hall
      by_cases hlt : k < a.length
      · have hlt2 : k < b.length := by have := HL.out; omega
        obtain ⟨b1, o1, rfl, c0, hbl1⟩ := (HA.out.keep HW.out).at hlt
        obtain ⟨b2, o2, rfl, d0, hbl2⟩ := (HB.out.keep HW.out).at hlt2
        have hnx := Lib.hid (fun (h : a[k] = b[k]) (j : Nat) (h1 : j < a.length) (h2 : j < b.length) (hjk : j < k + 1) => show a[j] = b[j] by
          rcases Nat.lt_or_ge j k with h5 | h5
          · exact HF.out j h1 h2 h5
          · have : j = k := by omega
            subst this; exact h)
        have hno := Lib.hid (fun (h : a[k] ≠ b[k]) => show decide (a = b) = false by
          rw [decide_eq_false_iff_not]; intro e; subst e; exact h rfl)
        obtain ⟨x, hx⟩ : ∃ x, x = a[k] := ⟨_, rfl⟩
        obtain ⟨y, hy⟩ : ∃ y, y = b[k] := ⟨_, rfl⟩
        rw [← hx] at c0 hnx hno
        rw [← hy] at d0 hnx hno
        clear hx hy
        by_cases hr : x = y
        · have heq : (x == y) = true := by simpa using hr
          have heq2 : (x != y) = false := by simpa using hr
          have hyes := Lib.hid (hnx.out hr)
          clear hnx hno hr
          go_wp2_with (refine wp_region_quiet_lit (by kernel_rfl) (by kernel_rfl) ?_; (repeat (any_goals (first | go_big_quiet_step (fail) | quiet_step (fail) | (refine wpQuiet_step (fun K hK => ?_); go_simp; split <;> (refine hK _ ?_; clear hK K))))); all_goals (refine wpQuiet_nil ?_; intro _ hw'; obtain ⟨nq, hw''⟩ := hw'; subst hw''))
          all_goals
            go_roundw
            case rel => exact ⟨k + 1, by omega, by go_num, hyes.out, by first | exact HW.out | exact below_drewN HW.out _⟩
            case measure => (simp [intOf] <;> omega)
        · have heq : (x == y) = false := by simpa using hr
          have heq2 : (x != y) = true := by simpa using hr
          have hyes := Lib.hid (hno.out hr)
          clear hnx hno hr
          go_wp2_with (refine wp_region_quiet_lit (by kernel_rfl) (by kernel_rfl) ?_; (repeat (any_goals (first | go_big_quiet_step (fail) | quiet_step (fail) | (refine wpQuiet_step (fun K hK => ?_); go_simp; split <;> (refine hK _ ?_; clear hK K))))); all_goals (refine wpQuiet_nil ?_; intro _ hw'; obtain ⟨nq, hw''⟩ := hw'; subst hw''))
          all_goals
            go_returns
            exact ⟨by rw [hyes.out]; rfl, by first | exact HW.out | exact below_drewN HW.out _⟩
      · obtain rfl : k = a.length := by omega
        have hq := Lib.hid (show decide (a = b) = true by rw [decide_eq_true_iff]; exact HX.out (fun j h1 h2 => HF.out j h1 h2 h1))
        go_wp2_with fail
        go_returns
        exact ⟨by rw [hq.out]; rfl, HW.out⟩
  · have hq := Lib.hid (show decide (a = b) = false by rw [decide_eq_false_iff_not]; intro e; subst e; exact hl rfl)
    have hll : (a.length == b.length) = false := by simpa using hl
    have hln : (a.length != b.length) = true := by simpa using hl
    clear hl
    go_enter Try.func28, Try.ntmps28
    go_wp2_with fail
    go_returns
    exact ⟨by rw [hq.out]; rfl, by (repeat (first | (with_reducible exact Below.refl _ _) | (with_reducible assumption) | (with_reducible refine below_alloc ?_ _) | (with_reducible refine below_drewN ?_ _) | (with_reducible refine Below.drew ?_) | (with_reducible refine below_then ?_ (by with_reducible assumption)) | (with_reducible refine Below.setCell ?_ (by go_size) _)))⟩
end

section
open Go.RowKit Go.Shelf

theorem lastM_ge {n : Int} {l : List Int} {k : Nat} (hk : k ≤ l.length) (h : mk n (-1) (l.take k) = true) : -1 ≤ lastM l k := by
  unfold lastM
  split
  · omega
  · next e =>
    have hj : k - 1 < l.length := by omega
    rw [List.getElem?_eq_getElem hj]
    have := (mk_iff.1 h).1 l[k - 1] (by rw [List.mem_take_iff_getElem]; exact ⟨k - 1, by omega, rfl⟩)
    show -1 ≤ l[k - 1]
    omega
set_option maxRecDepth 100000 in set_option maxHeartbeats 4000000 in
theorem ref17_Marks (n : Int) (base : Option Addr) (cap : Nat) (l : List Int) (w : World) (hl : IIn w base l) : Calls Try.prog 54 #[.int .i64 n, .slice base l.length cap] w (RB w (.bool (mk n (-1) l))) := by
  have HC := Lib.hid hl
  have hlen := hl.len
  clear hl
  go_enter Try.func54, Try.ntmps54
  go_wp2_with fail
  go_loopw [5] (fun i wr => ∃ k : Nat, k ≤ l.length ∧ i = .int .i64 k ∧ mk n (-1) (l.take k) = true ∧ Below w.heap.size w wr) (fun i _ => l.length - (intOf i).toNat)
  case atStart => exact ⟨0, Nat.zero_le _, rfl, rfl, Below.refl _ _⟩
  case round =>
    obtain ⟨k, hk, rfl, hmk, hbel⟩ := hrel
    have HB := Lib.hid hbel
    have HM := Lib.hid hmk
    have hge := lastM_ge hk hmk
    clear hbel hmk
    by_cases hlt : k < l.length
    · obtain ⟨b, off, rfl, c0, hbl⟩ := (HC.out.keep HB.out).at hlt
      have hs := Lib.hid (mk_take_succ hlt n)
      have hno0 := Lib.hid (fun (h : mk n (-1) (l.take (k + 1)) = false) => mk_take_no h)
      by_cases h0 : k = 0
      · subst h0
        have hla : lastM l 0 = -1 := rfl
        rw [hla] at hs hge
        rw [Nat.add_zero] at c0
        obtain ⟨x, hx⟩ : ∃ x, x = l[0] := ⟨_, rfl⟩
        rw [← hx] at c0 hs
        clear hx hla hge
        by_cases h1 : x < 0
        · have hno := Lib.hid (hno0.out (by rw [hs.out, decide_eq_true (show x ≤ -1 by omega)]; simp))
          have d1 : decide (x < 0) = true := decide_eq_true h1
          clear hs hno0
          (go_wp2_with (refine wp_region_quiet_lit (by kernel_rfl) (by kernel_rfl) ?_; (repeat (any_goals (first | go_big_quiet_step (fail) | quiet_step (fail) | (refine wpQuiet_step (fun K hK => ?_); go_simp; split <;> (refine hK _ ?_; clear hK K))))); all_goals (refine wpQuiet_nil ?_; intro _ hw'; obtain ⟨nq, hw''⟩ := hw'; subst hw'')); all_goals (go_returns; exact ⟨by rw [hno.out]; rfl, by first | exact HB.out | exact below_drewN HB.out _⟩))
        have d1 : decide (x < 0) = false := decide_eq_false h1
        by_cases h2 : n ≤ x
        · have hno := Lib.hid (hno0.out (by rw [hs.out, decide_eq_true h2]; simp))
          have d2 : decide (n ≤ x) = true := decide_eq_true h2
          clear hs hno0
          (go_wp2_with (refine wp_region_quiet_lit (by kernel_rfl) (by kernel_rfl) ?_; (repeat (any_goals (first | go_big_quiet_step (fail) | quiet_step (fail) | (refine wpQuiet_step (fun K hK => ?_); go_simp; split <;> (refine hK _ ?_; clear hK K))))); all_goals (refine wpQuiet_nil ?_; intro _ hw'; obtain ⟨nq, hw''⟩ := hw'; subst hw'')); all_goals (go_returns; exact ⟨by rw [hno.out]; rfl, by first | exact HB.out | exact below_drewN HB.out _⟩))
        have d2 : decide (n ≤ x) = false := decide_eq_false h2
        have hyes := Lib.hid (show mk n (-1) (l.take (0 + 1)) = true by rw [hs.out, HM.out, decide_eq_false h2, decide_eq_false (show ¬ x ≤ -1 by omega)]; rfl)
        clear hs hno0
        (go_wp2_with (refine wp_region_quiet_lit (by kernel_rfl) (by kernel_rfl) ?_; (repeat (any_goals (first | go_big_quiet_step (fail) | quiet_step (fail) | (refine wpQuiet_step (fun K hK => ?_); go_simp; split <;> (refine hK _ ?_; clear hK K))))); all_goals (refine wpQuiet_nil ?_; intro _ hw'; obtain ⟨nq, hw''⟩ := hw'; subst hw'')); all_goals (go_roundw; (case rel => exact ⟨0 + 1, by omega, by go_num, hyes.out, by first | exact HB.out | exact below_drewN HB.out _⟩); (case measure => (simp [intOf] <;> omega))))
      · have hk0 : decide (0 < k) = true := decide_eq_true (by omega)
        have hk1 : k - 1 < l.length := by omega
        obtain ⟨b', off', e, c1, _⟩ := (HC.out.keep HB.out).at hk1
        cases e
        have hla : lastM l k = l[k - 1] := by have := lastM_succ hk1; rwa [show k - 1 + 1 = k by omega] at this
        rw [hla] at hs hge
        have e2 : (k : Int) - 1 = ((k - 1 : Nat) : Int) := by omega
        obtain ⟨x, hx⟩ : ∃ x, x = l[k] := ⟨_, rfl⟩
        obtain ⟨y, hy⟩ : ∃ y, y = l[k - 1] := ⟨_, rfl⟩
        rw [← hx] at c0 hs
        rw [← hy] at c1 hs hge
        clear hx hy hla
        by_cases h1 : x < 0
        · have hno := Lib.hid (hno0.out (by rw [hs.out, decide_eq_true (show x ≤ y by omega)]; simp))
          have d1 : decide (x < 0) = true := decide_eq_true h1
          clear hs hno0
          (go_wp2_with (refine wp_region_quiet_lit (by kernel_rfl) (by kernel_rfl) ?_; (repeat (any_goals (first | go_big_quiet_step (fail) | quiet_step (fail) | (refine wpQuiet_step (fun K hK => ?_); go_simp; split <;> (refine hK _ ?_; clear hK K))))); all_goals (refine wpQuiet_nil ?_; intro _ hw'; obtain ⟨nq, hw''⟩ := hw'; subst hw'')); all_goals (go_returns; exact ⟨by rw [hno.out]; rfl, by first | exact HB.out | exact below_drewN HB.out _⟩))
        have d1 : decide (x < 0) = false := decide_eq_false h1
        by_cases h2 : n ≤ x
        · have hno := Lib.hid (hno0.out (by rw [hs.out, decide_eq_true h2]; simp))
          have d2 : decide (n ≤ x) = true := decide_eq_true h2
          clear hs hno0
          (go_wp2_with (refine wp_region_quiet_lit (by kernel_rfl) (by kernel_rfl) ?_; (repeat (any_goals (first | go_big_quiet_step (fail) | quiet_step (fail) | (refine wpQuiet_step (fun K hK => ?_); go_simp; split <;> (refine hK _ ?_; clear hK K))))); all_goals (refine wpQuiet_nil ?_; intro _ hw'; obtain ⟨nq, hw''⟩ := hw'; subst hw'')); all_goals (go_returns; exact ⟨by rw [hno.out]; rfl, by first | exact HB.out | exact below_drewN HB.out _⟩))
        have d2 : decide (n ≤ x) = false := decide_eq_false h2
        by_cases h3 : x ≤ y
        · have hno := Lib.hid (hno0.out (by rw [hs.out, decide_eq_true h3]; simp))
          have d3 : decide (x ≤ y) = true := decide_eq_true h3
          clear hs hno0
          (go_wp2_with (refine wp_region_quiet_lit (by kernel_rfl) (by kernel_rfl) ?_; (repeat (any_goals (first | go_big_quiet_step (fail) | quiet_step (fail) | (refine wpQuiet_step (fun K hK => ?_); go_simp; split <;> (refine hK _ ?_; clear hK K))))); all_goals (refine wpQuiet_nil ?_; intro _ hw'; obtain ⟨nq, hw''⟩ := hw'; subst hw'')); all_goals (go_returns; exact ⟨by rw [hno.out]; rfl, by first | exact HB.out | exact below_drewN HB.out _⟩))
        have d3 : decide (x ≤ y) = false := decide_eq_false h3
        have hyes := Lib.hid (show mk n (-1) (l.take (k + 1)) = true by rw [hs.out, HM.out, decide_eq_false h2, decide_eq_false h3]; rfl)
        clear hs hno0
        (go_wp2_with (refine wp_region_quiet_lit (by kernel_rfl) (by kernel_rfl) ?_; (repeat (any_goals (first | go_big_quiet_step (fail) | quiet_step (fail) | (refine wpQuiet_step (fun K hK => ?_); go_simp; split <;> (refine hK _ ?_; clear hK K))))); all_goals (refine wpQuiet_nil ?_; intro _ hw'; obtain ⟨nq, hw''⟩ := hw'; subst hw'')); all_goals (go_roundw; (case rel => exact ⟨k + 1, by omega, by go_num, hyes.out, by first | exact HB.out | exact below_drewN HB.out _⟩); (case measure => (simp [intOf] <;> omega))))
    · obtain rfl : k = l.length := by omega
      have hyes := Lib.hid (show mk n (-1) l = true by have := HM.out; rwa [List.take_length] at this)
      go_wp2_with fail
      go_returns
      exact ⟨by rw [hyes.out]; rfl, HB.out⟩

/-- A mark's place. -/
def RAt (w : World) (l : List Int) (k : Int) : Ending → World → Prop := fun e w' => (∃ r : Int, e = .returned (.int .i64 r) ∧ (k ∈ l → 0 ≤ r) ∧ (k ∉ l → r = -1)) ∧ Below w.heap.size w w'
end
end Go.Proofs.Ythabpiphfaedaaa
