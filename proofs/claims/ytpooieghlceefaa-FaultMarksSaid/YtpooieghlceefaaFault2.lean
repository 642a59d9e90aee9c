/- FAULT: slices.BinarySearch at numbers; two lists the same. -/
import Derived.Test.YtpooieghlceefaaFault1
namespace Go.Proofs.Ytpooieghlceefaa
open Go.RowKit Go.Shelf

set_option maxRecDepth 100000 in set_option maxHeartbeats 4000000 in
theorem cmp_isNaN (x : Int) (w : World) : Calls Try.prog 91 #[.int .i64 x] w (RB w (.bool false)) := by
  go_enter Try.func91, Try.ntmps91
  go_wp2
  go_returns
  exact ⟨by simp, by (repeat (first | (with_reducible exact Below.refl _ _) | (with_reducible assumption) | (with_reducible refine below_alloc ?_ _) | (with_reducible refine below_drewN ?_ _) | (with_reducible refine Below.drew ?_) | (with_reducible refine below_then ?_ (by with_reducible assumption)) | (with_reducible refine Below.setCell ?_ (by go_size) _)))⟩
set_option maxRecDepth 100000 in set_option maxHeartbeats 4000000 in
theorem slices_isNaN (x : Int) (w : World) : Calls Try.prog 78 #[.int .i64 x] w (RB w (.bool false)) := by
  go_enter Try.func78, Try.ntmps78
  go_wp2
  go_returns
  exact ⟨by simp, by (repeat (first | (with_reducible exact Below.refl _ _) | (with_reducible assumption) | (with_reducible refine below_alloc ?_ _) | (with_reducible refine below_drewN ?_ _) | (with_reducible refine Below.drew ?_) | (with_reducible refine below_then ?_ (by with_reducible assumption)) | (with_reducible refine Below.setCell ?_ (by go_size) _)))⟩
set_option maxRecDepth 100000 in set_option maxHeartbeats 4000000 in
theorem cmp_Less (x y : Int) (w : World) : Calls Try.prog 77 #[.int .i64 x, .int .i64 y] w (RB w (.bool (decide (x < y)))) := by
  have H1 := Lib.hid (fun W => cmp_isNaN x W)
  cases hd : decide (x < y)
  · have h' : ¬ x < y := of_decide_eq_false hd
    go_enter Try.func77, Try.ntmps77
    go_wp2_with fail
    refine (H1.out _).mono ?_
    rintro e w1 ⟨rfl, hb1⟩
    go_wp2_with fail
    go_returns
    exact ⟨rfl, hb1⟩
  · have h' : x < y := of_decide_eq_true hd
    go_enter Try.func77, Try.ntmps77
    go_wp2_with fail
    refine (H1.out _).mono ?_
    rintro e w1 ⟨rfl, hb1⟩
    go_wp2_with fail
    go_returns
    exact ⟨rfl, hb1⟩

set_option maxRecDepth 100000 in set_option maxHeartbeats 4000000 in
theorem bsearch (base : Option Addr) (cap : Nat) (l : List Int) (a : Int) (w : World) (hl : IIn w base l) (hs : l.Pairwise (· < ·)) :
    Calls Try.prog 67 #[.slice base l.length cap, .int .i64 a] w (RB w (.tuple #[.int .i64 (lb l a : Nat), .bool (decide (a ∈ l))])) := by
  have HC := Lib.hid hl
  have hlen := hl.len
  have HI := Lib.hid (fun (k : Nat) (hk : k < l.length) => lb_iff hs a hk)
  have HA := Lib.hid (lb_at hs a)
  have hal := lb_le l a
  have HL := Lib.hid (fun x y W => cmp_Less x y W)
  have HN := Lib.hid (fun x W => slices_isNaN x W)
  clear hl hs
  obtain ⟨n, hn⟩ : ∃ n, n = lb l a := ⟨_, rfl⟩
  rw [← hn] at hal ⊢
  have HI := Lib.hid (fun k hk => by have := HI.out k hk; rw [← hn] at this; exact this)
  have HM := Lib.hid (show ∀ hj : n < l.length, decide (a ∈ l) = decide (l[n] = a) from fun hj => by
    subst hn
    rw [Bool.eq_iff_iff, decide_eq_true_iff, decide_eq_true_iff, HA.out]
    exact ⟨fun ⟨_, e⟩ => e, fun e => ⟨hj, e⟩⟩)
  have HM0 := Lib.hid (show l.length ≤ n → decide (a ∈ l) = false from fun hj => by
    subst hn
    rw [decide_eq_false_iff_not, HA.out]
    rintro ⟨h, _⟩
    omega)
  clear hn HA
  generalize decide (a ∈ l) = z at *
  go_enter Try.func67, Try.ntmps67
  go_wp2_with fail
  go_loopw [7, 8] (fun x y wr => ∃ i j : Nat, i ≤ n ∧ n ≤ j ∧ j ≤ l.length ∧ x = .int .i64 i ∧ y = .int .i64 j ∧ Below w.heap.size w wr) (fun x y _ => (intOf y).toNat - (intOf x).toNat)
  case atStart => exact ⟨0, l.length, by omega, by omega, by omega, rfl, rfl, Below.refl _ _⟩
  case round =>
    obtain ⟨i, j, h1, h2, h3, rfl, rfl, hbel⟩ := hrel
    have HB := Lib.hid hbel
    clear hbel
    by_cases hlt : i < j
    · obtain ⟨h, hh⟩ : ∃ h, h = (i + j) / 2 := ⟨_, rfl⟩
      have hk : h < l.length := by omega
      obtain ⟨b, off, rfl, c0, hbl⟩ := (HC.out.keep HB.out).at hk
      have hi := Lib.hid (HI.out h hk)
      obtain ⟨s, hsl⟩ : ∃ s, s = l[h] := ⟨_, rfl⟩
      rw [← hsl] at c0 hi
      clear hsl
      have e1 : ((i : Int) + (j : Int)) / 2 = ((h : Nat) : Int) := by omega
      by_cases hle : s < a
      · have HM2 := Lib.hid (fun W => Calls.rb_eq (HL.out s a W) (congrArg Value.bool (decide_eq_true hle)))
        have hlt2 := hi.out.1 hle
        clear hi hle hh
        go_wp2_with ((with_reducible refine (HM2.out _).mono ?_); rintro e w1 ⟨rfl, hb1⟩; (obtain ⟨hc1, hf1⟩ := bcell hb1; have hz1 := hb1.size; (try simp at hz1)))
        go_roundw
        case rel => exact ⟨h + 1, j, by omega, by omega, by omega, by go_num, rfl, below_then HB.out hb1⟩
        case measure => (simp [intOf] <;> omega)
      · have HM2 := Lib.hid (fun W => Calls.rb_eq (HL.out s a W) (congrArg Value.bool (decide_eq_false hle)))
        have hge : n ≤ h := by
          rcases Nat.lt_or_ge h n with h5 | h5
          · exact absurd (hi.out.2 h5) hle
          · exact h5
        clear hi hle hh
        go_wp2_with ((with_reducible refine (HM2.out _).mono ?_); rintro e w1 ⟨rfl, hb1⟩; (obtain ⟨hc1, hf1⟩ := bcell hb1; have hz1 := hb1.size; (try simp at hz1)))
        go_roundw
        case rel => exact ⟨i, h, by omega, by omega, by omega, rfl, rfl, below_then HB.out hb1⟩
        case measure => (simp [intOf] <;> omega)
    · have hin : i = n := by omega
      subst hin
      have hij : i = j := by omega
      subst hij
      by_cases hend : i < l.length
      · obtain ⟨b, off, rfl, c0, hbl⟩ := (HC.out.keep HB.out).at hend
        have hz := Lib.hid (HM.out hend)
        obtain ⟨s, hsl⟩ : ∃ s, s = l[i] := ⟨_, rfl⟩
        rw [← hsl] at c0 hz
        clear hsl
        have HN1 := Lib.hid (fun W => HN.out s W)
        by_cases he : s = a
        · have heq : (s == a) = true := by simpa using he
          have hz2 := Lib.hid (hz.out.trans (decide_eq_true he))
          clear hz he
          go_wp2_with fail
          go_returns
          exact ⟨by rw [hz2.out]; rfl, HB.out⟩
        · have heq : (s == a) = false := by simpa using he
          have hz2 := Lib.hid (hz.out.trans (decide_eq_false he))
          clear hz he
          go_wp2_with fail
          refine (HN1.out _).mono ?_
          rintro e w3 ⟨rfl, hb3⟩
          go_wp2_with fail
          go_returns
          exact ⟨by rw [hz2.out]; rfl, below_then HB.out hb3⟩
      · have hz := Lib.hid (HM0.out (by omega))
        go_wp2_with fail
        go_returns
        exact ⟨by rw [hz.out]; rfl, HB.out⟩
set_option maxRecDepth 100000 in set_option maxHeartbeats 4000000 in
theorem same_law (ba bb : Option Addr) (ca cb : Nat) (a b : List Int) (w : World) (ha : IIn w ba a) (hb : IIn w bb b) :
    Calls Try.prog 30 #[.slice ba a.length ca, .slice bb b.length cb] w (RB w (.bool (decide (a = b)))) := by
  have HA := Lib.hid ha
  have HB := Lib.hid hb
  have hla := ha.len
  have hlb := hb.len
  clear ha hb
  by_cases hl : a.length = b.length
  · have HL := Lib.hid hl
    have HX := Lib.hid (fun h => List.ext_getElem (l₁ := a) (l₂ := b) hl h)
    have hll : (a.length == b.length) = true := by simpa using hl
    have hln : (a.length != b.length) = false := by simpa using hl
    clear hl
    go_enter Try.func30, Try.ntmps30
    go_wp2_with fail
    go_loopw [5] (fun i wr => ∃ k : Nat, k ≤ a.length ∧ i = .int .i64 k ∧ (∀ j (h1 : j < a.length) (h2 : j < b.length), j < k → a[j] = b[j]) ∧ Below w.heap.size w wr) (fun i _ => a.length - (intOf i).toNat)
    case atStart => exact ⟨0, Nat.zero_le _, rfl, fun j _ _ h => absurd h (by omega), Below.refl _ _⟩
    case round =>
      obtain ⟨k, hk, rfl, hall, hbel⟩ := hrel
      have HW := Lib.hid hbel
      have HF := Lib.hid hall
      clear hbel hall
      by_cases hlt : k < a.length
      · have hlt2 : k < b.length := by have := HL.out; omega
        obtain ⟨b1, o1, rfl, c0, hbl1⟩ := (HA.out.keep HW.out).at hlt
        obtain ⟨b2, o2, rfl, d0, hbl2⟩ := (HB.out.keep HW.out).at hlt2
        have hnx := Lib.hid (fun (h : a[k] = b[k]) (j : Nat) (h1 : j < a.length) (h2 : j < b.length) (hjk : j < k + 1) => show a[j] = b[j] by
          rcases Nat.lt_or_ge j k with h5 | h5
          · exact HF.out j h1 h2 h5
          · have : j = k := by omega
            subst this; exact h)
        have hno := Lib.hid (fun (h : a[k] ≠ b[k]) => show decide (a = b) = false by
          rw [decide_eq_false_iff_not]; intro e; subst e; exact h rfl)
        obtain ⟨x, hx⟩ : ∃ x, x = a[k] := ⟨_, rfl⟩
        obtain ⟨y, hy⟩ : ∃ y, y = b[k] := ⟨_, rfl⟩
        rw [← hx] at c0 hnx hno
        rw [← hy] at d0 hnx hno
        clear hx hy
        by_cases hr : x = y
        · have heq : (x == y) = true := by simpa using hr
          have heq2 : (x != y) = false := by simpa using hr
          have hyes := Lib.hid (hnx.out hr)
          clear hnx hno hr
          go_wp2_with (refine wp_region_quiet_lit (by kernel_rfl) (by kernel_rfl) ?_; (repeat (any_goals (first | go_big_quiet_step (fail) | quiet_step (fail) | (refine wpQuiet_step (fun K hK => ?_); go_simp; split <;> (refine hK _ ?_; clear hK K))))); all_goals (refine wpQuiet_nil ?_; intro _ hw'; obtain ⟨nq, hw''⟩ := hw'; subst hw''))
          all_goals
            go_roundw
            case rel => exact ⟨k + 1, by omega, by go_num, hyes.out, by first | exact HW.out | exact below_drewN HW.out _⟩
            case measure => (simp [intOf] <;> omega)
        · have heq : (x == y) = false := by simpa using hr
          have heq2 : (x != y) = true := by simpa using hr
          have hyes := Lib.hid (hno.out hr)
          clear hnx hno hr
          go_wp2_with (refine wp_region_quiet_lit (by kernel_rfl) (by kernel_rfl) ?_; (repeat (any_goals (first | go_big_quiet_step (fail) | quiet_step (fail) | (refine wpQuiet_step (fun K hK => ?_); go_simp; split <;> (refine hK _ ?_; clear hK K))))); all_goals (refine wpQuiet_nil ?_; intro _ hw'; obtain ⟨nq, hw''⟩ := hw'; subst hw''))
          all_goals
            go_returns
            exact ⟨by rw [hyes.out]; rfl, by first | exact HW.out | exact below_drewN HW.out _⟩
      · obtain rfl : k = a.length := by omega
        have hq := Lib.hid (show decide (a = b) = true by rw [decide_eq_true_iff]; exact HX.out (fun j h1 h2 => HF.out j h1 h2 h1))
        go_wp2_with fail
        go_returns
        exact ⟨by rw [hq.out]; rfl, HW.out⟩
  · have hq := Lib.hid (show decide (a = b) = false by rw [decide_eq_false_iff_not]; intro e; subst e; exact hl rfl)
    have hll : (a.length == b.length) = false := by simpa using hl
    have hln : (a.length != b.length) = true := by simpa using hl
    clear hl
    go_enter Try.func30, Try.ntmps30
    go_wp2_with fail
    go_returns
    exact ⟨by rw [hq.out]; rfl, by (repeat (first | (with_reducible exact Below.refl _ _) | (with_reducible assumption) | (with_reducible refine below_alloc ?_ _) | (with_reducible refine below_drewN ?_ _) | (with_reducible refine Below.drew ?_) | (with_reducible refine below_then ?_ (by with_reducible assumption)) | (with_reducible refine Below.setCell ?_ (by go_size) _)))⟩
set_option maxRecDepth 100000 in set_option maxHeartbeats 4000000 in
theorem same_ref (ba bb : Option Addr) (ca cb : Nat) (a b : List Int) (w : World) (ha : IIn w ba a) (hb : IIn w bb b) :
    Calls Try.prog 33 #[.slice ba a.length ca, .slice bb b.length cb] w (RB w (.bool (decide (a = b)))) := by
  have HA := Lib.hid ha
  have HB := Lib.hid hb
  have hla := ha.len
  have hlb := hb.len
  clear ha hb
  by_cases hl : a.length = b.length
  · have HL := Lib.hid hl
    have HX := Lib.hid (fun h => List.ext_getElem (l₁ := a) (l₂ := b) hl h)
    have hll : (a.length == b.length) = true := by simpa using hl
    have hln : (a.length != b.length) = false := by simpa using hl
    clear hl
    go_enter Try.func33, Try.ntmps33
    go_wp2_with fail
    go_loopw [5] (fun i wr => ∃ k : Nat, k ≤ a.length ∧ i = .int .i64 k ∧ (∀ j (h1 : j < a.length) (h2 : j < b.length), j < k → a[j] = b[j]) ∧ Below w.heap.size w wr) (fun i _ => a.length - (intOf i).toNat)
    case atStart => exact ⟨0, Nat.zero_le _, rfl, fun j _ _ h => absurd h (by omega), Below.refl _ _⟩
    case round =>
      obtain ⟨k, hk, rfl, hall, hbel⟩ := hrel
      have HW := Lib.hid hbel
      have HF := Lib.hid hall
      clear hbel hall
      by_cases hlt : k < a.length
      · have hlt2 : k < b.length := by have := HL.out; omega
        obtain ⟨b1, o1, rfl, c0, hbl1⟩ := (HA.out.keep HW.out).at hlt
        obtain ⟨b2, o2, rfl, d0, hbl2⟩ := (HB.out.keep HW.out).at hlt2
        have hnx := Lib.hid (fun (h : a[k] = b[k]) (j : Nat) (h1 : j < a.length) (h2 : j < b.length) (hjk : j < k + 1) => show a[j] = b[j] by
          rcases Nat.lt_or_ge j k with h5 | h5
          · exact HF.out j h1 h2 h5
          · have : j = k := by omega
            subst this; exact h)
        have hno := Lib.hid (fun (h : a[k] ≠ b[k]) => show decide (a = b) = false by
          rw [decide_eq_false_iff_not]; intro e; subst e; exact h rfl)
        obtain ⟨x, hx⟩ : ∃ x, x = a[k] := ⟨_, rfl⟩
        obtain ⟨y, hy⟩ : ∃ y, y = b[k] := ⟨_, rfl⟩
        rw [← hx] at c0 hnx hno
        rw [← hy] at d0 hnx hno
        clear hx hy
        by_cases hr : x = y
        · have heq : (x == y) = true := by simpa using hr
          have heq2 : (x != y) = false := by simpa using hr
          have hyes := Lib.hid (hnx.out hr)
          clear hnx hno hr
          go_wp2_with (refine wp_region_quiet_lit (by kernel_rfl) (by kernel_rfl) ?_; (repeat (any_goals (first | go_big_quiet_step (fail) | quiet_step (fail) | (refine wpQuiet_step (fun K hK => ?_); go_simp; split <;> (refine hK _ ?_; clear hK K))))); all_goals (refine wpQuiet_nil ?_; intro _ hw'; obtain ⟨nq, hw''⟩ := hw'; subst hw''))
          all_goals
            go_roundw
            case rel => exact ⟨k + 1, by omega, by go_num, hyes.out, by first | exact HW.out | exact below_drewN HW.out _⟩
            case measure => (simp [intOf] <;> omega)
        · have heq : (x == y) = false := by simpa using hr
          have heq2 : (x != y) = true := by simpa using hr
          have hyes := Lib.hid (hno.out hr)
          clear hnx hno hr
          go_wp2_with (refine wp_region_quiet_lit (by kernel_rfl) (by kernel_rfl) ?_; (repeat (any_goals (first | go_big_quiet_step (fail) | quiet_step (fail) | (refine wpQuiet_step (fun K hK => ?_); go_simp; split <;> (refine hK _ ?_; clear hK K))))); all_goals (refine wpQuiet_nil ?_; intro _ hw'; obtain ⟨nq, hw''⟩ := hw'; subst hw''))
          all_goals
            go_returns
            exact ⟨by rw [hyes.out]; rfl, by first | exact HW.out | exact below_drewN HW.out _⟩
      · obtain rfl : k = a.length := by omega
        have hq := Lib.hid (show decide (a = b) = true by rw [decide_eq_true_iff]; exact HX.out (fun j h1 h2 => HF.out j h1 h2 h1))
        go_wp2_with fail
        go_returns
        exact ⟨by rw [hq.out]; rfl, HW.out⟩
  · have hq := Lib.hid (show decide (a = b) = false by rw [decide_eq_false_iff_not]; intro e; subst e; exact hl rfl)
    have hll : (a.length == b.length) = false := by simpa using hl
    have hln : (a.length != b.length) = true := by simpa using hl
    clear hl
    go_enter Try.func33, Try.ntmps33
    go_wp2_with fail
    go_returns
    exact ⟨by rw [hq.out]; rfl, by (repeat (first | (with_reducible exact Below.refl _ _) | (with_reducible assumption) | (with_reducible refine below_alloc ?_ _) | (with_reducible refine below_drewN ?_ _) | (with_reducible refine Below.drew ?_) | (with_reducible refine below_then ?_ (by with_reducible assumption)) | (with_reducible refine Below.setCell ?_ (by go_size) _)))⟩

end Go.Proofs.Ytpooieghlceefaa
