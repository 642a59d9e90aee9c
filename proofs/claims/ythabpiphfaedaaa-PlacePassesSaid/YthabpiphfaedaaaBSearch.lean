/- slices.BinarySearch at numbers. -/
import Derived.Test.YthabpiphfaedaaaMarks
import Derived.Test.YthabpiphfaedaaaBlk
namespace Go.Proofs.Ythabpiphfaedaaa
open Go.RowKit Go.Shelf

theorem ic_at {l : List Int} {k : Nat} (h : k < l.length) : (ic l)[k]? = some (.int .i64 l[k]) := by simp [ic, h]
/-- A list of numbers that lies somewhere. -/
structure IIn (w : World) (base : Option Addr) (l : List Int) : Prop where
  rd : Rd w base (ic l)
  len : l.length ≤ 30000
theorem IIn.keep {w W : World} {base : Option Addr} {l : List Int} (h : IIn w base l) (hb : Below w.heap.size w W) : IIn W base l := ⟨h.rd.keep hb, h.len⟩
theorem IIn.at {w : World} {base : Option Addr} {l : List Int} (h : IIn w base l) {k : Nat} (hk : k < l.length) : ∃ b off, base = some ⟨b, off, none⟩ ∧ w.cell? ⟨b, off + k, none⟩ = some (.int .i64 l[k]) ∧ b < w.heap.size := by
  obtain ⟨b, off, e, hc⟩ := h.rd _ _ (ic_at hk)
  exact ⟨b, off, e, hc, World.block_lt_of_cell? w _ hc⟩

set_option maxRecDepth 100000 in set_option maxHeartbeats 4000000 in
theorem cmp_isNaN (x : Int) (w : World) : Calls Try.prog 92 #[.int .i64 x] w (RB w (.bool false)) := by
  go_enter Try.func92, Try.ntmps92
  go_wp2
  go_returns
  exact ⟨by simp, by (repeat (first | (with_reducible exact Below.refl _ _) | (with_reducible assumption) | (with_reducible refine below_alloc ?_ _) | (with_reducible refine below_drewN ?_ _) | (with_reducible refine Below.drew ?_) | (with_reducible refine below_then ?_ (by with_reducible assumption)) | (with_reducible refine Below.setCell ?_ (by go_size) _)))⟩
set_option maxRecDepth 100000 in set_option maxHeartbeats 4000000 in
theorem slices_isNaN (x : Int) (w : World) : Calls Try.prog 63 #[.int .i64 x] w (RB w (.bool false)) := by
  go_enter Try.func63, Try.ntmps63
  go_wp2
  go_returns
  exact ⟨by simp, by (repeat (first | (with_reducible exact Below.refl _ _) | (with_reducible assumption) | (with_reducible refine below_alloc ?_ _) | (with_reducible refine below_drewN ?_ _) | (with_reducible refine Below.drew ?_) | (with_reducible refine below_then ?_ (by with_reducible assumption)) | (with_reducible refine Below.setCell ?_ (by go_size) _)))⟩
set_option maxRecDepth 100000 in set_option maxHeartbeats 4000000 in
theorem cmp_Less (x y : Int) (w : World) : Calls Try.prog 62 #[.int .i64 x, .int .i64 y] w (RB w (.bool (decide (x < y)))) := by
  have H1 := Lib.hid (fun W => cmp_isNaN x W)
  cases hd : decide (x < y)
  · have h' : ¬ x < y := of_decide_eq_false hd
    go_enter Try.func62, Try.ntmps62
    go_wp2_with fail
    refine (H1.out _).mono ?_
    rintro e w1 ⟨rfl, hb1⟩
    go_wp2_with fail
    go_returns
    exact ⟨rfl, hb1⟩
  · have h' : x < y := of_decide_eq_true hd
    go_enter Try.func62, Try.ntmps62
    go_wp2_with fail
    refine (H1.out _).mono ?_
    rintro e w1 ⟨rfl, hb1⟩
    go_wp2_with fail
    go_returns
    exact ⟨rfl, hb1⟩

set_option maxRecDepth 100000 in set_option maxHeartbeats 4000000 in
theorem bsearch (base : Option Addr) (cap : Nat) (l : List Int) (a : Int) (w : World) (hl : IIn w base l) (hs : l.Pairwise (· < ·)) :
    Calls Try.prog 31 #[.slice base l.length cap, .int .i64 a] w (RB w (.tuple #[.int .i64 (lb l a : Nat), .bool (decide (a ∈ l))])) := by
  have HC := Lib.hid hl
  have hlen := hl.len
  have HI := Lib.hid (fun (k : Nat) (hk : k < l.length) => lb_iff hs a hk)
  have HA := Lib.hid (lb_at hs a)
  have hal := lb_le l a
  have HL := Lib.hid (fun x y W => cmp_Less x y W)
  have HN := Lib.hid (fun x W => slices_isNaN x W)
  clear hl hs
  obtain ⟨n, hn⟩ : ∃ n, n = lb l a := ⟨_, rfl⟩
  rw [← hn] at hal ⊢
  have HI := Lib.hid (fun k hk => by have := HI.out k hk; rw [← hn] at this; exact this)
  have HM := Lib.hid (show ∀ hj : n < l.length, decide (a ∈ l) = decide (l[n] = a) from fun hj => by
    subst hn
    rw [Bool.eq_iff_iff, decide_eq_true_iff, decide_eq_true_iff, HA.out]
    exact ⟨fun ⟨_, e⟩ => e, fun e => ⟨hj, e⟩⟩)
  have HM0 := Lib.hid (show l.length ≤ n → decide (a ∈ l) = false from fun hj => by
    subst hn
    rw [decide_eq_false_iff_not, HA.out]
    rintro ⟨h, _⟩
    omega)
  clear hn HA
  generalize decide (a ∈ l) = z at *
  go_enter Try.func31, Try.ntmps31
  go_wp2_with fail
  go_loopw [7, 8] (fun x y wr => ∃ i j : Nat, i ≤ n ∧ n ≤ j ∧ j ≤ l.length ∧ x = .int .i64 i ∧ y = .int .i64 j ∧ Below w.heap.size w wr) (fun x y _ => (intOf y).toNat - (intOf x).toNat)
  case atStart => exact ⟨0, l.length, by omega, by omega, by omega, rfl, rfl, Below.refl _ _⟩
  case round =>
    obtain ⟨i, j, h1, h2, h3, rfl, rfl, hbel⟩ := hrel
    have HB := Lib.hid hbel
    clear hbel
    by_cases hlt : i < j
    · obtain ⟨h, hh⟩ : ∃ h, h = (i + j) / 2 := ⟨_, rfl⟩
      have hk : h < l.length := by omega
      obtain ⟨b, off, rfl, c0, hbl⟩ := (HC.out.keep HB.out).at hk
      have hi := Lib.hid (HI.out h hk)
      obtain ⟨s, hsl⟩ : ∃ s, s = l[h] := ⟨_, rfl⟩
      rw [← hsl] at c0 hi
      clear hsl
      have e1 : ((i : Int) + (j : Int)) / 2 = ((h : Nat) : Int) := by omega
      by_cases hle : s < a
      · have HM2 := Lib.hid (fun W => Calls.rb_eq (HL.out s a W) (congrArg Value.bool (decide_eq_true hle)))
        have hlt2 := hi.out.1 hle
        clear hi hle hh
        go_wp2_with ((with_reducible refine (HM2.out _).mono ?_); rintro e w1 ⟨rfl, hb1⟩; (obtain ⟨hc1, hf1⟩ := bcell hb1; have hz1 := hb1.size; (try simp at hz1)))
        go_roundw
        case rel => exact ⟨h + 1, j, by omega, by omega, by omega, by go_num, rfl, below_then HB.out hb1⟩
        case measure => (simp [intOf] <;> omega)
      · have HM2 := Lib.hid (fun W => Calls.rb_eq (HL.out s a W) (congrArg Value.bool (decide_eq_false hle)))
        have hge : n ≤ h := by
          rcases Nat.lt_or_ge h n with h5 | h5
          · exact absurd (hi.out.2 h5) hle
          · exact h5
        clear hi hle hh
        go_wp2_with ((with_reducible refine (HM2.out _).mono ?_); rintro e w1 ⟨rfl, hb1⟩; (obtain ⟨hc1, hf1⟩ := bcell hb1; have hz1 := hb1.size; (try simp at hz1)))
        go_roundw
        case rel => exact ⟨i, h, by omega, by omega, by omega, rfl, rfl, below_then HB.out hb1⟩
        case measure => (simp [intOf] <;> omega)
    · have hin : i = n := by omega
      subst hin
      have hij : i = j := by omega
      subst hij
      by_cases hend : i < l.length
      · obtain ⟨b, off, rfl, c0, hbl⟩ := (HC.out.keep HB.out).at hend
        have hz := Lib.hid (HM.out hend)
        obtain ⟨s, hsl⟩ : ∃ s, s = l[i] := ⟨_, rfl⟩
        rw [← hsl] at c0 hz
        clear hsl
        have HN1 := Lib.hid (fun W => HN.out s W)
        by_cases he : s = a
        · have heq : (s == a) = true := by simpa using he
          have hz2 := Lib.hid (hz.out.trans (decide_eq_true he))
          clear hz he
          go_wp2_with fail
          go_returns
          exact ⟨by rw [hz2.out]; rfl, HB.out⟩
        · have heq : (s == a) = false := by simpa using he
          have hz2 := Lib.hid (hz.out.trans (decide_eq_false he))
          clear hz he
          go_wp2_with fail
          refine (HN1.out _).mono ?_
          rintro e w3 ⟨rfl, hb3⟩
          go_wp2_with fail
          go_returns
          exact ⟨by rw [hz2.out]; rfl, below_then HB.out hb3⟩
      · have hz := Lib.hid (HM0.out (by omega))
        go_wp2_with fail
        go_returns
        exact ⟨by rw [hz.out]; rfl, HB.out⟩
end Go.Proofs.Ythabpiphfaedaaa
