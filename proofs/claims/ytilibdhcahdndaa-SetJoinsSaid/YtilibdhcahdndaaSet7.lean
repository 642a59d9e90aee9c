/- REF 03: sets joined, met, within; SET: met, within. -/
import Derived.Test.YtilibdhcahdndaaSet6
namespace Go.Proofs.Ytilibdhcahdndaa
open Go.RowKit Go.Shelf

theorem set_of_own {W : World} {B : Nat} {v : Value} {ws : List Nat} (h : W.ownsRow B 34 1 v ws.length (wcells ws)) (hl : ws.length ≤ 4611686018427387904) (hf : W64 ws) :
    ∃ base cap, v = .slice base ws.length cap ∧ SetIn W base ws ∧ ws.length ≤ cap := by
  obtain ⟨base, cap, rfl, rd, hc⟩ := own_rd h
  exact ⟨base, cap, rfl, ⟨rd, hl, hf⟩, hc⟩

theorem mem_zipWith {f : Nat → Nat → Nat} {a b : List Nat} {x : Nat} (h : x ∈ List.zipWith f a b) : ∃ p ∈ a, ∃ q ∈ b, x = f p q := by
  obtain ⟨i, hi, rfl⟩ := List.mem_iff_getElem.1 h
  rw [List.length_zipWith] at hi
  exact ⟨a[i], List.getElem_mem _, b[i], List.getElem_mem _, by simp⟩
theorem zip_fit {f : Nat → Nat → Nat} {a b : List Nat} (hf : ∀ x y, x < 2 ^ 64 → y < 2 ^ 64 → f x y < 2 ^ 64) (ha : W64 a) (hb : W64 b) : W64 (List.zipWith f a b) := by
  intro x hx
  obtain ⟨p, hp, q, hq, rfl⟩ := mem_zipWith hx
  exact hf p q (ha p hp) (hb q hq)
theorem andW_fit (x y : Nat) (hx : x < 2 ^ 64) (_ : y < 2 ^ 64) : andW x y < 2 ^ 64 := Nat.lt_of_le_of_lt Nat.and_le_left hx
theorem orW_fit (x y : Nat) (hx : x < 2 ^ 64) (hy : y < 2 ^ 64) : orW x y < 2 ^ 64 := Nat.or_lt_two_pow hx hy
theorem lessW_fit (x y : Nat) (hx : x < 2 ^ 64) (_ : y < 2 ^ 64) : lessW x y < 2 ^ 64 := Nat.lt_of_le_of_lt Nat.and_le_left hx

/-- What is joined, if all may be. -/
def joinIf (f : Nat → Nat → Nat) (n : Int) (a b : List Nat) : List Nat := if sChk2 n a b = 0 then List.zipWith f a b else []
theorem joinIf_fit {f : Nat → Nat → Nat} {n : Int} {a b : List Nat} (hf : ∀ x y, x < 2 ^ 64 → y < 2 ^ 64 → f x y < 2 ^ 64) (ha : W64 a) (hb : W64 b) : W64 (joinIf f n a b) := by
  unfold joinIf; split
  · exact zip_fit hf ha hb
  · intro x hx; simp at hx
theorem joinIf_len {f : Nat → Nat → Nat} {n : Int} {a b : List Nat} : (joinIf f n a b).length ≤ a.length := by
  unfold joinIf; split
  · simp; omega
  · simp

set_option maxRecDepth 100000 in set_option maxHeartbeats 4000000 in
theorem set_Meet (n : Int) (ba bb : Option Addr) (ca cb : Nat) (a b : List Nat) (w : World) (ha : SetIn w ba a) (hb : SetIn w bb b) :
    Calls Try.prog 16 #[.int .i64 n, .slice ba a.length ca, .slice bb b.length cb] w (RB w (.tuple #[.bool (anyNZ (joinIf andW n a b)), .int .i64 (sChk2 n a b)])) := by
  have HC := Lib.hid (show Calls Try.prog 10 #[.int .i64 n, .slice ba a.length ca, .slice bb b.length cb] w (RUE w (joinIf andW n a b) (sChk2 n a b)) from set_And n ba bb ca cb a b w ha hb)
  have hf := Lib.hid (joinIf_fit (n := n) andW_fit ha.fit hb.fit)
  have hl := joinIf_len (f := andW) (n := n) (a := a) (b := b)
  have hal := ha.len
  have eg : ∀ args w, (callFunc 46 args).run Try.prog w = .ok (.enter 46 args) w := enters_of Try.func46 (by kernel_rfl) rfl
  clear ha hb
  go_enter Try.func16, Try.ntmps16
  go_wp2_with fail
  refine HC.out.mono ?_
  rintro e w1 ⟨v, rfl, ho, hb1⟩
  obtain ⟨base, cap, rfl, hs, _⟩ := set_of_own ho (by omega) hf.out
  go_wp2_with fail
  refine (set_contains _ base cap _ _ hs eg set_Meet_asks).mono ?_
  rintro e w2 ⟨rfl, hb2⟩
  go_wp2_with fail
  go_returns
  exact ⟨rfl, by (repeat (first | (with_reducible exact Below.refl _ _) | (with_reducible assumption) | (with_reducible refine below_alloc ?_ _) | (with_reducible refine below_drewN ?_ _) | (with_reducible refine Below.drew ?_) | (with_reducible refine below_then ?_ (by with_reducible assumption)) | (with_reducible refine Below.setCell ?_ (by go_size) _)))⟩

set_option maxRecDepth 100000 in set_option maxHeartbeats 4000000 in
theorem set_In (n : Int) (ba bb : Option Addr) (ca cb : Nat) (a b : List Nat) (w : World) (ha : SetIn w ba a) (hb : SetIn w bb b) :
    Calls Try.prog 18 #[.int .i64 n, .slice ba a.length ca, .slice bb b.length cb] w (RB w (.tuple #[.bool (decide (sChk2 n a b = 0) && !anyNZ (joinIf lessW n a b)), .int .i64 (sChk2 n a b)])) := by
  have HC := Lib.hid (show Calls Try.prog 14 #[.int .i64 n, .slice ba a.length ca, .slice bb b.length cb] w (RUE w (joinIf lessW n a b) (sChk2 n a b)) from set_Less n ba bb ca cb a b w ha hb)
  have hf := Lib.hid (joinIf_fit (n := n) lessW_fit ha.fit hb.fit)
  have hl := joinIf_len (f := lessW) (n := n) (a := a) (b := b)
  have hal := ha.len
  have eg : ∀ args w, (callFunc 48 args).run Try.prog w = .ok (.enter 48 args) w := enters_of Try.func48 (by kernel_rfl) rfl
  clear ha hb
  by_cases hz : sChk2 n a b = 0
  · have hy1 : (sChk2 n a b == 0) = true := by simpa using hz
    have hq := Lib.hid (decide_eq_true hz)
    clear hz
    go_enter Try.func18, Try.ntmps18
    go_wp2_with fail
    refine HC.out.mono ?_
    rintro e w1 ⟨v, rfl, ho, hb1⟩
    obtain ⟨base, cap, rfl, hs, _⟩ := set_of_own ho (by omega) hf.out
    go_wp2_with fail
    refine (set_contains _ base cap _ _ hs eg set_In_asks).mono ?_
    rintro e w2 ⟨rfl, hb2⟩
    go_wp2_with fail
    go_returns
    exact ⟨by rw [hq.out]; rfl, by (repeat (first | (with_reducible exact Below.refl _ _) | (with_reducible assumption) | (with_reducible refine below_alloc ?_ _) | (with_reducible refine below_drewN ?_ _) | (with_reducible refine Below.drew ?_) | (with_reducible refine below_then ?_ (by with_reducible assumption)) | (with_reducible refine Below.setCell ?_ (by go_size) _)))⟩
  · have hy1 : (sChk2 n a b == 0) = false := by simpa using hz
    have hq := Lib.hid (decide_eq_false hz)
    clear hz
    go_enter Try.func18, Try.ntmps18
    go_wp2_with fail
    refine HC.out.mono ?_
    rintro e w1 ⟨v, rfl, ho, hb1⟩
    go_wp2_with fail
    go_returns
    exact ⟨by rw [hq.out]; rfl, by (repeat (first | (with_reducible exact Below.refl _ _) | (with_reducible assumption) | (with_reducible refine below_alloc ?_ _) | (with_reducible refine below_drewN ?_ _) | (with_reducible refine Below.drew ?_) | (with_reducible refine below_then ?_ (by with_reducible assumption)) | (with_reducible refine Below.setCell ?_ (by go_size) _)))⟩

/-- Is a number of a list in a set, or not? -/
def hit (pol : Bool) (l : List Int) (b : List Nat) : Bool := l.any (fun x => there b x.toNat == pol)

set_option maxRecDepth 100000 in set_option maxHeartbeats 4000000 in
theorem ref03_Meets (ba bb : Option Addr) (ca cb : Nat) (a b : List Nat) (w : World) (ha : SetIn w ba a) (hb : SetIn w bb b) (hl : a.length ≤ 10000) :
    Calls Try.prog 47 #[.slice ba a.length ca, .slice bb b.length cb] w (RB w (.bool (hit true (nums a) b))) := by
  have HA := Lib.hid ha
  have HB := Lib.hid hb
  have hnl := numsTo_len a (64 * a.length)
  change (nums a).length ≤ _ at hnl
  have HN := Lib.hid (fun k (h : k < (nums a).length) => mem_nums.1 (List.getElem_mem h))
  obtain ⟨l, hll⟩ : ∃ l, l = nums a := ⟨_, rfl⟩
  have HALL := Lib.hid (ref03_All ba ca a w HA.out hl)
  rw [← hll] at HALL HN hnl ⊢
  clear ha hb hll
  go_enter Try.func47, Try.ntmps47
  go_wp2_with fail
  refine HALL.out.mono ?_
  rintro e w1 ⟨v, rfl, ho, hb1⟩
  obtain ⟨base, cap, rfl, rd, _⟩ := own_rd ho
  have HR := Lib.hid rd
  clear rd ho
  go_wp2_with fail
  go_loopw [6] (fun i wr => ∃ k : Nat, k ≤ l.length ∧ i = .int .i64 k ∧ (l.take k).any (fun x => there b x.toNat == true) = false ∧ ∃ q, wr = w1.drewN q) (fun i _ => l.length - (intOf i).toNat)
  case atStart => exact ⟨0, Nat.zero_le _, rfl, by simp, 0, rfl⟩
  case round =>
    obtain ⟨k, hk, rfl, h0, q, rfl⟩ := hrel
    have H0 := Lib.hid h0
    clear h0
    by_cases hlt : k < l.length
    · obtain ⟨b0, off, rfl, hc⟩ := HR.out k _ (getElem?_map_int hlt)
      have hx := Lib.hid (any_take_succ hlt H0.out)
      obtain ⟨j, hj, hj2, _⟩ := HN.out k hlt
      have hin := Lib.hid (List.getElem_mem hlt)
      obtain ⟨x, hxx⟩ : ∃ x, x = l[k] := ⟨_, rfl⟩
      rw [← hxx] at hc hx hj hin
      subst hj
      clear hxx
      have hkb : SetIn (w1.drewN q) bb b := HB.out.keep (below_drewN hb1 q)
      have HKB := Lib.hid hkb
      clear hkb
      cases ht : there b j with
      | true =>
        have hn := Lib.hid (show l.any (fun x => there b x.toNat == true) = true from List.any_eq_true.2 ⟨(j : Int), hin.out, by rw [Int.toNat_natCast, ht]; rfl⟩)
        clear hin hx
        go_wp2_with (first | (refine wp_region_quiet_lit (by kernel_rfl) (by kernel_rfl) ?_; (repeat (any_goals (first | go_big_quiet_step (fail) | quiet_step (fail) | (refine wpQuiet_step (fun K hK => ?_); go_simp; split <;> (refine hK _ ?_; clear hK K))))); all_goals (refine wpQuiet_nil ?_; intro _ hw'; obtain ⟨nq, hw''⟩ := hw'; subst hw'')) | ((with_reducible refine (ref03_There bb cb b j _ (HKB.out.keep (by (repeat (first | (with_reducible exact Below.refl _ _) | (with_reducible assumption) | (with_reducible refine below_alloc ?_ _) | (with_reducible refine below_drewN ?_ _) | (with_reducible refine Below.drew ?_) | (with_reducible refine below_then ?_ (by with_reducible assumption)) | (with_reducible refine Below.setCell ?_ (by go_size) _))))) (by omega)).mono ?_); rintro e w3 ⟨rfl, rfl⟩))
        all_goals
          go_returns
          exact ⟨by unfold hit; rw [hn.out]; rfl, by (repeat (first | (with_reducible exact Below.refl _ _) | (with_reducible assumption) | (with_reducible refine below_alloc ?_ _) | (with_reducible refine below_drewN ?_ _) | (with_reducible refine Below.drew ?_) | (with_reducible refine below_then ?_ (by with_reducible assumption)) | (with_reducible refine Below.setCell ?_ (by go_size) _)))⟩
      | false =>
        have hn := Lib.hid (hx.out.trans (show (there b ((j : Int)).toNat == true) = false by rw [Int.toNat_natCast, ht]; rfl))
        clear hin hx
        go_wp2_with (first | (refine wp_region_quiet_lit (by kernel_rfl) (by kernel_rfl) ?_; (repeat (any_goals (first | go_big_quiet_step (fail) | quiet_step (fail) | (refine wpQuiet_step (fun K hK => ?_); go_simp; split <;> (refine hK _ ?_; clear hK K))))); all_goals (refine wpQuiet_nil ?_; intro _ hw'; obtain ⟨nq, hw''⟩ := hw'; subst hw'')) | ((with_reducible refine (ref03_There bb cb b j _ (HKB.out.keep (by (repeat (first | (with_reducible exact Below.refl _ _) | (with_reducible assumption) | (with_reducible refine below_alloc ?_ _) | (with_reducible refine below_drewN ?_ _) | (with_reducible refine Below.drew ?_) | (with_reducible refine below_then ?_ (by with_reducible assumption)) | (with_reducible refine Below.setCell ?_ (by go_size) _))))) (by omega)).mono ?_); rintro e w3 ⟨rfl, rfl⟩))
        all_goals
          go_roundw
          case rel => exact ⟨k + 1, by omega, by go_num, hn.out, _, rfl⟩
          case measure => simp [intOf]; omega
    · obtain rfl : k = l.length := by omega
      have hn := Lib.hid (show l.any (fun x => there b x.toNat == true) = false by have := H0.out; rw [List.take_length] at this; exact this)
      go_wp2_with fail
      go_returns
      exact ⟨by unfold hit; rw [hn.out]; rfl, by (repeat (first | (with_reducible exact Below.refl _ _) | (with_reducible assumption) | (with_reducible refine below_alloc ?_ _) | (with_reducible refine below_drewN ?_ _) | (with_reducible refine Below.drew ?_) | (with_reducible refine below_then ?_ (by with_reducible assumption)) | (with_reducible refine Below.setCell ?_ (by go_size) _)))⟩

set_option maxRecDepth 100000 in set_option maxHeartbeats 4000000 in
theorem ref03_Inside (ba bb : Option Addr) (ca cb : Nat) (a b : List Nat) (w : World) (ha : SetIn w ba a) (hb : SetIn w bb b) (hl : a.length ≤ 10000) :
    Calls Try.prog 49 #[.slice ba a.length ca, .slice bb b.length cb] w (RB w (.bool (!hit false (nums a) b))) := by
  have HA := Lib.hid ha
  have HB := Lib.hid hb
  have hnl := numsTo_len a (64 * a.length)
  change (nums a).length ≤ _ at hnl
  have HN := Lib.hid (fun k (h : k < (nums a).length) => mem_nums.1 (List.getElem_mem h))
  obtain ⟨l, hll⟩ : ∃ l, l = nums a := ⟨_, rfl⟩
  have HALL := Lib.hid (ref03_All ba ca a w HA.out hl)
  rw [← hll] at HALL HN hnl ⊢
  clear ha hb hll
  go_enter Try.func49, Try.ntmps49
  go_wp2_with fail
  refine HALL.out.mono ?_
  rintro e w1 ⟨v, rfl, ho, hb1⟩
  obtain ⟨base, cap, rfl, rd, _⟩ := own_rd ho
  have HR := Lib.hid rd
  clear rd ho
  go_wp2_with fail
  go_loopw [6] (fun i wr => ∃ k : Nat, k ≤ l.length ∧ i = .int .i64 k ∧ (l.take k).any (fun x => there b x.toNat == false) = false ∧ ∃ q, wr = w1.drewN q) (fun i _ => l.length - (intOf i).toNat)
  case atStart => exact ⟨0, Nat.zero_le _, rfl, by simp, 0, rfl⟩
  case round =>
    obtain ⟨k, hk, rfl, h0, q, rfl⟩ := hrel
    have H0 := Lib.hid h0
    clear h0
    by_cases hlt : k < l.length
    · obtain ⟨b0, off, rfl, hc⟩ := HR.out k _ (getElem?_map_int hlt)
      have hx := Lib.hid (any_take_succ hlt H0.out)
      obtain ⟨j, hj, hj2, _⟩ := HN.out k hlt
      have hin := Lib.hid (List.getElem_mem hlt)
      obtain ⟨x, hxx⟩ : ∃ x, x = l[k] := ⟨_, rfl⟩
      rw [← hxx] at hc hx hj hin
      subst hj
      clear hxx
      have hkb : SetIn (w1.drewN q) bb b := HB.out.keep (below_drewN hb1 q)
      have HKB := Lib.hid hkb
      clear hkb
      cases ht : there b j with
      | false =>
        have hn := Lib.hid (show l.any (fun x => there b x.toNat == false) = true from List.any_eq_true.2 ⟨(j : Int), hin.out, by rw [Int.toNat_natCast, ht]; rfl⟩)
        clear hin hx
        go_wp2_with (first | (refine wp_region_quiet_lit (by kernel_rfl) (by kernel_rfl) ?_; (repeat (any_goals (first | go_big_quiet_step (fail) | quiet_step (fail) | (refine wpQuiet_step (fun K hK => ?_); go_simp; split <;> (refine hK _ ?_; clear hK K))))); all_goals (refine wpQuiet_nil ?_; intro _ hw'; obtain ⟨nq, hw''⟩ := hw'; subst hw'')) | ((with_reducible refine (ref03_There bb cb b j _ (HKB.out.keep (by (repeat (first | (with_reducible exact Below.refl _ _) | (with_reducible assumption) | (with_reducible refine below_alloc ?_ _) | (with_reducible refine below_drewN ?_ _) | (with_reducible refine Below.drew ?_) | (with_reducible refine below_then ?_ (by with_reducible assumption)) | (with_reducible refine Below.setCell ?_ (by go_size) _))))) (by omega)).mono ?_); rintro e w3 ⟨rfl, rfl⟩))
        all_goals
          go_returns
          exact ⟨by unfold hit; rw [hn.out]; rfl, by (repeat (first | (with_reducible exact Below.refl _ _) | (with_reducible assumption) | (with_reducible refine below_alloc ?_ _) | (with_reducible refine below_drewN ?_ _) | (with_reducible refine Below.drew ?_) | (with_reducible refine below_then ?_ (by with_reducible assumption)) | (with_reducible refine Below.setCell ?_ (by go_size) _)))⟩
      | true =>
        have hn := Lib.hid (hx.out.trans (show (there b ((j : Int)).toNat == false) = false by rw [Int.toNat_natCast, ht]; rfl))
        clear hin hx
        go_wp2_with (first | (refine wp_region_quiet_lit (by kernel_rfl) (by kernel_rfl) ?_; (repeat (any_goals (first | go_big_quiet_step (fail) | quiet_step (fail) | (refine wpQuiet_step (fun K hK => ?_); go_simp; split <;> (refine hK _ ?_; clear hK K))))); all_goals (refine wpQuiet_nil ?_; intro _ hw'; obtain ⟨nq, hw''⟩ := hw'; subst hw'')) | ((with_reducible refine (ref03_There bb cb b j _ (HKB.out.keep (by (repeat (first | (with_reducible exact Below.refl _ _) | (with_reducible assumption) | (with_reducible refine below_alloc ?_ _) | (with_reducible refine below_drewN ?_ _) | (with_reducible refine Below.drew ?_) | (with_reducible refine below_then ?_ (by with_reducible assumption)) | (with_reducible refine Below.setCell ?_ (by go_size) _))))) (by omega)).mono ?_); rintro e w3 ⟨rfl, rfl⟩))
        all_goals
          go_roundw
          case rel => exact ⟨k + 1, by omega, by go_num, hn.out, _, rfl⟩
          case measure => simp [intOf]; omega
    · obtain rfl : k = l.length := by omega
      have hn := Lib.hid (show l.any (fun x => there b x.toNat == false) = false by have := H0.out; rw [List.take_length] at this; exact this)
      go_wp2_with fail
      go_returns
      exact ⟨by unfold hit; rw [hn.out]; rfl, by (repeat (first | (with_reducible exact Below.refl _ _) | (with_reducible assumption) | (with_reducible refine below_alloc ?_ _) | (with_reducible refine below_drewN ?_ _) | (with_reducible refine Below.drew ?_) | (with_reducible refine below_then ?_ (by with_reducible assumption)) | (with_reducible refine Below.setCell ?_ (by go_size) _)))⟩
end Go.Proofs.Ytilibdhcahdndaa
