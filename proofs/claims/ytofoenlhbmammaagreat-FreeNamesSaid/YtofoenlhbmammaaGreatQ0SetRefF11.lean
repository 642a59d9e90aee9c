/- REF 03: sets joined; whether two meet; THE PLAIN LAW: what is joined word by word is what is joined number by number. -/
import Derived.Test.YtofoenlhbmammaaGreatQ0SetTwoF11
import Derived.Test.YtofoenlhbmammaaGreatQ12F11
set_option linter.unusedVariables false
set_option linter.unusedSimpArgs false
namespace Go.Proofs.YtofoenlhbmammaaGreat

section
section
open Go.RowKit Go.Shelf

end

section
open Go.RowKit Go.Shelf

/-- Is a number of a list in a set, or not? -/
def hit (pol : Bool) (l : List Int) (b : List Nat) : Bool := l.any (fun x => there b x.toNat == pol)

set_option maxRecDepth 100000 in set_option maxHeartbeats 4000000 in
theorem ref03_Meets (ba bb : Option Addr) (ca cb : Nat) (a b : List Nat) (w : World) (ha : SetIn w ba a) (hb : SetIn w bb b) (hl : a.length ≤ 10000) :
    Calls Tryz.prog 70 #[.slice ba a.length ca, .slice bb b.length cb] w (RB w (.bool (hit true (nums a) b))) := by
  have HA := Lib.hid ha
  have HB := Lib.hid hb
  have hnl := numsTo_len a (64 * a.length)
  change (nums a).length ≤ _ at hnl
  have HN := Lib.hid (fun k (h : k < (nums a).length) => mem_nums.1 (List.getElem_mem h))
  obtain ⟨l, hll⟩ : ∃ l, l = nums a := ⟨_, rfl⟩
  have HALL := Lib.hid (ref03_All ba ca a w HA.out hl)
  rw [← hll] at HALL HN hnl ⊢
  clear ha hb hll
  go_enter Tryz.func70, Tryz.ntmps70
  go_wp2_with fail
  refine HALL.out.mono ?_
  rintro e w1 ⟨v, rfl, ho, hb1⟩
  obtain ⟨base, cap, rfl, rd, _⟩ := own_rd ho
  have HR := Lib.hid rd
  clear rd ho
  go_wp2_with fail
  go_loopw [6] (fun i wr => ∃ k : Nat, k ≤ l.length ∧ i = .int .i64 k ∧ (l.take k).any (fun x => there b x.toNat == true) = false ∧ ∃ q, wr = w1.drewN q) (fun i _ => l.length - (intOf i).toNat)
  case atStart => exact ⟨0, Nat.zero_le _, rfl, by simp, 0, rfl⟩
  case round =>
    obtain ⟨k, hk, rfl, h0, q, rfl⟩ := hrel
    have H0 := Lib.hid h0
    clear h0
    by_cases hlt : k < l.length
    · obtain ⟨b0, off, rfl, hc⟩ := HR.out k _ (getElem?_map_int hlt)
      have hx := Lib.hid (any_take_succ hlt H0.out)
      obtain ⟨j, hj, hj2, _⟩ := HN.out k hlt
      have hin := Lib.hid (List.getElem_mem hlt)
      obtain ⟨x, hxx⟩ : ∃ x, x = l[k] := ⟨_, rfl⟩
      rw [← hxx] at hc hx hj hin
      subst hj
      clear hxx
      have hkb : SetIn (w1.drewN q) bb b := HB.out.keep (below_drewN hb1 q)
      have HKB := Lib.hid hkb
      clear hkb
      cases ht : there b j with
      | true =>
        have hn := Lib.hid (show l.any (fun x => there b x.toNat == true) = true from List.any_eq_true.2 ⟨(j : Int), hin.out, by rw [Int.toNat_natCast, ht]; rfl⟩)
        clear hin hx
        go_wp2_with (first | (refine wp_region_quiet_lit (by kernel_rfl) (by kernel_rfl) ?_; (repeat (any_goals (first | go_big_quiet_step (fail) | quiet_step (fail) | (refine wpQuiet_step (fun K hK => ?_); go_simp; split <;> (refine hK _ ?_; clear hK K))))); all_goals (refine wpQuiet_nil ?_; intro _ hw'; obtain ⟨nq, hw''⟩ := hw'; subst hw'')) | ((with_reducible refine (ref03_There bb cb b j _ (HKB.out.keep (by (repeat (first | (with_reducible exact Below.refl _ _) | (with_reducible assumption) | (with_reducible refine below_alloc ?_ _) | (with_reducible refine below_drewN ?_ _) | (with_reducible refine Below.drew ?_) | (with_reducible refine below_then ?_ (by with_reducible assumption)) | (with_reducible refine Below.setCell ?_ (by go_size) _))))) (by omega)).mono ?_); rintro e w3 ⟨rfl, rfl⟩))
        all_goals
          go_returns
          exact ⟨by unfold hit; rw [hn.out]; rfl, by (repeat (first | (with_reducible exact Below.refl _ _) | (with_reducible assumption) | (with_reducible refine below_alloc ?_ _) | (with_reducible refine below_drewN ?_ _) | (with_reducible refine Below.drew ?_) | (with_reducible refine below_then ?_ (by with_reducible assumption)) | (with_reducible refine Below.setCell ?_ (by go_size) _)))⟩
      | false =>
        have hn := Lib.hid (hx.out.trans (show (there b ((j : Int)).toNat == true) = false by rw [Int.toNat_natCast, ht]; rfl))
        clear hin hx
        go_wp2_with (first | (refine wp_region_quiet_lit (by kernel_rfl) (by kernel_rfl) ?_; (repeat (any_goals (first | go_big_quiet_step (fail) | quiet_step (fail) | (refine wpQuiet_step (fun K hK => ?_); go_simp; split <;> (refine hK _ ?_; clear hK K))))); all_goals (refine wpQuiet_nil ?_; intro _ hw'; obtain ⟨nq, hw''⟩ := hw'; subst hw'')) | ((with_reducible refine (ref03_There bb cb b j _ (HKB.out.keep (by (repeat (first | (with_reducible exact Below.refl _ _) | (with_reducible assumption) | (with_reducible refine below_alloc ?_ _) | (with_reducible refine below_drewN ?_ _) | (with_reducible refine Below.drew ?_) | (with_reducible refine below_then ?_ (by with_reducible assumption)) | (with_reducible refine Below.setCell ?_ (by go_size) _))))) (by omega)).mono ?_); rintro e w3 ⟨rfl, rfl⟩))
        all_goals
          go_roundw
          case rel => exact ⟨k + 1, by omega, by go_num, hn.out, _, rfl⟩
          case measure => simp [intOf]; omega
    · obtain rfl : k = l.length := by omega
      have hn := Lib.hid (show l.any (fun x => there b x.toNat == true) = false by have := H0.out; rw [List.take_length] at this; exact this)
      go_wp2_with fail
      go_returns
      exact ⟨by unfold hit; rw [hn.out]; rfl, by (repeat (first | (with_reducible exact Below.refl _ _) | (with_reducible assumption) | (with_reducible refine below_alloc ?_ _) | (with_reducible refine below_drewN ?_ _) | (with_reducible refine Below.drew ?_) | (with_reducible refine below_then ?_ (by with_reducible assumption)) | (with_reducible refine Below.setCell ?_ (by go_size) _)))⟩

end

section
open Go.RowKit Go.Shelf

/-- What the document joins. -/
def refJoin (x y z : Bool) (n : Int) (a b : List Nat) : List Nat :=
  if sChk2 n a b = 0 then fillTo (nWords n) (fun i => rule x y z (there a i) (there b i)) n.toNat else []
def refHit (n : Int) (a b : List Nat) : Bool := if sChk2 n a b = 0 then hit true (nums a) b else false
def refIn (n : Int) (a b : List Nat) : Bool := if sChk2 n a b = 0 then !hit false (nums a) b else false

end

section
open Go.RowKit Go.Shelf

theorem there_zip {f : Nat → Nat → Nat} {r : Bool → Bool → Bool} (hf : ∀ x y j, x < 2 ^ 64 → y < 2 ^ 64 → j < 64 → (f x y).testBit j = r (x.testBit j) (y.testBit j)) {a b : List Nat} (hl : a.length = b.length) (ha : W64 a) (hb : W64 b)
    {i : Nat} (hi : i / 64 < a.length) : there (List.zipWith f a b) i = r (there a i) (there b i) := by
  have h2 : i / 64 < b.length := by omega
  rw [there_in (by simp; omega : i / 64 < (List.zipWith f a b).length), there_in hi, there_in h2]
  simp only [bitOf_test, List.getElem_zipWith]
  exact hf _ _ _ (ha _ (List.getElem_mem hi)) (hb _ (List.getElem_mem h2)) (Nat.mod_lt _ (by decide))

/-- No number of a set that may be is at its bound or beyond. -/
theorem there_top {n : Int} {ws : List Nat} (h : sChk n ws = 0) (hw : W64 ws) {i : Nat} (hi : n.toNat ≤ i) : there ws i = false := by
  obtain ⟨hn, hl, ht⟩ := sMay_len h
  by_cases hin : i / 64 < ws.length
  · have hn' := hn
    unfold nMay at hn'
    have hnw : nWords n = (n.toNat + 63) / 64 := by unfold nWords; omega
    have hk : i / 64 = nWords n - 1 := by omega
    have hm : n % 64 ≠ 0 := by omega
    unfold topClear at ht
    rw [decide_eq_false hm, Bool.false_or, decide_eq_true_eq] at ht
    rw [there_in hin]
    have e : ws.getD (nWords n - 1) 0 = ws[i / 64] := by simp only [← hk]; simp [hin]
    rw [e] at ht
    have hlt : ws[i / 64] < 2 ^ (n % 64).toNat := by
      rcases Nat.div_eq_zero_iff.1 ht with h0 | h0
      · exact absurd h0 (by have := Nat.two_pow_pos (n % 64).toNat; omega)
      · exact h0
    rw [bitOf_test, Nat.testBit_lt_two_pow]
    exact Nat.lt_of_lt_of_le hlt (Nat.pow_le_pow_right (by decide) (by omega))
  · exact there_out (by omega)

theorem join_eq {f : Nat → Nat → Nat} {x y z : Bool} (hfit : ∀ x y, x < 2 ^ 64 → y < 2 ^ 64 → f x y < 2 ^ 64)
    (hf : ∀ p q j, p < 2 ^ 64 → q < 2 ^ 64 → j < 64 → (f p q).testBit j = rule x y z (p.testBit j) (q.testBit j)) (n : Int) {a b : List Nat} (ha : W64 a) (hb : W64 b) :
    joinIf f n a b = refJoin x y z n a b := by
  unfold joinIf refJoin
  by_cases h : sChk2 n a b = 0
  · rw [if_pos h, if_pos h]
    obtain ⟨h1, h2⟩ := sChk2_0 h
    obtain ⟨hn, hla, _⟩ := sMay_len h1
    obtain ⟨_, hlb, _⟩ := sMay_len h2
    have hn' := hn
    unfold nMay at hn'
    have hnw : nWords n = (n.toNat + 63) / 64 := by unfold nWords; omega
    have hlen : (List.zipWith f a b).length = nWords n := by rw [List.length_zipWith]; omega
    refine sets_ext (by rw [fillTo_len, hlen]) (zip_fit hfit ha hb) (fillTo_fit _ _ _) (fun i hi => ?_)
    rw [there_fillTo _ _ _ _ (by omega), there_zip hf (by omega) ha hb (by omega)]
    by_cases hin : i < n.toNat
    · simp [hin]
    · rw [there_top h1 ha (by omega), there_top h2 hb (by omega)]
      simp [hin, rule]
  · rw [if_neg h, if_neg h]

theorem andW_bit (p q j : Nat) (_ : p < 2 ^ 64) (_ : q < 2 ^ 64) (_ : j < 64) : (andW p q).testBit j = rule true false false (p.testBit j) (q.testBit j) := by
  unfold andW; rw [Nat.testBit_and]; cases p.testBit j <;> cases q.testBit j <;> rfl
theorem orW_bit (p q j : Nat) (_ : p < 2 ^ 64) (_ : q < 2 ^ 64) (_ : j < 64) : (orW p q).testBit j = rule true true true (p.testBit j) (q.testBit j) := by
  unfold orW; rw [Nat.testBit_or]; cases p.testBit j <;> cases q.testBit j <;> rfl
theorem lessW_bit (p q j : Nat) (_ : p < 2 ^ 64) (hq : q < 2 ^ 64) (hj : j < 64) : (lessW p q).testBit j = rule false true false (p.testBit j) (q.testBit j) := by
  have e : 18446744073709551615 - q = 2 ^ 64 - (q + 1) := by omega
  unfold lessW; rw [Nat.testBit_and, e, Nat.testBit_two_pow_sub_succ hq]; cases p.testBit j <;> cases q.testBit j <;> simp [rule, hj]

theorem anyNZ_iff {ws : List Nat} (hw : W64 ws) : anyNZ ws = true ↔ ∃ i, i < 64 * ws.length ∧ there ws i = true := by
  unfold anyNZ
  rw [List.any_eq_true]
  constructor
  · rintro ⟨x, hx, h⟩
    obtain ⟨k, hk, rfl⟩ := List.mem_iff_getElem.1 hx
    have hne : ws[k] ≠ 0 := by simpa using h
    obtain ⟨j, hj⟩ := Nat.exists_testBit_of_ne_zero hne
    have hlt := hw _ hx
    have hj64 : j < 64 := by
      rcases Nat.lt_or_ge j 64 with h | h
      · exact h
      · have hf := Nat.testBit_lt_two_pow (Nat.lt_of_lt_of_le hlt (Nat.pow_le_pow_right (by decide) h : 2 ^ 64 ≤ 2 ^ j))
        rw [hf] at hj; exact absurd hj (by decide)
    refine ⟨64 * k + j, by omega, ?_⟩
    rw [there_in (by omega), bitOf_test]
    simp only [show (64 * k + j) / 64 = k by omega, show (64 * k + j) % 64 = j by omega]
    exact hj
  · rintro ⟨i, hi, ht⟩
    have hk : i / 64 < ws.length := by omega
    rw [there_in hk, bitOf_test] at ht
    refine ⟨ws[i / 64], List.getElem_mem hk, ?_⟩
    rw [decide_eq_true_eq]
    intro e
    rw [e, Nat.zero_testBit] at ht
    exact absurd ht (by decide)

theorem hitL_iff {pol : Bool} {a b : List Nat} : hit pol (nums a) b = true ↔ ∃ i : Nat, i < 64 * a.length ∧ there a i = true ∧ there b i = pol := by
  unfold hit
  rw [List.any_eq_true]
  constructor
  · rintro ⟨x, hx, h⟩
    obtain ⟨k, rfl, h1, h2⟩ := mem_nums.1 hx
    exact ⟨k, h1, h2, by simpa using h⟩
  · rintro ⟨i, h1, h2, h3⟩
    exact ⟨(i : Int), mem_nums.2 ⟨i, rfl, h1, h2⟩, by simpa using h3⟩

theorem meet_eq (n : Int) {a b : List Nat} (ha : W64 a) (hb : W64 b) : anyNZ (joinIf andW n a b) = refHit n a b := by
  unfold refHit
  by_cases h : sChk2 n a b = 0
  · rw [if_pos h]
    obtain ⟨h1, h2⟩ := sChk2_0 h
    obtain ⟨_, hla, _⟩ := sMay_len h1
    obtain ⟨_, hlb, _⟩ := sMay_len h2
    have hlen : (List.zipWith andW a b).length = a.length := by rw [List.length_zipWith]; omega
    have e : joinIf andW n a b = List.zipWith andW a b := if_pos h
    rw [Bool.eq_iff_iff, anyNZ_iff (joinIf_fit andW_fit ha hb), hitL_iff, e, hlen]
    constructor
    · rintro ⟨i, hi, ht⟩
      rw [there_zip andW_bit (by omega) ha hb (by omega)] at ht
      refine ⟨i, hi, ?_⟩
      revert ht; cases there a i <;> cases there b i <;> simp [rule]
    · rintro ⟨i, hi, h3, h4⟩
      refine ⟨i, hi, ?_⟩
      rw [there_zip andW_bit (by omega) ha hb (by omega), h3, h4]; rfl
  · rw [if_neg h, joinIf, if_neg h]; rfl

theorem in_eq (n : Int) {a b : List Nat} (ha : W64 a) (hb : W64 b) : (decide (sChk2 n a b = 0) && !anyNZ (joinIf lessW n a b)) = refIn n a b := by
  unfold refIn
  by_cases h : sChk2 n a b = 0
  · rw [if_pos h, decide_eq_true h, Bool.true_and]
    congr 1
    obtain ⟨h1, h2⟩ := sChk2_0 h
    obtain ⟨_, hla, _⟩ := sMay_len h1
    obtain ⟨_, hlb, _⟩ := sMay_len h2
    have hlen : (List.zipWith lessW a b).length = a.length := by rw [List.length_zipWith]; omega
    have e : joinIf lessW n a b = List.zipWith lessW a b := if_pos h
    rw [Bool.eq_iff_iff, anyNZ_iff (joinIf_fit lessW_fit ha hb), hitL_iff, e, hlen]
    constructor
    · rintro ⟨i, hi, ht⟩
      rw [there_zip lessW_bit (by omega) ha hb (by omega)] at ht
      refine ⟨i, hi, ?_⟩
      revert ht; cases there a i <;> cases there b i <;> simp [rule]
    · rintro ⟨i, hi, h3, h4⟩
      refine ⟨i, hi, ?_⟩
      rw [there_zip lessW_bit (by omega) ha hb (by omega), h3, h4]; rfl
  · rw [if_neg h, decide_eq_false h]; rfl

theorem refJoin_fit (x y z : Bool) (n : Int) (a b : List Nat) : W64 (refJoin x y z n a b) := by
  unfold refJoin; split
  · exact fillTo_fit _ _ _
  · intro x hx; simp at hx
theorem refJoin_len (x y z : Bool) (n : Int) (a b : List Nat) : (refJoin x y z n a b).length ≤ 192 := by
  unfold refJoin; split
  · next h =>
    rw [fillTo_len]
    exact (nWords_pos (sMay_len (sChk2_0 h).1).1).2
  · simp

theorem set_And_ref (n : Int) (ba bb : Option Addr) (ca cb : Nat) (a b : List Nat) (w : World) (ha : SetIn w ba a) (hb : SetIn w bb b) :
    Calls Tryz.prog 33 #[.int .i64 n, .slice ba a.length ca, .slice bb b.length cb] w (RUE w (refJoin true false false n a b) (sChk2 n a b)) := by
  rw [← join_eq andW_fit andW_bit n ha.fit hb.fit]
  exact set_And n ba bb ca cb a b w ha hb
theorem set_Or_ref (n : Int) (ba bb : Option Addr) (ca cb : Nat) (a b : List Nat) (w : World) (ha : SetIn w ba a) (hb : SetIn w bb b) :
    Calls Tryz.prog 22 #[.int .i64 n, .slice ba a.length ca, .slice bb b.length cb] w (RUE w (refJoin true true true n a b) (sChk2 n a b)) := by
  rw [← join_eq orW_fit orW_bit n ha.fit hb.fit]
  exact set_Or n ba bb ca cb a b w ha hb
theorem set_Less_ref (n : Int) (ba bb : Option Addr) (ca cb : Nat) (a b : List Nat) (w : World) (ha : SetIn w ba a) (hb : SetIn w bb b) :
    Calls Tryz.prog 23 #[.int .i64 n, .slice ba a.length ca, .slice bb b.length cb] w (RUE w (refJoin false true false n a b) (sChk2 n a b)) := by
  rw [← join_eq lessW_fit lessW_bit n ha.fit hb.fit]
  exact set_Less n ba bb ca cb a b w ha hb
end
end
end Go.Proofs.YtofoenlhbmammaaGreat
