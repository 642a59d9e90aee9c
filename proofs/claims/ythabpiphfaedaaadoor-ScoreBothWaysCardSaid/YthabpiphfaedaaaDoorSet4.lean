/- REF 03: checks, lists, joins. -/
import Derived.Test.YthabpiphfaedaaaDoorSet3
namespace Go.Proofs.YthabpiphfaedaaaDoor
open Go.RowKit Go.Shelf

theorem bitOf_test (x j : Nat) : bitOf x j = x.testBit j := by
  rw [bitOf, Nat.testBit_eq_decide_div_mod_eq]
  rcases Nat.mod_two_eq_zero_or_one (x / 2 ^ j) with h | h <;> rw [h] <;> rfl

theorem refMay_eq {n : Int} {ws : List Nat} (hn : nMay n) (hw : W64 ws) : refMay n ws = decide (setMay n ws) := by
  have hp := nWords_pos hn
  unfold nMay at hn
  by_cases hl : ws.length = nWords n
  · have hk : nWords n - 1 < ws.length := by omega
    have hx := hw _ (List.getElem_mem hk)
    have hg : ws.getD (nWords n - 1) 0 = ws[nWords n - 1] := by simp [hk]
    have e : setMay n ws ↔ topClear n ws = true := by simp [setMay, hl]
    rw [Bool.eq_iff_iff, decide_eq_true_iff, e]
    simp only [refMay, hl, decide_true, Bool.true_and, clearTo, List.all_eq_true, List.mem_range, Bool.not_eq_true', topClear, Bool.or_eq_true, decide_eq_true_eq, hg]
    have hn1 : n = 64 * ((nWords n : Int) - 1) + (if n % 64 = 0 then 64 else n % 64) := by unfold nWords; split <;> omega
    have inword : ∀ j, j < 64 → there ws (64 * (nWords n - 1) + j) = bitOf ws[nWords n - 1] j := by
      intro j hj
      have h1 : (64 * (nWords n - 1) + j) / 64 = nWords n - 1 := by omega
      have h2 : (64 * (nWords n - 1) + j) % 64 = j := by omega
      unfold there
      rw [h1, h2, hg]
    constructor
    · intro h
      by_cases hm : n % 64 = 0
      · exact .inl hm
      · refine .inr ?_
        rw [if_neg hm] at hn1
        apply Nat.div_eq_of_lt
        apply Nat.lt_pow_two_of_testBit
        intro i hi
        by_cases h64 : i < 64
        · have := h (i - (n % 64).toNat) (by omega)
          rw [show n.toNat + (i - (n % 64).toNat) = 64 * (nWords n - 1) + i by omega, inword i h64, bitOf_test] at this
          exact this
        · exact Nat.testBit_lt_two_pow (Nat.lt_of_lt_of_le hx (show 2 ^ 64 ≤ 2 ^ i from Nat.pow_le_pow_right (by decide) (by omega)))
    · rintro (hm | hm) j hj
      · rw [if_pos hm] at hn1
        omega
      · by_cases hz : n % 64 = 0
        · rw [if_pos hz] at hn1
          omega
        · rw [if_neg hz] at hn1
          have hlt : ws[nWords n - 1] < 2 ^ (n % 64).toNat := by
            rcases Nat.div_eq_zero_iff.1 hm with h | h
            · exact absurd h (by simp)
            · exact h
          rw [show n.toNat + j = 64 * (nWords n - 1) + ((n % 64).toNat + j) by omega, inword _ (by omega), bitOf_test]
          exact Nat.testBit_lt_two_pow (Nat.lt_of_lt_of_le hlt (Nat.pow_le_pow_right (by decide) (by omega)))
  · rw [show refMay n ws = false by simp [refMay, hl]]
    symm
    rw [decide_eq_false_iff_not]
    exact fun h => hl h.1


/-- A set's numbers below k. -/
def numsTo (ws : List Nat) (k : Nat) : List Int := ((List.range k).filter (there ws)).map (fun (j : Nat) => (j : Int))
def nums (ws : List Nat) : List Int := numsTo ws (64 * ws.length)
theorem numsTo_succ (ws : List Nat) (k : Nat) : numsTo ws (k + 1) = if there ws k then numsTo ws k ++ [(k : Int)] else numsTo ws k := by
  simp only [numsTo, List.range_succ, List.filter_append, List.filter_cons, List.filter_nil]
  split <;> simp
theorem numsTo_len (ws : List Nat) (k : Nat) : (numsTo ws k).length ≤ k := by
  have := List.length_filter_le (there ws) (List.range k)
  simpa [numsTo] using this
theorem mem_nums {ws : List Nat} {x : Int} : x ∈ nums ws ↔ ∃ k : Nat, x = (k : Int) ∧ k < 64 * ws.length ∧ there ws k = true := by
  simp only [nums, numsTo, List.mem_map, List.mem_filter, List.mem_range]
  constructor
  · rintro ⟨k, ⟨h1, h2⟩, rfl⟩; exact ⟨k, rfl, h1, h2⟩
  · rintro ⟨k, rfl, h1, h2⟩; exact ⟨k, ⟨h1, h2⟩, rfl⟩

set_option maxRecDepth 100000 in set_option maxHeartbeats 4000000 in
theorem ref03_All (base : Option Addr) (cap : Nat) (ws : List Nat) (w : World) (hr : SetIn w base ws) (hl : ws.length ≤ 10000) :
    Calls Tryd.prog 94 #[.slice base ws.length cap] w (RI w (nums ws)) := by
  obtain ⟨i0, hi, iz0, iz1, iz2⟩ := info_parts infoInt
  have HR := Lib.hid hr
  clear hr
  go_enter Tryd.func94, Tryd.ntmps94
  go_wp2_with fail
  go_loopw [3, 4] (fun v i wr => ∃ k : Nat, k ≤ 64 * ws.length ∧ i = .int .i64 k ∧ wr.ownsRow w.heap.size 3 1 v (numsTo ws k).length ((numsTo ws k).map (Value.int .i64)) ∧ Below w.heap.size w wr) (fun _ i _ => 64 * ws.length - (intOf i).toNat)
  case atStart => exact ⟨0, Nat.zero_le _, rfl, World.ownsRow_nil _ _ _ _, Below.refl _ _⟩
  case round =>
    obtain ⟨k, hk, rfl, hown, hbel⟩ := hrel
    have HO := Lib.hid hown
    clear hown
    have hup := Lib.hid (numsTo_succ ws k)
    have hul := numsTo_len ws k
    have hz := hbel.size
    by_cases hlt : k < 64 * ws.length
    · cases ht : there ws k with
      | false =>
        have hu := Lib.hid (hup.out.trans (if_neg (by simp [ht])))
        go_wp2_with ((go_at_call 91; refine (ref03_There base cap ws k _ (HR.out.keep hbel) (by omega)).mono ?_; rintro e w1 ⟨rfl, rfl⟩))
        go_roundw
        case rel => exact ⟨k + 1, by omega, by go_num, by rw [hu.out]; exact HO.out, hbel⟩
        case measure => simp [intOf]; omega
      | true =>
        have hu := Lib.hid (hup.out.trans (if_pos ht))
        go_wp2_with (first | ((go_at_call 91; refine (ref03_There base cap ws k _ (HR.out.keep hbel) (by omega)).mono ?_; rintro e w1 ⟨rfl, rfl⟩)) | (at_builtin; refine wpList_append_own _ rfl _ _ 38 rfl (w.heap.size) 3 i0 (.int .i64 0) 1 8 Tryd.underlying38 hi iz0 iz1 iz2 rfl (by decide) _ _ _ rfl ((HO.out).alloc _) ⟨_, 0, none⟩ 1 1 [.int .i64 (k)] rfl rfl (cell_new1 _ _ _) (by simp [Value.oneCell']) ?ap3 ?ap4 ?ap5 ?_))
        case ap3 => unfold maxLen; omega
        case ap4 => omega
        case ap5 => simp; omega
        intro v' w3 o3 hg3 _
        have n3 := own_below (HO.out.alloc _) hg3 (by simp; omega)
        have e3 : Below w.heap.size w w3 := (hbel.alloc hz _).trans n3
        clear n3
        go_wp2_with fail
        go_roundw
        case rel => exact ⟨k + 1, by omega, by go_num, by rw [hu.out]; simpa using o3, e3⟩
        case measure => simp [intOf]; omega
    · obtain rfl : k = 64 * ws.length := by omega
      clear hup
      go_wp2_with fail
      go_returns
      exact ⟨_, rfl, HO.out, hbel⟩

theorem ref03_sameAt {a b : List Nat} {k : Nat} (hl : a.length = b.length) (ha : k < a.length) (hb : k < b.length) (he : a.take k = b.take k) : a.take (k + 1) = b.take (k + 1) ↔ a[k] = b[k] := by
  rw [List.take_succ_eq_append_getElem ha, List.take_succ_eq_append_getElem hb, he]
  simp only [List.append_cancel_left_eq, List.cons.injEq, and_true]

set_option maxRecDepth 100000 in set_option maxHeartbeats 4000000 in
theorem ref03_Same (ba bb : Option Addr) (ca cb : Nat) (a b : List Nat) (w : World) (ha : SetIn w ba a) (hb : SetIn w bb b) :
    Calls Tryd.prog 20 #[.slice ba a.length ca, .slice bb b.length cb] w (RB w (.bool (decide (a = b)))) := by
  have HA := Lib.hid ha
  have HB := Lib.hid hb
  have hal := ha.len
  have hbl := hb.len
  clear ha hb
  by_cases hl : a.length = b.length
  · have e1 : ((a.length : Int) != (b.length : Int)) = false := by rw [bne_eq_false_iff_eq]; omega
    have HL := Lib.hid hl
    have l1 : a.length ≤ b.length := by omega
    have l2 : b.length ≤ a.length := by omega
    clear hl
    go_enter Tryd.func20, Tryd.ntmps20
    go_wp2_with fail
    go_loopw [5] (fun v wr => ∃ k : Nat, k ≤ a.length ∧ v = .int .i64 k ∧ a.take k = b.take k ∧ ∃ q, wr = w.drewN q) (fun v _ => a.length - (intOf v).toNat)
    case atStart => exact ⟨0, Nat.zero_le _, rfl, rfl, 0, rfl⟩
    case round =>
      obtain ⟨k, hk, rfl, he, q, rfl⟩ := hrel
      have HE := Lib.hid he
      clear he
      by_cases hlt : k < a.length
      · have hltb : k < b.length := by omega
        obtain ⟨bA, oA, rfl, hca⟩ := HA.out.rd k _ (wcells_at hlt)
        obtain ⟨bB, oB, rfl, hcb⟩ := HB.out.rd k _ (wcells_at hltb)
        by_cases hx : a[k] = b[k]
        · have hn := Lib.hid ((ref03_sameAt HL.out hlt hltb HE.out).2 hx)
          have e2 : ((a[k] : Int) != (b[k] : Int)) = false := by rw [bne_eq_false_iff_eq, hx]
          clear hx
          go_wp2_with (refine wp_region_quiet_lit (by kernel_rfl) (by kernel_rfl) ?_; (repeat (any_goals (first | go_big_quiet_step (fail) | quiet_step (fail) | (refine wpQuiet_step (fun K hK => ?_); go_simp; split <;> (refine hK _ ?_; clear hK K))))); all_goals (refine wpQuiet_nil ?_; intro _ hw'; obtain ⟨nq, hw''⟩ := hw'; subst hw''))
          all_goals
            go_roundw
            case rel => exact ⟨k + 1, by omega, by go_num, hn.out, _, rfl⟩
            case measure => simp [intOf]; omega
        · have hn := Lib.hid (show ¬ a = b from fun h => hx (by subst h; rfl))
          have e2 : ((a[k] : Int) != (b[k] : Int)) = true := by rw [bne_iff_ne]; omega
          clear hx
          go_wp2_with (refine wp_region_quiet_lit (by kernel_rfl) (by kernel_rfl) ?_; (repeat (any_goals (first | go_big_quiet_step (fail) | quiet_step (fail) | (refine wpQuiet_step (fun K hK => ?_); go_simp; split <;> (refine hK _ ?_; clear hK K))))); all_goals (refine wpQuiet_nil ?_; intro _ hw'; obtain ⟨nq, hw''⟩ := hw'; subst hw''))
          all_goals
            go_returns
            exact ⟨ret_no hn.out, by (repeat (first | (with_reducible exact Below.refl _ _) | (with_reducible assumption) | (with_reducible refine below_alloc ?_ _) | (with_reducible refine below_drewN ?_ _) | (with_reducible refine Below.drew ?_) | (with_reducible refine below_then ?_ (by with_reducible assumption)) | (with_reducible refine Below.setCell ?_ (by go_size) _)))⟩
      · obtain rfl : k = a.length := by omega
        have hn := Lib.hid (show a = b by have := HE.out; rw [List.take_length, List.take_of_length_le (by omega)] at this; exact this)
        go_wp2_with fail
        go_returns
        exact ⟨ret_yes hn.out, by (repeat (first | (with_reducible exact Below.refl _ _) | (with_reducible assumption) | (with_reducible refine below_alloc ?_ _) | (with_reducible refine below_drewN ?_ _) | (with_reducible refine Below.drew ?_) | (with_reducible refine below_then ?_ (by with_reducible assumption)) | (with_reducible refine Below.setCell ?_ (by go_size) _)))⟩
  · have e1 : ((a.length : Int) != (b.length : Int)) = true := by rw [bne_iff_ne]; omega
    have HN := Lib.hid (show ¬ a = b from fun h => hl (by rw [h]))
    clear hl
    go_enter Tryd.func20, Tryd.ntmps20
    go_wp2_with fail
    go_returns
    exact ⟨ret_no HN.out, by (repeat (first | (with_reducible exact Below.refl _ _) | (with_reducible assumption) | (with_reducible refine below_alloc ?_ _) | (with_reducible refine below_drewN ?_ _) | (with_reducible refine Below.drew ?_) | (with_reducible refine below_then ?_ (by with_reducible assumption)) | (with_reducible refine Below.setCell ?_ (by go_size) _)))⟩
end Go.Proofs.YthabpiphfaedaaaDoor
