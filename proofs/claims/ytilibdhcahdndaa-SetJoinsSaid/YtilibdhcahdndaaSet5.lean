/- REF 03: sets joined number by number, and what two sets have in common. -/
import Derived.Test.YtilibdhcahdndaaSet4
namespace Go.Proofs.Ytilibdhcahdndaa
open Go.RowKit Go.Shelf

/-- A word with one bit more. -/
def putBit (ws : List Nat) (k : Nat) : List Nat := ws.set (k / 64) (ws.getD (k / 64) 0 ||| 2 ^ (k % 64))
/-- The set of those below k of which something holds. -/
def fillTo (m : Nat) (p : Nat → Bool) : Nat → List Nat
  | 0 => List.replicate m 0
  | k + 1 => if p k then putBit (fillTo m p k) k else fillTo m p k
theorem putBit_len (ws : List Nat) (k : Nat) : (putBit ws k).length = ws.length := by simp [putBit]
theorem fillTo_len (m : Nat) (p : Nat → Bool) (k : Nat) : (fillTo m p k).length = m := by
  induction k with
  | zero => simp [fillTo]
  | succ k ih => simp only [fillTo]; split <;> simp [putBit_len, ih]
theorem putBit_fit {ws : List Nat} {k : Nat} (h : W64 ws) : W64 (putBit ws k) := by
  intro x hx
  unfold putBit at hx
  rcases List.mem_or_eq_of_mem_set hx with hm | rfl
  · exact h x hm
  · have h1 : ws.getD (k / 64) 0 < 2 ^ 64 := by
      by_cases hk : k / 64 < ws.length
      · have := h _ (List.getElem_mem hk); simpa [hk] using this
      · rw [List.getD_eq_getElem?_getD, List.getElem?_eq_none (by omega)]; decide
    exact Nat.or_lt_two_pow h1 (Nat.pow_lt_pow_right (by decide) (by omega))
theorem fillTo_fit (m : Nat) (p : Nat → Bool) (k : Nat) : W64 (fillTo m p k) := by
  induction k with
  | zero => intro x hx; simp [fillTo] at hx; omega
  | succ k ih => simp only [fillTo]; split; exact putBit_fit ih; exact ih
theorem there_putBit {ws : List Nat} {k i : Nat} (h : k / 64 < ws.length) : there (putBit ws k) i = (there ws i || decide (i = k)) := by
  unfold there putBit
  simp only [bitOf_test]
  by_cases hw : i / 64 = k / 64
  · rw [hw, show (ws.set (k / 64) (ws.getD (k / 64) 0 ||| 2 ^ (k % 64))).getD (k / 64) 0 = ws.getD (k / 64) 0 ||| 2 ^ (k % 64) by simp [h], Nat.testBit_or, Nat.testBit_two_pow]
    congr 1
    rw [decide_eq_decide]
    omega
  · have : (ws.set (k / 64) (ws.getD (k / 64) 0 ||| 2 ^ (k % 64))).getD (i / 64) 0 = ws.getD (i / 64) 0 := by
      rw [List.getD_eq_getElem?_getD, List.getElem?_set_ne (Ne.symm hw), ← List.getD_eq_getElem?_getD]
    rw [this, show decide (i = k) = false from decide_eq_false (by intro e; exact hw (by rw [e])), Bool.or_false]
theorem there_fillTo (m : Nat) (p : Nat → Bool) (k i : Nat) (hk : k ≤ 64 * m) : there (fillTo m p k) i = (decide (i < k) && p i) := by
  induction k with
  | zero =>
    have e : (List.replicate m 0).getD (i / 64) 0 = 0 := by
      rw [List.getD_eq_getElem?_getD, List.getElem?_replicate]; split <;> rfl
    simp only [fillTo, there, e, bitOf_test]
    simp
  | succ k ih =>
    have ih := ih (by omega)
    simp only [fillTo]
    by_cases hp : p k = true
    · rw [if_pos hp, there_putBit (by rw [fillTo_len]; omega), ih]
      by_cases e : i = k
      · subst e; simp [hp]
      · simp [e, show (i < k + 1) = (i < k) by rw [eq_iff_iff]; omega]
    · rw [if_neg hp, ih]
      by_cases e : i = k
      · subst e; simp [hp]
      · simp [show (i < k + 1) = (i < k) by rw [eq_iff_iff]; omega]

/-- Two sets of as many words are one, if they have the same numbers. -/
theorem sets_ext {a b : List Nat} (hl : a.length = b.length) (ha : W64 a) (hb : W64 b) (h : ∀ i, i < 64 * a.length → there a i = there b i) : a = b := by
  apply List.ext_getElem hl
  intro j h1 h2
  apply Nat.eq_of_testBit_eq
  intro i
  by_cases hi : i < 64
  · have := h (64 * j + i) (by omega)
    rw [there_in (by omega : (64 * j + i) / 64 < a.length), there_in (by omega : (64 * j + i) / 64 < b.length)] at this
    simp only [bitOf_test, show (64 * j + i) / 64 = j by omega, show (64 * j + i) % 64 = i by omega] at this
    exact this
  · have p : 2 ^ 64 ≤ 2 ^ i := Nat.pow_le_pow_right (by decide) (by omega)
    rw [Nat.testBit_lt_two_pow (Nat.lt_of_lt_of_le (ha _ (List.getElem_mem h1)) p), Nat.testBit_lt_two_pow (Nat.lt_of_lt_of_le (hb _ (List.getElem_mem h2)) p)]

/-- The rule by which a number is in a set of two. -/
def rule (both first second x y : Bool) : Bool := x && y && both || x && !y && first || !x && y && second

theorem shl_bit (j : Nat) (h : j < 64) : IntKind.u64.wrap ((2 : Int) ^ j) = ((2 ^ j : Nat) : Int) := by
  rw [IntKind.wrap_u64]
  have h1 : (2 ^ j : Nat) < 18446744073709551616 := Nat.lt_of_lt_of_le (Nat.pow_lt_pow_right (by decide) h) (by decide)
  have e : ((2 : Int) ^ j) = ((2 ^ j : Nat) : Int) := by simp
  rw [e]
  generalize (2 ^ j : Nat) = q at *
  omega

set_option maxRecDepth 100000 in set_option maxHeartbeats 4000000 in
theorem ref03_joined_And (n : Int) (ba bb : Option Addr) (ca cb : Nat) (a b : List Nat) (w : World) (ha : SetIn w ba a) (hb : SetIn w bb b) (hn : nMay n) :
    Calls Try.prog 42 #[.int .i64 n, .slice ba a.length ca, .slice bb b.length cb, .bool true, .bool false, .bool false] w (RU w (fillTo (nWords n) (fun i => rule true false false (there a i) (there b i)) n.toNat)) := by
  obtain ⟨i0, hi, iz0, iz1, iz2⟩ := info_parts infoU64
  have hp := nWords_pos hn
  have hn' := hn
  unfold nMay at hn'
  have hdiv : (n + 63) / 64 = (nWords n : Int) := by unfold nWords; omega
  have HA := Lib.hid ha
  have HB := Lib.hid hb
  clear ha hb hn
  obtain ⟨w1, hmk, hown, hgr⟩ := run_make_full (P := Try.prog) w w.heap.size 23 34 i0 (.int .u64 0) 1 Try.underlying23 hi iz0 iz1 .i64 .i64 (nWords n) (by rw [iz2]; omega) (by unfold maxLen; omega) (Nat.le_refl _)
  have hz : (madeCells (Value.int .u64 0).cells (nWords n * 1)).toList = wcells (fillTo (nWords n) (fun i => rule true false false (there a i) (there b i)) 0) := by
    rw [show (Value.int .u64 0).cells = #[Value.int .u64 0] from rfl, Nat.mul_one, toList_madeCells_one]; simp [fillTo, wcells]
  rw [hz] at hown
  have hbel : Below w.heap.size w w1 := (Below.refl _ _).grown hgr (Nat.le_refl _) (fun k e => by cases e)
  clear hz hgr
  have HO := Lib.hid hown
  clear hown
  go_enter Try.func42, Try.ntmps42
  go_wp2_with fail
  try rw [hdiv]
  clear hdiv
  go_loopw [14] (fun i wr => ∃ k : Nat, k ≤ n.toNat ∧ i = .int .i64 k ∧ wr.ownsRow w.heap.size 34 1 (.slice (some ⟨w.heap.size, 0, none⟩) (nWords n) (nWords n)) (nWords n) (wcells (fillTo (nWords n) (fun i => rule true false false (there a i) (there b i)) k)) ∧ Below w.heap.size w wr) (fun i _ => n.toNat - (intOf i).toNat)
  case atStart => exact ⟨0, Nat.zero_le _, rfl, HO.out, hbel⟩
  case round =>
    clear hbel HO hmk
    obtain ⟨k, hk, rfl, hown, hbel⟩ := hrel
    have HO := Lib.hid hown
    clear hown
    by_cases hlt : k < n.toNat
    · have hkw : k / 64 < nWords n := by unfold nWords; omega
      have hfl := fillTo_len (nWords n) (fun i => rule true false false (there a i) (there b i)) k
      have hff := Lib.hid (fillTo_fit (nWords n) (fun i => rule true false false (there a i) (there b i)) k)
      have hfs := Lib.hid (show fillTo (nWords n) (fun i => rule true false false (there a i) (there b i)) (k + 1) = if rule true false false (there a k) (there b k) then putBit (fillTo (nWords n) (fun i => rule true false false (there a i) (there b i)) k) k else fillTo (nWords n) (fun i => rule true false false (there a i) (there b i)) k from rfl)
      obtain ⟨cur, hcur⟩ : ∃ cur, cur = fillTo (nWords n) (fun i => rule true false false (there a i) (there b i)) k := ⟨_, rfl⟩
      rw [← hcur] at HO hff hfs hfl
      clear hcur
      have hkl : k / 64 < cur.length := by omega
      have hx : cur[k / 64] < 18446744073709551616 := hff.out _ (List.getElem_mem hkl)
      have hca : wr.cell? ⟨w.heap.size, k / 64, none⟩ = some (.int .u64 (cur[k / 64] : Int)) := by rw [HO.out.cellAt _ (by omega)]; exact wcells_at hkl
      have hfa : wr.frozen? ⟨w.heap.size, k / 64, none⟩ = false := HO.out.frozenAt _
      have hst := Lib.hid (HO.out.stored (k / 64) (.int .u64 ((cur[k / 64] ||| 2 ^ (k % 64) : Nat) : Int)))
      have hbits := Lib.hid (u64_or_nat cur[k / 64] (2 ^ (k % 64)) hx (Nat.lt_of_lt_of_le (Nat.pow_lt_pow_right (by decide) (Nat.mod_lt k (show 64 > 0 by decide))) (by decide)))
      have hpb := Lib.hid (show wcells (putBit cur k) = (wcells cur).set (k / 64) (.int .u64 ((cur[k / 64] ||| 2 ^ (k % 64) : Nat) : Int)) by unfold putBit wcells; rw [List.map_set]; simp [hkl])
      obtain ⟨x, hxx⟩ : ∃ x, x = cur[k / 64] := ⟨_, rfl⟩
      rw [← hxx] at hca hx hst hbits hpb
      clear hxx hfl
      cases hta : there a k <;> cases htb : there b k
      all_goals
        go_wp2_with ((go_at_call 70; first | ((with_reducible refine (ref03_There ba ca a k _ (HA.out.keep hbel) (by omega)).mono ?_); rintro e w1 ⟨rfl, rfl⟩) | ((with_reducible refine (ref03_There bb cb b k _ (HB.out.keep hbel) (by omega)).mono ?_); rintro e w1 ⟨rfl, rfl⟩)))
        try go_region
        all_goals go_wp2_with fail
        all_goals (try rw [shl_bit (k % 64) (Nat.mod_lt k (by decide))])
        all_goals (try rw [hbits.out])
        all_goals refine ⟨⟨k + 1, by omega, by rw [Int.natCast_add]; rfl, ?_, ?_⟩, by simp [intOf]; omega⟩
        all_goals first
          | exact hbel
          | exact (hbel.grown hst.out.2 hbel.size (fun k e => by cases e; exact Nat.le_refl _)).drew
          | (rw [hfs.out.trans (if_pos (by rw [hta, htb]; rfl)), hpb.out]; exact hst.out.1)
          | (rw [hfs.out.trans (if_neg (by rw [hta, htb]; decide))]; exact HO.out)
    · obtain rfl : k = n.toNat := by omega
      have hge : ¬ ((n.toNat : Int) < n) := by omega
      go_wp2_with fail
      go_returns
      exact ⟨_, rfl, by rw [fillTo_len]; exact HO.out, hbel⟩
set_option maxRecDepth 100000 in set_option maxHeartbeats 4000000 in
theorem ref03_joined_Or (n : Int) (ba bb : Option Addr) (ca cb : Nat) (a b : List Nat) (w : World) (ha : SetIn w ba a) (hb : SetIn w bb b) (hn : nMay n) :
    Calls Try.prog 42 #[.int .i64 n, .slice ba a.length ca, .slice bb b.length cb, .bool true, .bool true, .bool true] w (RU w (fillTo (nWords n) (fun i => rule true true true (there a i) (there b i)) n.toNat)) := by
  obtain ⟨i0, hi, iz0, iz1, iz2⟩ := info_parts infoU64
  have hp := nWords_pos hn
  have hn' := hn
  unfold nMay at hn'
  have hdiv : (n + 63) / 64 = (nWords n : Int) := by unfold nWords; omega
  have HA := Lib.hid ha
  have HB := Lib.hid hb
  clear ha hb hn
  obtain ⟨w1, hmk, hown, hgr⟩ := run_make_full (P := Try.prog) w w.heap.size 23 34 i0 (.int .u64 0) 1 Try.underlying23 hi iz0 iz1 .i64 .i64 (nWords n) (by rw [iz2]; omega) (by unfold maxLen; omega) (Nat.le_refl _)
  have hz : (madeCells (Value.int .u64 0).cells (nWords n * 1)).toList = wcells (fillTo (nWords n) (fun i => rule true true true (there a i) (there b i)) 0) := by
    rw [show (Value.int .u64 0).cells = #[Value.int .u64 0] from rfl, Nat.mul_one, toList_madeCells_one]; simp [fillTo, wcells]
  rw [hz] at hown
  have hbel : Below w.heap.size w w1 := (Below.refl _ _).grown hgr (Nat.le_refl _) (fun k e => by cases e)
  clear hz hgr
  have HO := Lib.hid hown
  clear hown
  go_enter Try.func42, Try.ntmps42
  go_wp2_with fail
  try rw [hdiv]
  clear hdiv
  go_loopw [14] (fun i wr => ∃ k : Nat, k ≤ n.toNat ∧ i = .int .i64 k ∧ wr.ownsRow w.heap.size 34 1 (.slice (some ⟨w.heap.size, 0, none⟩) (nWords n) (nWords n)) (nWords n) (wcells (fillTo (nWords n) (fun i => rule true true true (there a i) (there b i)) k)) ∧ Below w.heap.size w wr) (fun i _ => n.toNat - (intOf i).toNat)
  case atStart => exact ⟨0, Nat.zero_le _, rfl, HO.out, hbel⟩
  case round =>
    clear hbel HO hmk
    obtain ⟨k, hk, rfl, hown, hbel⟩ := hrel
    have HO := Lib.hid hown
    clear hown
    by_cases hlt : k < n.toNat
    · have hkw : k / 64 < nWords n := by unfold nWords; omega
      have hfl := fillTo_len (nWords n) (fun i => rule true true true (there a i) (there b i)) k
      have hff := Lib.hid (fillTo_fit (nWords n) (fun i => rule true true true (there a i) (there b i)) k)
      have hfs := Lib.hid (show fillTo (nWords n) (fun i => rule true true true (there a i) (there b i)) (k + 1) = if rule true true true (there a k) (there b k) then putBit (fillTo (nWords n) (fun i => rule true true true (there a i) (there b i)) k) k else fillTo (nWords n) (fun i => rule true true true (there a i) (there b i)) k from rfl)
      obtain ⟨cur, hcur⟩ : ∃ cur, cur = fillTo (nWords n) (fun i => rule true true true (there a i) (there b i)) k := ⟨_, rfl⟩
      rw [← hcur] at HO hff hfs hfl
      clear hcur
      have hkl : k / 64 < cur.length := by omega
      have hx : cur[k / 64] < 18446744073709551616 := hff.out _ (List.getElem_mem hkl)
      have hca : wr.cell? ⟨w.heap.size, k / 64, none⟩ = some (.int .u64 (cur[k / 64] : Int)) := by rw [HO.out.cellAt _ (by omega)]; exact wcells_at hkl
      have hfa : wr.frozen? ⟨w.heap.size, k / 64, none⟩ = false := HO.out.frozenAt _
      have hst := Lib.hid (HO.out.stored (k / 64) (.int .u64 ((cur[k / 64] ||| 2 ^ (k % 64) : Nat) : Int)))
      have hbits := Lib.hid (u64_or_nat cur[k / 64] (2 ^ (k % 64)) hx (Nat.lt_of_lt_of_le (Nat.pow_lt_pow_right (by decide) (Nat.mod_lt k (show 64 > 0 by decide))) (by decide)))
      have hpb := Lib.hid (show wcells (putBit cur k) = (wcells cur).set (k / 64) (.int .u64 ((cur[k / 64] ||| 2 ^ (k % 64) : Nat) : Int)) by unfold putBit wcells; rw [List.map_set]; simp [hkl])
      obtain ⟨x, hxx⟩ : ∃ x, x = cur[k / 64] := ⟨_, rfl⟩
      rw [← hxx] at hca hx hst hbits hpb
      clear hxx hfl
      cases hta : there a k <;> cases htb : there b k
      all_goals
        go_wp2_with ((go_at_call 70; first | ((with_reducible refine (ref03_There ba ca a k _ (HA.out.keep hbel) (by omega)).mono ?_); rintro e w1 ⟨rfl, rfl⟩) | ((with_reducible refine (ref03_There bb cb b k _ (HB.out.keep hbel) (by omega)).mono ?_); rintro e w1 ⟨rfl, rfl⟩)))
        try go_region
        all_goals go_wp2_with fail
        all_goals (try rw [shl_bit (k % 64) (Nat.mod_lt k (by decide))])
        all_goals (try rw [hbits.out])
        all_goals refine ⟨⟨k + 1, by omega, by rw [Int.natCast_add]; rfl, ?_, ?_⟩, by simp [intOf]; omega⟩
        all_goals first
          | exact hbel
          | exact (hbel.grown hst.out.2 hbel.size (fun k e => by cases e; exact Nat.le_refl _)).drew
          | (rw [hfs.out.trans (if_pos (by rw [hta, htb]; rfl)), hpb.out]; exact hst.out.1)
          | (rw [hfs.out.trans (if_neg (by rw [hta, htb]; decide))]; exact HO.out)
    · obtain rfl : k = n.toNat := by omega
      have hge : ¬ ((n.toNat : Int) < n) := by omega
      go_wp2_with fail
      go_returns
      exact ⟨_, rfl, by rw [fillTo_len]; exact HO.out, hbel⟩
set_option maxRecDepth 100000 in set_option maxHeartbeats 4000000 in
theorem ref03_joined_Less (n : Int) (ba bb : Option Addr) (ca cb : Nat) (a b : List Nat) (w : World) (ha : SetIn w ba a) (hb : SetIn w bb b) (hn : nMay n) :
    Calls Try.prog 42 #[.int .i64 n, .slice ba a.length ca, .slice bb b.length cb, .bool false, .bool true, .bool false] w (RU w (fillTo (nWords n) (fun i => rule false true false (there a i) (there b i)) n.toNat)) := by
  obtain ⟨i0, hi, iz0, iz1, iz2⟩ := info_parts infoU64
  have hp := nWords_pos hn
  have hn' := hn
  unfold nMay at hn'
  have hdiv : (n + 63) / 64 = (nWords n : Int) := by unfold nWords; omega
  have HA := Lib.hid ha
  have HB := Lib.hid hb
  clear ha hb hn
  obtain ⟨w1, hmk, hown, hgr⟩ := run_make_full (P := Try.prog) w w.heap.size 23 34 i0 (.int .u64 0) 1 Try.underlying23 hi iz0 iz1 .i64 .i64 (nWords n) (by rw [iz2]; omega) (by unfold maxLen; omega) (Nat.le_refl _)
  have hz : (madeCells (Value.int .u64 0).cells (nWords n * 1)).toList = wcells (fillTo (nWords n) (fun i => rule false true false (there a i) (there b i)) 0) := by
    rw [show (Value.int .u64 0).cells = #[Value.int .u64 0] from rfl, Nat.mul_one, toList_madeCells_one]; simp [fillTo, wcells]
  rw [hz] at hown
  have hbel : Below w.heap.size w w1 := (Below.refl _ _).grown hgr (Nat.le_refl _) (fun k e => by cases e)
  clear hz hgr
  have HO := Lib.hid hown
  clear hown
  go_enter Try.func42, Try.ntmps42
  go_wp2_with fail
  try rw [hdiv]
  clear hdiv
  go_loopw [14] (fun i wr => ∃ k : Nat, k ≤ n.toNat ∧ i = .int .i64 k ∧ wr.ownsRow w.heap.size 34 1 (.slice (some ⟨w.heap.size, 0, none⟩) (nWords n) (nWords n)) (nWords n) (wcells (fillTo (nWords n) (fun i => rule false true false (there a i) (there b i)) k)) ∧ Below w.heap.size w wr) (fun i _ => n.toNat - (intOf i).toNat)
  case atStart => exact ⟨0, Nat.zero_le _, rfl, HO.out, hbel⟩
  case round =>
    clear hbel HO hmk
    obtain ⟨k, hk, rfl, hown, hbel⟩ := hrel
    have HO := Lib.hid hown
    clear hown
    by_cases hlt : k < n.toNat
    · have hkw : k / 64 < nWords n := by unfold nWords; omega
      have hfl := fillTo_len (nWords n) (fun i => rule false true false (there a i) (there b i)) k
      have hff := Lib.hid (fillTo_fit (nWords n) (fun i => rule false true false (there a i) (there b i)) k)
      have hfs := Lib.hid (show fillTo (nWords n) (fun i => rule false true false (there a i) (there b i)) (k + 1) = if rule false true false (there a k) (there b k) then putBit (fillTo (nWords n) (fun i => rule false true false (there a i) (there b i)) k) k else fillTo (nWords n) (fun i => rule false true false (there a i) (there b i)) k from rfl)
      obtain ⟨cur, hcur⟩ : ∃ cur, cur = fillTo (nWords n) (fun i => rule false true false (there a i) (there b i)) k := ⟨_, rfl⟩
      rw [← hcur] at HO hff hfs hfl
      clear hcur
      have hkl : k / 64 < cur.length := by omega
      have hx : cur[k / 64] < 18446744073709551616 := hff.out _ (List.getElem_mem hkl)
      have hca : wr.cell? ⟨w.heap.size, k / 64, none⟩ = some (.int .u64 (cur[k / 64] : Int)) := by rw [HO.out.cellAt _ (by omega)]; exact wcells_at hkl
      have hfa : wr.frozen? ⟨w.heap.size, k / 64, none⟩ = false := HO.out.frozenAt _
      have hst := Lib.hid (HO.out.stored (k / 64) (.int .u64 ((cur[k / 64] ||| 2 ^ (k % 64) : Nat) : Int)))
      have hbits := Lib.hid (u64_or_nat cur[k / 64] (2 ^ (k % 64)) hx (Nat.lt_of_lt_of_le (Nat.pow_lt_pow_right (by decide) (Nat.mod_lt k (show 64 > 0 by decide))) (by decide)))
      have hpb := Lib.hid (show wcells (putBit cur k) = (wcells cur).set (k / 64) (.int .u64 ((cur[k / 64] ||| 2 ^ (k % 64) : Nat) : Int)) by unfold putBit wcells; rw [List.map_set]; simp [hkl])
      obtain ⟨x, hxx⟩ : ∃ x, x = cur[k / 64] := ⟨_, rfl⟩
      rw [← hxx] at hca hx hst hbits hpb
      clear hxx hfl
      cases hta : there a k <;> cases htb : there b k
      all_goals
        go_wp2_with ((go_at_call 70; first | ((with_reducible refine (ref03_There ba ca a k _ (HA.out.keep hbel) (by omega)).mono ?_); rintro e w1 ⟨rfl, rfl⟩) | ((with_reducible refine (ref03_There bb cb b k _ (HB.out.keep hbel) (by omega)).mono ?_); rintro e w1 ⟨rfl, rfl⟩)))
        try go_region
        all_goals go_wp2_with fail
        all_goals (try rw [shl_bit (k % 64) (Nat.mod_lt k (by decide))])
        all_goals (try rw [hbits.out])
        all_goals refine ⟨⟨k + 1, by omega, by rw [Int.natCast_add]; rfl, ?_, ?_⟩, by simp [intOf]; omega⟩
        all_goals first
          | exact hbel
          | exact (hbel.grown hst.out.2 hbel.size (fun k e => by cases e; exact Nat.le_refl _)).drew
          | (rw [hfs.out.trans (if_pos (by rw [hta, htb]; rfl)), hpb.out]; exact hst.out.1)
          | (rw [hfs.out.trans (if_neg (by rw [hta, htb]; decide))]; exact HO.out)
    · obtain rfl : k = n.toNat := by omega
      have hge : ¬ ((n.toNat : Int) < n) := by omega
      go_wp2_with fail
      go_returns
      exact ⟨_, rfl, by rw [fillTo_len]; exact HO.out, hbel⟩
end Go.Proofs.Ytilibdhcahdndaa
