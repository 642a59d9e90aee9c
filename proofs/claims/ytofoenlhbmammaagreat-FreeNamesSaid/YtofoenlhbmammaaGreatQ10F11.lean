/- REF 03: the set of numbers. -/
import Derived.Test.YtofoenlhbmammaaGreatQ6F11
import Derived.Test.YtofoenlhbmammaaGreatQ0SetTwoF11
set_option linter.unusedVariables false
set_option linter.unusedSimpArgs false
namespace Go.Proofs.YtofoenlhbmammaaGreat

section
open Go.RowKit Go.Shelf

def inR (n : Int) (l : List Int) : Bool := l.all (fun x => decide (0 ≤ x ∧ x < n))
def ofErr (n : Int) (l : List Int) : Int := if nMay n then if 65536 < l.length then 4 else if inR n l then 0 else 2 else 2
/-- The words of numbers. -/
def bitsOf (m : Nat) (l : List Int) : List Nat := l.foldl (fun ws x => putBit ws x.toNat) (List.replicate m 0)
def ofSet (n : Int) (l : List Int) : List Nat := if ofErr n l = 0 then bitsOf (nWords n) l else []

theorem bitsOf_snoc (m : Nat) (l : List Int) (x : Int) : bitsOf m (l ++ [x]) = putBit (bitsOf m l) x.toNat := by simp [bitsOf]
theorem bitsOf_take (m : Nat) (l : List Int) (k : Nat) (h : k < l.length) : bitsOf m (l.take (k + 1)) = putBit (bitsOf m (l.take k)) l[k].toNat := by
  rw [List.take_succ_eq_append_getElem h, bitsOf_snoc]
theorem foldl_inv {α β : Type} (p : β → Prop) (f : β → α → β) (hf : ∀ b a, p b → p (f b a)) : ∀ (l : List α) (b : β), p b → p (l.foldl f b)
  | [], _, h => h
  | a :: l, b, h => foldl_inv p f hf l _ (hf b a h)
theorem bitsOf_len (m : Nat) (l : List Int) : (bitsOf m l).length = m :=
  foldl_inv (fun (b : List Nat) => b.length = m) _ (fun b a h => by rw [putBit_len]; exact h) l _ (by simp)
theorem bitsOf_fit (m : Nat) (l : List Int) : W64 (bitsOf m l) :=
  foldl_inv W64 _ (fun b a h => putBit_fit h) l _ (fun x hx => by simp at hx; omega)
theorem inR_at {n : Int} {l : List Int} (h : inR n l = true) {x : Int} (hx : x ∈ l) : 0 ≤ x ∧ x < n := by
  have := List.all_eq_true.1 h x hx
  simpa using this
theorem inR_not {n : Int} {l : List Int} {x : Int} (hx : x ∈ l) (h : ¬ (0 ≤ x ∧ x < n)) : inR n l = false := by
  cases h2 : inR n l with
  | false => rfl
  | true => exact absurd (inR_at h2 hx) h
theorem all_takes {α : Type} {l : List α} {p : α → Bool} {k : Nat} (h : k < l.length) (h0 : (l.take k).all p = true) (h1 : p l[k] = true) : (l.take (k + 1)).all p = true := by
  rw [List.take_succ_eq_append_getElem h, List.all_append, h0]; simp [h1]

set_option maxRecDepth 100000 in set_option maxHeartbeats 4000000 in
theorem set_Of (n : Int) (bl : Option Addr) (cl : Nat) (l : List Int) (w : World) (hl : LIn w bl l) :
    Calls Tryz.prog 63 #[.int .i64 n, .slice bl l.length cl] w (RUE w (ofSet n l) (ofErr n l)) := by
  obtain ⟨i0, hi, iz0, iz1, iz2⟩ := info_parts infoU64
  have HL := Lib.hid hl
  have hll := hl.len
  clear hl
  by_cases hn : nMay n
  · have HW := Lib.hid (fun w => set_words_ok n w hn)
    have hp := nWords_pos hn
    have hn' := hn
    unfold nMay at hn'
    by_cases hlen : 65536 < l.length
    · have he : ofErr n l = 4 := by rw [ofErr, if_pos hn, if_pos hlen]
      have hq := Lib.hid he
      have hs := Lib.hid (show ofSet n l = [] by rw [ofSet, he]; rfl)
      clear he hn
      go_enter Tryz.func63, Tryz.ntmps63
      go_wp2_with ((with_reducible refine (HW.out _).mono ?_); rintro e w3 ⟨rfl, hw3⟩; have hw3 := hw3.symm; subst hw3)
      go_returns
      exact ⟨_, by rw [hq.out]; rfl, by rw [hs.out]; exact World.ownsRow_nil _ _ _ _, by (repeat (first | (with_reducible exact Below.refl _ _) | (with_reducible assumption) | (with_reducible refine below_alloc ?_ _) | (with_reducible refine below_drewN ?_ _) | (with_reducible refine Below.drew ?_) | (with_reducible refine below_then ?_ (by with_reducible assumption)) | (with_reducible refine Below.setCell ?_ (by go_size) _)))⟩
    · have he : ofErr n l = if inR n l then 0 else 2 := by rw [ofErr, if_pos hn, if_neg hlen]
      have hlen' : l.length ≤ 65536 := by omega
      have HE := Lib.hid he
      have hss := Lib.hid (show ofSet n l = if ofErr n l = 0 then bitsOf (nWords n) l else [] from rfl)
      clear he hn hlen
      obtain ⟨w1, hmk, hown, hgr⟩ := run_make_full (P := Tryz.prog) w w.heap.size 33 56 i0 (.int .u64 0) 1 Tryz.underlying33 hi iz0 iz1 .i64 .i64 (nWords n) (by rw [iz2]; omega) (by unfold maxLen; omega) (Nat.le_refl _)
      have hz : (madeCells (Value.int .u64 0).cells (nWords n * 1)).toList = wcells (bitsOf (nWords n) (l.take 0)) := by
        rw [show (Value.int .u64 0).cells = #[Value.int .u64 0] from rfl, Nat.mul_one, toList_madeCells_one]; simp [bitsOf, wcells]
      rw [hz] at hown
      have hbel : Below w.heap.size w w1 := (Below.refl _ _).grown hgr (Nat.le_refl _) (fun k e => by cases e)
      clear hz hgr
      have HO := Lib.hid hown
      clear hown
      go_enter Tryz.func63, Tryz.ntmps63
      go_wp2_with ((with_reducible refine (HW.out _).mono ?_); rintro e w3 ⟨rfl, hw3⟩; have hw3 := hw3.symm; subst hw3)
      go_loopw [23] (fun i wr => ∃ k : Nat, k ≤ l.length ∧ i = .int .i64 k ∧ inR n (l.take k) = true ∧ wr.ownsRow w.heap.size 56 1 (.slice (some ⟨w.heap.size, 0, none⟩) (nWords n) (nWords n)) (nWords n) (wcells (bitsOf (nWords n) (l.take k))) ∧ Below w.heap.size w wr) (fun i _ => l.length - (intOf i).toNat)
      case atStart => exact ⟨0, Nat.zero_le _, rfl, by simp [inR], HO.out, hbel⟩
      case round =>
        clear hbel HO hmk HW
        obtain ⟨k, hk, rfl, hin, hown, hbel⟩ := hrel
        have HO := Lib.hid hown
        have HI := Lib.hid hin
        clear hown hin
        by_cases hlt : k < l.length
        · obtain ⟨bL, off, rfl, hcl⟩ := (HL.out.keep hbel).rd k _ (getElem?_map_int hlt)
          have hmem := Lib.hid (List.getElem_mem hlt)
          by_cases hx : 0 ≤ l[k] ∧ l[k] < n
          · have hfl := bitsOf_len (nWords n) (l.take k)
            have hff := Lib.hid (bitsOf_fit (nWords n) (l.take k))
            have hfs := Lib.hid (bitsOf_take (nWords n) l k hlt)
            have hi1 := Lib.hid (show inR n (l.take (k + 1)) = true from all_takes hlt HI.out (by simpa using hx))
            obtain ⟨y, hy⟩ : ∃ y : Nat, l[k] = (y : Int) := ⟨l[k].toNat, by omega⟩
            rw [hy] at hcl hfs hx
            rw [Int.toNat_natCast] at hfs
            clear hy hmem
            have hyn : (y : Int) < n := hx.2
            clear hx
            obtain ⟨cur, hcur⟩ : ∃ cur, cur = bitsOf (nWords n) (l.take k) := ⟨_, rfl⟩
            rw [← hcur] at HO hff hfs hfl
            clear hcur
            have hyw : y / 64 < nWords n := by unfold nWords; omega
            have hkl : y / 64 < cur.length := by omega
            have hx : cur[y / 64] < 18446744073709551616 := hff.out _ (List.getElem_mem hkl)
            have hca : wr.cell? ⟨w.heap.size, y / 64, none⟩ = some (.int .u64 (cur[y / 64] : Int)) := by rw [HO.out.cellAt _ (by omega)]; exact wcells_at hkl
            have hfa : wr.frozen? ⟨w.heap.size, y / 64, none⟩ = false := HO.out.frozenAt _
            have hst := Lib.hid (HO.out.stored (y / 64) (.int .u64 ((cur[y / 64] ||| 2 ^ (y % 64) : Nat) : Int)))
            have hbits := Lib.hid (u64_or_nat cur[y / 64] (2 ^ (y % 64)) hx (Nat.lt_of_lt_of_le (Nat.pow_lt_pow_right (by decide) (Nat.mod_lt y (show 64 > 0 by decide))) (by decide)))
            have hpb := Lib.hid (show wcells (putBit cur y) = (wcells cur).set (y / 64) (.int .u64 ((cur[y / 64] ||| 2 ^ (y % 64) : Nat) : Int)) by unfold putBit wcells; rw [List.map_set]; simp [hkl])
            obtain ⟨x, hxx⟩ : ∃ x, x = cur[y / 64] := ⟨_, rfl⟩
            rw [← hxx] at hca hx hst hbits hpb
            clear hxx hfl
            go_wp2_with fail
            go_region
            all_goals go_wp2_with fail
            all_goals (try rw [shl_bit (y % 64) (Nat.mod_lt y (by decide))])
            all_goals (try rw [hbits.out])
            all_goals refine ⟨⟨k + 1, by omega, by rw [Int.natCast_add]; rfl, hi1.out, ?_, ?_⟩, by simp [intOf]; omega⟩
            all_goals first
              | exact (hbel.grown hst.out.2 hbel.size (fun k e => by cases e; exact Nat.le_refl _)).drew
              | (rw [hfs.out, hpb.out]; exact hst.out.1)
          · have hR := inR_not hmem.out hx
            have hq := Lib.hid (show ofErr n l = 2 by rw [HE.out, hR]; rfl)
            have hs := Lib.hid (show ofSet n l = [] by rw [hss.out, hq.out]; rfl)
            obtain ⟨y, hy⟩ : ∃ y : Int, y = l[k] := ⟨_, rfl⟩
            rw [← hy] at hcl hx
            clear hy hmem hR
            by_cases h0 : y < 0
            · go_wp2_with fail
              go_returns
              exact ⟨_, by rw [hq.out]; rfl, by rw [hs.out]; exact World.ownsRow_nil _ _ _ _, by (repeat (first | (with_reducible exact Below.refl _ _) | (with_reducible assumption) | (with_reducible refine below_alloc ?_ _) | (with_reducible refine below_drewN ?_ _) | (with_reducible refine Below.drew ?_) | (with_reducible refine below_then ?_ (by with_reducible assumption)) | (with_reducible refine Below.setCell ?_ (by go_size) _)))⟩
            · have h1 : n ≤ y := by omega
              go_wp2_with fail
              go_returns
              exact ⟨_, by rw [hq.out]; rfl, by rw [hs.out]; exact World.ownsRow_nil _ _ _ _, by (repeat (first | (with_reducible exact Below.refl _ _) | (with_reducible assumption) | (with_reducible refine below_alloc ?_ _) | (with_reducible refine below_drewN ?_ _) | (with_reducible refine Below.drew ?_) | (with_reducible refine below_then ?_ (by with_reducible assumption)) | (with_reducible refine Below.setCell ?_ (by go_size) _)))⟩
        · obtain rfl : k = l.length := by omega
          have hR := HI.out
          rw [List.take_length] at hR
          have hq := Lib.hid (show ofErr n l = 0 by rw [HE.out, hR]; rfl)
          have hs := Lib.hid (show ofSet n l = bitsOf (nWords n) l by rw [hss.out, hq.out]; rfl)
          rw [List.take_length] at HO
          clear hR
          go_wp2_with fail
          go_returns
          exact ⟨_, by rw [hq.out]; rfl, by rw [hs.out, bitsOf_len]; exact HO.out, hbel⟩
  · have HW := Lib.hid (fun w => set_words_no n w hn)
    have he : ofErr n l = 2 := by rw [ofErr, if_neg hn]
    have hq := Lib.hid he
    have hs := Lib.hid (show ofSet n l = [] by rw [ofSet, he]; rfl)
    clear he hn
    go_enter Tryz.func63, Tryz.ntmps63
    go_wp2_with ((with_reducible refine (HW.out _).mono ?_); rintro e w3 ⟨rfl, hw3⟩; have hw3 := hw3.symm; subst hw3)
    go_returns
    exact ⟨_, by rw [hq.out]; rfl, by rw [hs.out]; exact World.ownsRow_nil _ _ _ _, by (repeat (first | (with_reducible exact Below.refl _ _) | (with_reducible assumption) | (with_reducible refine below_alloc ?_ _) | (with_reducible refine below_drewN ?_ _) | (with_reducible refine Below.drew ?_) | (with_reducible refine below_then ?_ (by with_reducible assumption)) | (with_reducible refine Below.setCell ?_ (by go_size) _)))⟩
end

section
open Go.RowKit Go.Shelf

theorem or_pow_add {x j : Nat} (h : x.testBit j = false) : x ||| 2 ^ j = x + 2 ^ j := by
  have e : x = 2 ^ (j + 1) * (x / 2 ^ (j + 1)) + x % 2 ^ (j + 1) := (Nat.div_add_mod x (2 ^ (j + 1))).symm
  have hr : x % 2 ^ (j + 1) < 2 ^ j := by
    have h1 : x % 2 ^ (j + 1) < 2 ^ (j + 1) := Nat.mod_lt _ (Nat.two_pow_pos _)
    have h2 : (x % 2 ^ (j + 1)).testBit j = false := by rw [Nat.testBit_mod_two_pow, h]; simp
    rcases Nat.lt_or_ge (x % 2 ^ (j + 1)) (2 ^ j) with h3 | h3
    · exact h3
    · exfalso
      have h4 : x % 2 ^ (j + 1) = 2 ^ j * 1 + (x % 2 ^ (j + 1) - 2 ^ j) := by omega
      have h5 : x % 2 ^ (j + 1) - 2 ^ j < 2 ^ j := by rw [Nat.pow_succ] at h1; omega
      rw [h4, Nat.testBit_two_pow_mul_add _ h5, if_neg (by omega)] at h2
      simp at h2
  obtain ⟨a, ha⟩ : ∃ a, a = x / 2 ^ (j + 1) := ⟨_, rfl⟩
  obtain ⟨r, hrr⟩ : ∃ r, r = x % 2 ^ (j + 1) := ⟨_, rfl⟩
  rw [← ha, ← hrr] at e
  rw [← hrr] at hr
  have hs : r + 2 ^ j < 2 ^ (j + 1) := by rw [Nat.pow_succ]; omega
  have hr2 : r < 2 ^ (j + 1) := by rw [Nat.pow_succ]; omega
  rw [e]
  apply Nat.eq_of_testBit_eq
  intro i
  rw [Nat.testBit_or, Nat.testBit_two_pow_mul_add _ hr2, show 2 ^ (j + 1) * a + r + 2 ^ j = 2 ^ (j + 1) * a + (r + 2 ^ j) by omega, Nat.testBit_two_pow_mul_add _ hs, Nat.testBit_two_pow]
  by_cases hi : i < j + 1
  · rw [if_pos hi, if_pos hi, show r + 2 ^ j = 2 ^ j * 1 + r by omega, Nat.testBit_two_pow_mul_add _ hr]
    by_cases hij : i < j
    · rw [if_pos hij]; simp [show ¬ j = i by omega]
    · obtain rfl : i = j := by omega
      rw [if_neg (by omega)]; simp
  · rw [if_neg hi, if_neg hi]; simp [show ¬ j = i by omega]

theorem putBit_same {ws : List Nat} {y : Nat} (h : there ws y = true) (hk : y / 64 < ws.length) : putBit ws y = ws := by
  rw [there_in hk, bitOf_test] at h
  have e : ws[y / 64] ||| 2 ^ (y % 64) = ws[y / 64] := by
    apply Nat.eq_of_testBit_eq
    intro i
    rw [Nat.testBit_or, Nat.testBit_two_pow]
    by_cases hi : y % 64 = i
    · subst hi; rw [h]; simp
    · simp [hi]
  unfold putBit
  simp only [List.getD_eq_getElem?_getD, List.getElem?_eq_getElem hk, Option.getD_some, e]
  exact List.set_getElem_self _
theorem bit_add {ws : List Nat} {y : Nat} (h : there ws y = false) (hk : y / 64 < ws.length) : ws[y / 64] ||| 2 ^ (y % 64) = ws[y / 64] + 2 ^ (y % 64) := by
  rw [there_in hk, bitOf_test] at h
  exact or_pow_add h

set_option maxRecDepth 100000 in set_option maxHeartbeats 4000000 in
theorem ref03_From (n : Int) (bl : Option Addr) (cl : Nat) (l : List Int) (w : World) (hl : LIn w bl l) (hn : nMay n) (hlen : l.length ≤ 65536) (hin : inR n l = true) :
    Calls Tryz.prog 59 #[.int .i64 n, .slice bl l.length cl] w (RU w (bitsOf (nWords n) l)) := by
  obtain ⟨i0, hi, iz0, iz1, iz2⟩ := info_parts infoU64
  have hp := nWords_pos hn
  have hn' := hn
  unfold nMay at hn'
  have hdiv : (n + 63) / 64 = (nWords n : Int) := by unfold nWords; omega
  have HL := Lib.hid hl
  have HI := Lib.hid hin
  clear hl hn hin
  obtain ⟨w1, hmk, hown, hgr⟩ := run_make_full (P := Tryz.prog) w w.heap.size 33 56 i0 (.int .u64 0) 1 Tryz.underlying33 hi iz0 iz1 .i64 .i64 (nWords n) (by rw [iz2]; omega) (by unfold maxLen; omega) (Nat.le_refl _)
  have hz : (madeCells (Value.int .u64 0).cells (nWords n * 1)).toList = wcells (bitsOf (nWords n) (l.take 0)) := by
    rw [show (Value.int .u64 0).cells = #[Value.int .u64 0] from rfl, Nat.mul_one, toList_madeCells_one]; simp [bitsOf, wcells]
  rw [hz] at hown
  have hbel : Below w.heap.size w w1 := (Below.refl _ _).grown hgr (Nat.le_refl _) (fun k e => by cases e)
  clear hz hgr
  have HO := Lib.hid hown
  clear hown
  go_enter Tryz.func59, Tryz.ntmps59
  go_wp2_with fail
  try rw [hdiv]
  clear hdiv
  go_loopw [6] (fun i wr => ∃ k : Nat, k ≤ l.length ∧ i = .int .i64 k ∧ wr.ownsRow w.heap.size 56 1 (.slice (some ⟨w.heap.size, 0, none⟩) (nWords n) (nWords n)) (nWords n) (wcells (bitsOf (nWords n) (l.take k))) ∧ Below w.heap.size w wr) (fun i _ => l.length - (intOf i).toNat)
  case atStart => exact ⟨0, Nat.zero_le _, rfl, HO.out, hbel⟩
  case round =>
    clear hbel HO hmk
    obtain ⟨k, hk, rfl, hown, hbel⟩ := hrel
    have HO := Lib.hid hown
    clear hown
    by_cases hlt : k < l.length
    · obtain ⟨bL, off, rfl, hcl⟩ := (HL.out.keep hbel).rd k _ (getElem?_map_int hlt)
      have hx := inR_at HI.out (List.getElem_mem hlt)
      have hfl := bitsOf_len (nWords n) (l.take k)
      have hff := Lib.hid (bitsOf_fit (nWords n) (l.take k))
      have hfs := Lib.hid (bitsOf_take (nWords n) l k hlt)
      obtain ⟨y, hy⟩ : ∃ y : Nat, l[k] = (y : Int) := ⟨l[k].toNat, by omega⟩
      rw [hy] at hcl hfs hx
      rw [Int.toNat_natCast] at hfs
      clear hy
      have hyn : (y : Int) < n := hx.2
      clear hx
      obtain ⟨cur, hcur⟩ : ∃ cur, cur = bitsOf (nWords n) (l.take k) := ⟨_, rfl⟩
      rw [← hcur] at HO hff hfs hfl
      clear hcur
      have hyw : y / 64 < nWords n := by unfold nWords; omega
      have hkl : y / 64 < cur.length := by omega
      have hx : cur[y / 64] < 18446744073709551616 := hff.out _ (List.getElem_mem hkl)
      have hsi : SetIn wr (some ⟨w.heap.size, 0, none⟩) cur := by
        obtain ⟨_, _, hv, hrd, _⟩ := own_rd HO.out
        cases hv
        exact ⟨hrd, by omega, hff.out⟩
      have HSI := Lib.hid hsi
      clear hsi
      have hcl2 : cur.length = nWords n := hfl
      cases ht : there cur y with
      | true =>
        have hps := Lib.hid (hfs.out.trans (putBit_same ht hkl))
        have HT := Lib.hid (fun w' (h : Below wr.heap.size wr w') => ref03_There (some ⟨w.heap.size, 0, none⟩) (nWords n) cur y w' (HSI.out.keep h) (by omega))
        rw [ht, hcl2] at HT
        go_wp2_with ((with_reducible refine (HT.out _ (by (repeat (first | (with_reducible exact Below.refl _ _) | (with_reducible assumption) | (with_reducible refine below_alloc ?_ _) | (with_reducible refine below_drewN ?_ _) | (with_reducible refine Below.drew ?_) | (with_reducible refine below_then ?_ (by with_reducible assumption)) | (with_reducible refine Below.setCell ?_ (by go_size) _))))).mono ?_); rintro e w3 ⟨rfl, hw3⟩; have hw3 := hw3.symm; subst hw3)
        all_goals
          go_roundw
          case rel => exact ⟨k + 1, by omega, by go_num, by rw [hps.out]; exact HO.out, by (repeat (first | (with_reducible exact Below.refl _ _) | (with_reducible assumption) | (with_reducible refine below_alloc ?_ _) | (with_reducible refine below_drewN ?_ _) | (with_reducible refine Below.drew ?_) | (with_reducible refine below_then ?_ (by with_reducible assumption)) | (with_reducible refine Below.setCell ?_ (by go_size) _)))⟩
          case measure => simp [intOf]; omega
      | false =>
        have hba := bit_add ht hkl
        have hca : wr.cell? ⟨w.heap.size, y / 64, none⟩ = some (.int .u64 (cur[y / 64] : Int)) := by rw [HO.out.cellAt _ (by omega)]; exact wcells_at hkl
        have hfa : wr.frozen? ⟨w.heap.size, y / 64, none⟩ = false := HO.out.frozenAt _
        have hlt64 : cur[y / 64] ||| 2 ^ (y % 64) < 18446744073709551616 := Nat.or_lt_two_pow hx (Nat.pow_lt_pow_right (by decide) (Nat.mod_lt y (by decide)))
        have hst := Lib.hid (HO.out.stored (y / 64) (.int .u64 ((cur[y / 64] ||| 2 ^ (y % 64) : Nat) : Int)))
        have hpb := Lib.hid (show wcells (putBit cur y) = (wcells cur).set (y / 64) (.int .u64 ((cur[y / 64] ||| 2 ^ (y % 64) : Nat) : Int)) by unfold putBit wcells; rw [List.map_set]; simp [hkl])
        have HT := Lib.hid (fun w' (h : Below wr.heap.size wr w') => ref03_There (some ⟨w.heap.size, 0, none⟩) (nWords n) cur y w' (HSI.out.keep h) (by omega))
        rw [ht, hcl2] at HT
        obtain ⟨x, hxx⟩ : ∃ x, x = cur[y / 64] := ⟨_, rfl⟩
        rw [← hxx] at hca hx hst hpb hba hlt64
        have hsum := Lib.hid (show IntKind.u64.wrap ((x : Int) + ((2 ^ (y % 64) : Nat) : Int)) = ((x ||| 2 ^ (y % 64) : Nat) : Int) by
          rw [IntKind.wrap_u64, hba]; rw [hba] at hlt64; omega)
        clear hxx hba hlt64
        go_wp2_with ((with_reducible refine (HT.out _ (by (repeat (first | (with_reducible exact Below.refl _ _) | (with_reducible assumption) | (with_reducible refine below_alloc ?_ _) | (with_reducible refine below_drewN ?_ _) | (with_reducible refine Below.drew ?_) | (with_reducible refine below_then ?_ (by with_reducible assumption)) | (with_reducible refine Below.setCell ?_ (by go_size) _))))).mono ?_); rintro e w3 ⟨rfl, hw3⟩; have hw3 := hw3.symm; subst hw3)
        try go_region
        all_goals go_wp2_with fail
        all_goals (try rw [shl_bit (y % 64) (Nat.mod_lt y (by decide))])
        all_goals (try rw [hsum.out])
        all_goals refine ⟨⟨k + 1, by omega, by rw [Int.natCast_add]; rfl, ?_, ?_⟩, by simp [intOf]; omega⟩
        all_goals first
          | exact (hbel.grown hst.out.2 hbel.size (fun k e => by cases e; exact Nat.le_refl _)).drew
          | (rw [hfs.out, hpb.out]; exact hst.out.1)
    · obtain rfl : k = l.length := by omega
      rw [List.take_length] at HO
      go_wp2_with fail
      go_returns
      exact ⟨_, rfl, by rw [bitsOf_len]; exact HO.out, hbel⟩
end
end Go.Proofs.YtofoenlhbmammaaGreat
