/- SET: the set of numbers. -/
import Derived.Test.YtofoenlhbmammaaQ0ListsIG13
import Derived.Test.YtofoenlhbmammaaQ0SetTwoG13
set_option linter.unusedVariables false
set_option linter.unusedSimpArgs false
namespace Go.Proofs.Ytofoenlhbmammaa

section
open Go.RowKit Go.Shelf

def inR (n : Int) (l : List Int) : Bool := l.all (fun x => decide (0 ≤ x ∧ x < n))
def ofErr (n : Int) (l : List Int) : Int := if nMay n then if 65536 < l.length then 4 else if inR n l then 0 else 2 else 2
/-- The words of numbers. -/
def bitsOf (m : Nat) (l : List Int) : List Nat := l.foldl (fun ws x => putBit ws x.toNat) (List.replicate m 0)
def ofSet (n : Int) (l : List Int) : List Nat := if ofErr n l = 0 then bitsOf (nWords n) l else []

theorem bitsOf_snoc (m : Nat) (l : List Int) (x : Int) : bitsOf m (l ++ [x]) = putBit (bitsOf m l) x.toNat := by simp [bitsOf]
theorem bitsOf_take (m : Nat) (l : List Int) (k : Nat) (h : k < l.length) : bitsOf m (l.take (k + 1)) = putBit (bitsOf m (l.take k)) l[k].toNat := by
  rw [List.take_succ_eq_append_getElem h, bitsOf_snoc]
theorem foldl_inv {α β : Type} (p : β → Prop) (f : β → α → β) (hf : ∀ b a, p b → p (f b a)) : ∀ (l : List α) (b : β), p b → p (l.foldl f b)
  | [], _, h => h
  | a :: l, b, h => foldl_inv p f hf l _ (hf b a h)
theorem bitsOf_len (m : Nat) (l : List Int) : (bitsOf m l).length = m :=
  foldl_inv (fun (b : List Nat) => b.length = m) _ (fun b a h => by rw [putBit_len]; exact h) l _ (by simp)
theorem bitsOf_fit (m : Nat) (l : List Int) : W64 (bitsOf m l) :=
  foldl_inv W64 _ (fun b a h => putBit_fit h) l _ (fun x hx => by simp at hx; omega)
theorem inR_at {n : Int} {l : List Int} (h : inR n l = true) {x : Int} (hx : x ∈ l) : 0 ≤ x ∧ x < n := by
  have := List.all_eq_true.1 h x hx
  simpa using this
theorem inR_not {n : Int} {l : List Int} {x : Int} (hx : x ∈ l) (h : ¬ (0 ≤ x ∧ x < n)) : inR n l = false := by
  cases h2 : inR n l with
  | false => rfl
  | true => exact absurd (inR_at h2 hx) h
theorem all_takes {α : Type} {l : List α} {p : α → Bool} {k : Nat} (h : k < l.length) (h0 : (l.take k).all p = true) (h1 : p l[k] = true) : (l.take (k + 1)).all p = true := by
  rw [List.take_succ_eq_append_getElem h, List.all_append, h0]; simp [h1]

set_option maxRecDepth 100000 in set_option maxHeartbeats 4000000 in
theorem set_Of (n : Int) (bl : Option Addr) (cl : Nat) (l : List Int) (w : World) (hl : LIn w bl l) :
    Calls Try.prog 26 #[.int .i64 n, .slice bl l.length cl] w (RUE w (ofSet n l) (ofErr n l)) := by
  obtain ⟨i0, hi, iz0, iz1, iz2⟩ := info_parts infoU64
  have HL := Lib.hid hl
  have hll := hl.len
  clear hl
  by_cases hn : nMay n
  · have HW := Lib.hid (fun w => set_words_ok n w hn)
    have hp := nWords_pos hn
    have hn' := hn
    unfold nMay at hn'
    by_cases hlen : 65536 < l.length
    · have he : ofErr n l = 4 := by rw [ofErr, if_pos hn, if_pos hlen]
      have hq := Lib.hid he
      have hs := Lib.hid (show ofSet n l = [] by rw [ofSet, he]; rfl)
      clear he hn
      go_enter Try.func26, Try.ntmps26
      go_wp2_with ((with_reducible refine (HW.out _).mono ?_); rintro e w3 ⟨rfl, hw3⟩; have hw3 := hw3.symm; subst hw3)
      go_returns
      exact ⟨_, by rw [hq.out]; rfl, by rw [hs.out]; exact World.ownsRow_nil _ _ _ _, by (repeat (first | (with_reducible exact Below.refl _ _) | (with_reducible assumption) | (with_reducible refine below_alloc ?_ _) | (with_reducible refine below_drewN ?_ _) | (with_reducible refine Below.drew ?_) | (with_reducible refine below_then ?_ (by with_reducible assumption)) | (with_reducible refine Below.setCell ?_ (by go_size) _)))⟩
    · have he : ofErr n l = if inR n l then 0 else 2 := by rw [ofErr, if_pos hn, if_neg hlen]
      have hlen' : l.length ≤ 65536 := by omega
      have HE := Lib.hid he
      have hss := Lib.hid (show ofSet n l = if ofErr n l = 0 then bitsOf (nWords n) l else [] from rfl)
      clear he hn hlen
      obtain ⟨w1, hmk, hown, hgr⟩ := run_make_full (P := Try.prog) w w.heap.size 25 48 i0 (.int .u64 0) 1 Try.underlying25 hi iz0 iz1 .i64 .i64 (nWords n) (by rw [iz2]; omega) (by unfold maxLen; omega) (Nat.le_refl _)
      have hz : (madeCells (Value.int .u64 0).cells (nWords n * 1)).toList = wcells (bitsOf (nWords n) (l.take 0)) := by
        rw [show (Value.int .u64 0).cells = #[Value.int .u64 0] from rfl, Nat.mul_one, toList_madeCells_one]; simp [bitsOf, wcells]
      rw [hz] at hown
      have hbel : Below w.heap.size w w1 := (Below.refl _ _).grown hgr (Nat.le_refl _) (fun k e => by cases e)
      clear hz hgr
      have HO := Lib.hid hown
      clear hown
      go_enter Try.func26, Try.ntmps26
      go_wp2_with ((with_reducible refine (HW.out _).mono ?_); rintro e w3 ⟨rfl, hw3⟩; have hw3 := hw3.symm; subst hw3)
      go_loopw [23] (fun i wr => ∃ k : Nat, k ≤ l.length ∧ i = .int .i64 k ∧ inR n (l.take k) = true ∧ wr.ownsRow w.heap.size 48 1 (.slice (some ⟨w.heap.size, 0, none⟩) (nWords n) (nWords n)) (nWords n) (wcells (bitsOf (nWords n) (l.take k))) ∧ Below w.heap.size w wr) (fun i _ => l.length - (intOf i).toNat)
      case atStart => exact ⟨0, Nat.zero_le _, rfl, by simp [inR], HO.out, hbel⟩
      case round =>
        clear hbel HO hmk HW
        obtain ⟨k, hk, rfl, hin, hown, hbel⟩ := hrel
        have HO := Lib.hid hown
        have HI := Lib.hid hin
        clear hown hin
        by_cases hlt : k < l.length
        · obtain ⟨bL, off, rfl, hcl⟩ := (HL.out.keep hbel).rd k _ (getElem?_map_int hlt)
          have hmem := Lib.hid (List.getElem_mem hlt)
          by_cases hx : 0 ≤ l[k] ∧ l[k] < n
          · have hfl := bitsOf_len (nWords n) (l.take k)
            have hff := Lib.hid (bitsOf_fit (nWords n) (l.take k))
            have hfs := Lib.hid (bitsOf_take (nWords n) l k hlt)
            have hi1 := Lib.hid (show inR n (l.take (k + 1)) = true from all_takes hlt HI.out (by simpa using hx))
            obtain ⟨y, hy⟩ : ∃ y : Nat, l[k] = (y : Int) := ⟨l[k].toNat, by omega⟩
            rw [hy] at hcl hfs hx
            rw [Int.toNat_natCast] at hfs
            clear hy hmem
            have hyn : (y : Int) < n := hx.2
            clear hx
            obtain ⟨cur, hcur⟩ : ∃ cur, cur = bitsOf (nWords n) (l.take k) := ⟨_, rfl⟩
            rw [← hcur] at HO hff hfs hfl
            clear hcur
            have hyw : y / 64 < nWords n := by unfold nWords; omega
            have hkl : y / 64 < cur.length := by omega
            have hx : cur[y / 64] < 18446744073709551616 := hff.out _ (List.getElem_mem hkl)
            have hca : wr.cell? ⟨w.heap.size, y / 64, none⟩ = some (.int .u64 (cur[y / 64] : Int)) := by rw [HO.out.cellAt _ (by omega)]; exact wcells_at hkl
            have hfa : wr.frozen? ⟨w.heap.size, y / 64, none⟩ = false := HO.out.frozenAt _
            have hst := Lib.hid (HO.out.stored (y / 64) (.int .u64 ((cur[y / 64] ||| 2 ^ (y % 64) : Nat) : Int)))
            have hbits := Lib.hid (u64_or_nat cur[y / 64] (2 ^ (y % 64)) hx (Nat.lt_of_lt_of_le (Nat.pow_lt_pow_right (by decide) (Nat.mod_lt y (show 64 > 0 by decide))) (by decide)))
            have hpb := Lib.hid (show wcells (putBit cur y) = (wcells cur).set (y / 64) (.int .u64 ((cur[y / 64] ||| 2 ^ (y % 64) : Nat) : Int)) by unfold putBit wcells; rw [List.map_set]; simp [hkl])
            obtain ⟨x, hxx⟩ : ∃ x, x = cur[y / 64] := ⟨_, rfl⟩
            rw [← hxx] at hca hx hst hbits hpb
            clear hxx hfl
            go_wp2_with fail
            go_region
            all_goals go_wp2_with fail
            all_goals (try rw [shl_bit (y % 64) (Nat.mod_lt y (by decide))])
            all_goals (try rw [hbits.out])
            all_goals refine ⟨⟨k + 1, by omega, by rw [Int.natCast_add]; rfl, hi1.out, ?_, ?_⟩, by simp [intOf]; omega⟩
            all_goals first
              | exact (hbel.grown hst.out.2 hbel.size (fun k e => by cases e; exact Nat.le_refl _)).drew
              | (rw [hfs.out, hpb.out]; exact hst.out.1)
          · have hR := inR_not hmem.out hx
            have hq := Lib.hid (show ofErr n l = 2 by rw [HE.out, hR]; rfl)
            have hs := Lib.hid (show ofSet n l = [] by rw [hss.out, hq.out]; rfl)
            obtain ⟨y, hy⟩ : ∃ y : Int, y = l[k] := ⟨_, rfl⟩
            rw [← hy] at hcl hx
            clear hy hmem hR
            by_cases h0 : y < 0
            · go_wp2_with fail
              go_returns
              exact ⟨_, by rw [hq.out]; rfl, by rw [hs.out]; exact World.ownsRow_nil _ _ _ _, by (repeat (first | (with_reducible exact Below.refl _ _) | (with_reducible assumption) | (with_reducible refine below_alloc ?_ _) | (with_reducible refine below_drewN ?_ _) | (with_reducible refine Below.drew ?_) | (with_reducible refine below_then ?_ (by with_reducible assumption)) | (with_reducible refine Below.setCell ?_ (by go_size) _)))⟩
            · have h1 : n ≤ y := by omega
              go_wp2_with fail
              go_returns
              exact ⟨_, by rw [hq.out]; rfl, by rw [hs.out]; exact World.ownsRow_nil _ _ _ _, by (repeat (first | (with_reducible exact Below.refl _ _) | (with_reducible assumption) | (with_reducible refine below_alloc ?_ _) | (with_reducible refine below_drewN ?_ _) | (with_reducible refine Below.drew ?_) | (with_reducible refine below_then ?_ (by with_reducible assumption)) | (with_reducible refine Below.setCell ?_ (by go_size) _)))⟩
        · obtain rfl : k = l.length := by omega
          have hR := HI.out
          rw [List.take_length] at hR
          have hq := Lib.hid (show ofErr n l = 0 by rw [HE.out, hR]; rfl)
          have hs := Lib.hid (show ofSet n l = bitsOf (nWords n) l by rw [hss.out, hq.out]; rfl)
          rw [List.take_length] at HO
          clear hR
          go_wp2_with fail
          go_returns
          exact ⟨_, by rw [hq.out]; rfl, by rw [hs.out, bitsOf_len]; exact HO.out, hbel⟩
  · have HW := Lib.hid (fun w => set_words_no n w hn)
    have he : ofErr n l = 2 := by rw [ofErr, if_neg hn]
    have hq := Lib.hid he
    have hs := Lib.hid (show ofSet n l = [] by rw [ofSet, he]; rfl)
    clear he hn
    go_enter Try.func26, Try.ntmps26
    go_wp2_with ((with_reducible refine (HW.out _).mono ?_); rintro e w3 ⟨rfl, hw3⟩; have hw3 := hw3.symm; subst hw3)
    go_returns
    exact ⟨_, by rw [hq.out]; rfl, by rw [hs.out]; exact World.ownsRow_nil _ _ _ _, by (repeat (first | (with_reducible exact Below.refl _ _) | (with_reducible assumption) | (with_reducible refine below_alloc ?_ _) | (with_reducible refine below_drewN ?_ _) | (with_reducible refine Below.drew ?_) | (with_reducible refine below_then ?_ (by with_reducible assumption)) | (with_reducible refine Below.setCell ?_ (by go_size) _)))⟩
end
end Go.Proofs.Ytofoenlhbmammaa
