/- SET: its numbers, by the table of math/bits. -/
import Derived.Test.YthabpiphfaedaaaDoorProg
import Derived.Below
import Derived.Shelf.Spec.TrailingZeros
import Derived.ScopeJumps
import Derived.WalkMore
import Derived.Test.YthabpiphfaedaaaDoorQ0SetNums
import Derived.Test.YthabpiphfaedaaaDoorShelfTz
namespace Go.Proofs.YthabpiphfaedaaaDoor

section
section
open Go.RowKit Go.Shelf

theorem tz64 (x : Nat) (hx : x < 18446744073709551616) (w : World) (hT : TabAt 0 Lib.deBruijn64tab w) :
    Calls Tryd.prog 50 #[.int .u64 x] w fun e w' => e = .returned (.int .i64 (Lib.ctz 64 x)) ∧ w' = w :=
  Any7.bits_TrailingZeros64 Tryd.laysTz x hx w (fun _ => hT)

theorem tab_keep {g : Nat} {tab : List Nat} {w W : World} (h : TabAt g tab w) (hg : g < w.heap.size) (hb : Below w.heap.size w W) : TabAt g tab W :=
  fun j hj => (hb.cell (p := ⟨g, j, none⟩) hg).trans (h j hj)
end

section
open Go.RowKit Go.Shelf

theorem numsTo_skip {ws : List Nat} {a : Nat} : ∀ {b : Nat}, a ≤ b → (∀ j, a ≤ j → j < b → there ws j = false) → numsTo ws b = numsTo ws a := by
  intro b
  induction b with
  | zero => intro h _; obtain rfl : a = 0 := by omega
            rfl
  | succ b ih =>
    intro h hj
    by_cases e : a = b + 1
    · rw [e]
    · rw [numsTo_succ, if_neg (by rw [hj b (by omega) (by omega)]; decide)]
      exact ih (by omega) (fun j h1 h2 => hj j h1 (by omega))

theorem low_bit {x : Nat} (h0 : x ≠ 0) (hx : x < 18446744073709551616) : ∃ t, Lib.ctz 64 x = t ∧ t < 64 ∧ x.testBit t = true ∧ (∀ j, j < t → x.testBit j = false) ∧ (∀ j, (x &&& (x - 1)).testBit j = (decide (t < j) && x.testBit j)) := by
  obtain ⟨m, hm, ht⟩ := Lib.ctzFrom_spec 64 x (by omega) hx
  obtain ⟨t, htt⟩ : ∃ t, t = Lib.ctzFrom 64 x := ⟨_, rfl⟩
  rw [← htt] at hm ht
  have hp := Nat.two_pow_pos t
  have e1 : x = 2 ^ (t + 1) * m + 2 ^ t := by rw [hm, Nat.pow_succ, Nat.mul_add]; rw [Nat.mul_assoc]; simp
  have e2 : x - 1 = 2 ^ (t + 1) * m + (2 ^ t - 1) := by rw [e1]; exact Nat.add_sub_assoc hp _
  have l1 : 2 ^ t < 2 ^ (t + 1) := Nat.pow_lt_pow_right (by decide) (by omega)
  have b1 : ∀ j, x.testBit j = if j < t + 1 then decide (t = j) else m.testBit (j - (t + 1)) := by
    intro j; rw [e1, Nat.testBit_two_pow_mul_add _ l1, Nat.testBit_two_pow]
  have b2 : ∀ j, (x - 1).testBit j = if j < t + 1 then decide (j < t) else m.testBit (j - (t + 1)) := by
    intro j; rw [e2, Nat.testBit_two_pow_mul_add _ (by omega), Nat.testBit_two_pow_sub_one]
  refine ⟨t, by unfold Lib.ctz; rw [if_neg h0, htt], ht, ?_, ?_, ?_⟩
  · rw [b1, if_pos (by omega)]; simp
  · intro j hj; rw [b1, if_pos (by omega)]; exact decide_eq_false (by omega)
  · intro j
    rw [Nat.testBit_and, b2, b1]
    by_cases hj : j < t + 1
    · rw [if_pos hj, if_pos hj]
      by_cases h1 : t = j
      · simp [h1]
      · simp [h1]
    · simp [hj, show t < j by omega]

/-- What is left of a word, and what has been told of it. -/
structure Left (ws : List Nat) (i x s : Nat) : Prop where
  lt : i < ws.length
  le : s ≤ 64
  bits : ∀ j, x.testBit j = (decide (s ≤ j) && (ws.getD i 0).testBit j)
theorem Left.word {ws : List Nat} {i x s : Nat} (h : Left ws i x s) {j : Nat} (hj : j < 64) : there ws (64 * i + j) = (ws.getD i 0).testBit j := by
  have := h.lt
  unfold there
  rw [bitOf_test]
  simp only [show (64 * i + j) / 64 = i by omega, show (64 * i + j) % 64 = j by omega]
theorem Left.start {ws : List Nat} {i : Nat} (h : i < ws.length) : Left ws i (ws.getD i 0) 0 := ⟨h, by omega, fun j => by simp⟩
theorem Left.done {ws : List Nat} {i s : Nat} (h : Left ws i 0 s) : numsTo ws (64 * (i + 1)) = numsTo ws (64 * i + s) := by
  refine numsTo_skip (by have := h.le; omega) (fun j h1 h2 => ?_)
  have hb := h.bits (j - 64 * i)
  rw [Nat.zero_testBit, decide_eq_true (by omega), Bool.true_and] at hb
  have := h.word (j := j - 64 * i) (by omega)
  rw [show 64 * i + (j - 64 * i) = j by omega] at this
  rw [this, ← hb]
theorem Left.step {ws : List Nat} {i x s : Nat} (h : Left ws i x s) (h0 : x ≠ 0) (hx : x < 18446744073709551616) :
    ∃ t, Lib.ctz 64 x = t ∧ t < 64 ∧ numsTo ws (64 * i + (t + 1)) = numsTo ws (64 * i + s) ++ [((64 * i + t : Nat) : Int)] ∧ Left ws i (x &&& (x - 1)) (t + 1) ∧ x &&& (x - 1) < x := by
  obtain ⟨t, e, ht, b1, b2, b3⟩ := low_bit h0 hx
  have hst : s ≤ t := by
    have := h.bits t
    rw [b1] at this
    by_cases c : s ≤ t
    · exact c
    · simp [c] at this
  have hword : (ws.getD i 0).testBit t = true := by
    have := h.bits t
    rw [b1, decide_eq_true hst, Bool.true_and] at this
    exact this.symm
  refine ⟨t, e, ht, ?_, ⟨h.lt, by omega, fun j => ?_⟩, ?_⟩
  · rw [show 64 * i + (t + 1) = 64 * i + t + 1 by omega, numsTo_succ, if_pos (by rw [h.word ht]; exact hword)]
    congr 1
    refine numsTo_skip (by omega) (fun j h1 h2 => ?_)
    have hb := h.bits (j - 64 * i)
    rw [b2 _ (by omega), decide_eq_true (by omega), Bool.true_and] at hb
    have := h.word (j := j - 64 * i) (by omega)
    rw [show 64 * i + (j - 64 * i) = j by omega] at this
    rw [this, ← hb]
  · rw [b3, h.bits j]
    by_cases c : t < j
    · simp [c, show t + 1 ≤ j by omega, show s ≤ j by omega]
    · simp [c, show ¬ t + 1 ≤ j by omega]
  · have : x &&& (x - 1) ≤ x - 1 := Nat.and_le_right
    omega

set_option maxRecDepth 100000 in set_option maxHeartbeats 4000000 in
theorem set_List (n : Int) (base : Option Addr) (cap : Nat) (ws : List Nat) (w : World) (hs : SetIn w base ws) (hT : TabAt 0 Lib.deBruijn64tab w) (hg : 0 < w.heap.size) :
    Calls Tryd.prog 16 #[.int .i64 n, .slice base ws.length cap] w (RIE w (listV n ws) (sChk n ws)) := by
  obtain ⟨i0, hi, iz0, iz1, iz2⟩ := info_parts infoInt
  have HC := Lib.hid (set_Check n base cap ws w hs.rd hs.len hs.fit)
  have HS := Lib.hid hs
  by_cases hz : sChk n ws = 0
  · have hy1 : (sChk n ws == 0) = true := by simpa using hz
    have hy2 : (sChk n ws != 0) = false := by simpa using hz
    have hv := Lib.hid (show listV n ws = nums ws from if_pos hz)
    have hz0 := Lib.hid hz
    have hl := sChk_len hz
    clear hz hs
    go_enter Tryd.func16, Tryd.ntmps16
    go_wp2_with ((with_reducible refine HC.out.mono ?_); rintro e w3 ⟨rfl, hw3⟩; have hw3 := hw3.symm; subst hw3)
    go_loopw [4, 15] (fun v i wr => ∃ k : Nat, k ≤ ws.length ∧ i = .int .i64 k ∧ wr.ownsRow w.heap.size 3 1 v (numsTo ws (64 * k)).length ((numsTo ws (64 * k)).map (Value.int .i64)) ∧ Below w.heap.size w wr) (fun _ i _ => ws.length - (intOf i).toNat)
    case atStart => exact ⟨0, Nat.zero_le _, rfl, World.ownsRow_nil _ _ _ _, Below.refl _ _⟩
    case round =>
      clear HC
      obtain ⟨k, hk, rfl, hown, hbel⟩ := hrel
      have HO := Lib.hid hown
      clear hown
      by_cases hlt : k < ws.length
      · obtain ⟨b, off, rfl, hc⟩ := (HS.out.keep hbel).rd k _ (wcells_at hlt)
        have hx := HS.out.fit _ (List.getElem_mem hlt)
        go_wp2_with fail
        (refine wp_scope_jumps 0 (fun a' w' => ∃ (x s : Nat) (v : Value) (u16 u17 u18 u19 u20 u21 u22 u23 u24 u25 u26 u27 u28 u29 u30 u31 u32 u33 u34 : Value), (Left ws k x s ∧ x < 18446744073709551616 ∧ w'.ownsRow w.heap.size 3 1 v (numsTo ws (64 * k + s)).length ((numsTo ws (64 * k + s)).map (Value.int .i64)) ∧ Below w.heap.size w w') ∧ a' = { tmps := #[.int .i64 n, .slice (some ⟨b, off, none⟩) ws.length cap, undef, undef, v, .int .i64 (sChk n ws), .int .i64 k, .int .u64 x, .int .i64 n, .slice (some ⟨b, off, none⟩) ws.length cap, .int .i64 (sChk n ws), .int .i64 (sChk n ws), .bool false, .slice (some ⟨b, off, none⟩) ws.length cap, .int .i64 ws.length, .int .i64 k, u16, u17, u18, u19, u20, u21, u22, u23, u24, u25, u26, u27, u28, u29, u30, u31, u32, u33, u34], defers := [] }) (fun a' _ => (intOf (a'.tmps.getD 7 undef)).toNat) (by rfl) ?first ?pass)
        case first =>
          go_wp2_with fail
          go_step3
          have hL := Left.start hlt
          rw [show ws.getD k 0 = ws[k] by simp [hlt]] at hL
          have ho : wr.ownsRow w.heap.size 3 1 u4 (numsTo ws (64 * k + 0)).length ((numsTo ws (64 * k + 0)).map (Value.int .i64)) := HO.out
          obtain ⟨x, hxx⟩ : ∃ x, x = ws[k] := ⟨_, rfl⟩
          rw [← hxx] at hx hL ⊢
          clear hxx hc HO
          have HO := Lib.hid ho
          have HX := Lib.hid hL
          have hse := hL.le
          clear ho hL
          by_cases hx0 : x = 0
          · subst hx0
            have hd := Lib.hid HX.out.done
            go_wp2_with fail
            simp only [Exit.jump]
            go_wp2_with fail
            go_roundw
            case rel => exact ⟨k + 1, by omega, by go_num, by rw [hd.out]; exact HO.out, hbel⟩
            case measure => simp [intOf]; omega
          · obtain ⟨t, ht, ht64, hnn, hL2, hltx⟩ := HX.out.step hx0 hx
            have htab : TabAt 0 Lib.deBruijn64tab wr := fun j hj => (hbel.cell (p := ⟨0, j, none⟩) hg).trans (hT j hj)
            have HT := Lib.hid (tz64 x hx wr htab)
            rw [ht] at HT
            have hnn := Lib.hid hnn
            have HL2 := Lib.hid hL2
            have hne : ((x : Int) != 0) = true := by rw [bne_iff_ne]; omega
            have hba := Lib.hid (show bits .and .u64 (x : Int) ((x : Int) - 1) = ((x &&& (x - 1) : Nat) : Int) by rw [show (x : Int) - 1 = ((x - 1 : Nat) : Int) by omega]; exact u64_and_nat x (x - 1) hx (by omega))
            have hul := numsTo_len ws (64 * k + 0)
            have hz := hbel.size
            clear htab ht hL2
            obtain ⟨y, hy⟩ : ∃ y, y = x &&& (x - 1) := ⟨_, rfl⟩
            rw [← hy] at hba HL2 hltx
            clear hy
            go_wp2_with (first | ((with_reducible refine HT.out.mono ?_); rintro e w3 ⟨rfl, hw3⟩; have hw3 := hw3.symm; subst hw3) | (at_builtin; refine wpList_append_own _ rfl _ _ 38 rfl (w.heap.size) 3 i0 (.int .i64 0) 1 8 Tryd.underlying38 hi iz0 iz1 iz2 rfl (by decide) _ _ _ rfl ((HO.out).alloc _) ⟨_, 0, none⟩ 1 1 [.int .i64 (64 * (k : Int) + t)] rfl rfl (cell_new1 _ _ _) (by simp [Value.oneCell']) ?ap3 ?ap4 ?ap5 ?_))
            case ap3 => unfold maxLen; omega
            case ap4 => omega
            case ap5 => simp; omega
            intro v' w3 o3 hg3 _
            have n3 := own_below (HO.out.alloc _) hg3 (by simp; omega)
            have e3 : Below w.heap.size w w3 := (hbel.alloc hz _).trans n3
            clear n3
            go_wp2_with fail
            rw [hba.out]
            go_step3
            have hown3 : w3.ownsRow w.heap.size 3 1 v' (numsTo ws (64 * k + (t + 1))).length ((numsTo ws (64 * k + (t + 1))).map (Value.int .i64)) := by rw [hnn.out]; simpa using o3
            first
              | exact ⟨rfl, y, t + 1, v', _, _, _, _, _, _, _, _, _, _, _, _, _, _, _, _, _, _, _, ⟨HL2.out, by omega, hown3, e3⟩, rfl⟩
              | exact ⟨rfl, ⟨y, t + 1, v', _, _, _, _, _, _, _, _, _, _, _, _, _, _, _, _, _, _, _, ⟨HL2.out, by omega, hown3, e3⟩, rfl⟩, by simp [intOf]; omega⟩
        case pass =>
          clear HO hc hx hbel
          rintro a' wr ⟨x, s, v, v16, v17, v18, v19, v20, v21, v22, v23, v24, v25, v26, v27, v28, v29, v30, v31, v32, v33, v34, ⟨hL, hx, ho, hbel⟩, rfl⟩
          have HO := Lib.hid ho
          have HX := Lib.hid hL
          have hse := hL.le
          clear ho hL
          by_cases hx0 : x = 0
          · subst hx0
            have hd := Lib.hid HX.out.done
            go_wp2_with fail
            simp only [Exit.jump]
            go_wp2_with fail
            go_roundw
            case rel => exact ⟨k + 1, by omega, by go_num, by rw [hd.out]; exact HO.out, hbel⟩
            case measure => simp [intOf]; omega
          · obtain ⟨t, ht, ht64, hnn, hL2, hltx⟩ := HX.out.step hx0 hx
            have htab : TabAt 0 Lib.deBruijn64tab wr := fun j hj => (hbel.cell (p := ⟨0, j, none⟩) hg).trans (hT j hj)
            have HT := Lib.hid (tz64 x hx wr htab)
            rw [ht] at HT
            have hnn := Lib.hid hnn
            have HL2 := Lib.hid hL2
            have hne : ((x : Int) != 0) = true := by rw [bne_iff_ne]; omega
            have hba := Lib.hid (show bits .and .u64 (x : Int) ((x : Int) - 1) = ((x &&& (x - 1) : Nat) : Int) by rw [show (x : Int) - 1 = ((x - 1 : Nat) : Int) by omega]; exact u64_and_nat x (x - 1) hx (by omega))
            have hul := numsTo_len ws (64 * k + s)
            have hz := hbel.size
            clear htab ht hL2
            obtain ⟨y, hy⟩ : ∃ y, y = x &&& (x - 1) := ⟨_, rfl⟩
            rw [← hy] at hba HL2 hltx
            clear hy
            go_wp2_with (first | ((with_reducible refine HT.out.mono ?_); rintro e w3 ⟨rfl, hw3⟩; have hw3 := hw3.symm; subst hw3) | (at_builtin; refine wpList_append_own _ rfl _ _ 38 rfl (w.heap.size) 3 i0 (.int .i64 0) 1 8 Tryd.underlying38 hi iz0 iz1 iz2 rfl (by decide) _ _ _ rfl ((HO.out).alloc _) ⟨_, 0, none⟩ 1 1 [.int .i64 (64 * (k : Int) + t)] rfl rfl (cell_new1 _ _ _) (by simp [Value.oneCell']) ?ap3 ?ap4 ?ap5 ?_))
            case ap3 => unfold maxLen; omega
            case ap4 => omega
            case ap5 => simp; omega
            intro v' w3 o3 hg3 _
            have n3 := own_below (HO.out.alloc _) hg3 (by simp; omega)
            have e3 : Below w.heap.size w w3 := (hbel.alloc hz _).trans n3
            clear n3
            go_wp2_with fail
            rw [hba.out]
            go_step3
            have hown3 : w3.ownsRow w.heap.size 3 1 v' (numsTo ws (64 * k + (t + 1))).length ((numsTo ws (64 * k + (t + 1))).map (Value.int .i64)) := by rw [hnn.out]; simpa using o3
            first
              | exact ⟨rfl, y, t + 1, v', _, _, _, _, _, _, _, _, _, _, _, _, _, _, _, _, _, _, _, ⟨HL2.out, by omega, hown3, e3⟩, rfl⟩
              | exact ⟨rfl, ⟨y, t + 1, v', _, _, _, _, _, _, _, _, _, _, _, _, _, _, _, _, _, _, _, ⟨HL2.out, by omega, hown3, e3⟩, rfl⟩, by simp [intOf]; omega⟩
      · obtain rfl : k = ws.length := by omega
        go_wp2_with fail
        go_returns
        exact ⟨_, by rw [hz0.out]; rfl, by rw [hv.out]; exact HO.out, hbel⟩
  · have hy1 : (sChk n ws == 0) = false := by simpa using hz
    have hy2 : (sChk n ws != 0) = true := by simpa using hz
    have hv := Lib.hid (show listV n ws = [] from if_neg hz)
    clear hz hs
    go_enter Tryd.func16, Tryd.ntmps16
    go_wp2_with ((with_reducible refine HC.out.mono ?_); rintro e w3 ⟨rfl, hw3⟩; have hw3 := hw3.symm; subst hw3)
    all_goals
      go_returns
      exact ⟨_, rfl, by rw [hv.out]; exact World.ownsRow_nil _ _ _ _, by (repeat (first | (with_reducible exact Below.refl _ _) | (with_reducible assumption) | (with_reducible refine below_alloc ?_ _) | (with_reducible refine below_drewN ?_ _) | (with_reducible refine Below.drew ?_) | (with_reducible refine below_then ?_ (by with_reducible assumption)) | (with_reducible refine Below.setCell ?_ (by go_size) _)))⟩
end
end
end Go.Proofs.YthabpiphfaedaaaDoor
