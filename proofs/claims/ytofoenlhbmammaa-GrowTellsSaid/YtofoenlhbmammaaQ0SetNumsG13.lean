/- SET: how many numbers; REF 03: its list. -/
import Derived.Test.YtofoenlhbmammaaQ0SetOfG13
set_option linter.unusedVariables false
set_option linter.unusedSimpArgs false
namespace Go.Proofs.Ytofoenlhbmammaa

section
section
open Go.RowKit Go.Shelf

/-- How many of the lowest n bits are set. -/
def popB (n x : Nat) : Nat := ((List.range n).filter (fun j => x.testBit j)).length
/-- Bytes, the lowest first. -/
def hor : List Nat → Nat
  | [] => 0
  | c :: cs => c + 256 * hor cs

theorem tb_byte {c q i : Nat} (hc : c < 256) : (c + 256 * q).testBit i = if i < 8 then c.testBit i else q.testBit (i - 8) := by
  rw [show c + 256 * q = 2 ^ 8 * q + c by omega]; exact Nat.testBit_two_pow_mul_add _ hc i
theorem and_byte {c m q Q : Nat} (hc : c < 256) (hm : m < 256) : (c + 256 * q) &&& (m + 256 * Q) = (c &&& m) + 256 * (q &&& Q) := by
  apply Nat.eq_of_testBit_eq
  intro i
  rw [Nat.testBit_and, tb_byte hc, tb_byte hm, tb_byte (Nat.lt_of_le_of_lt Nat.and_le_left hc)]
  split <;> rw [Nat.testBit_and]
theorem shr_byte {c m q Q h : Nat} (hh : h ≤ 8) (hc : c < 256) (hm : m < 2 ^ (8 - h)) : ((c + 256 * q) / 2 ^ h) &&& (m + 256 * Q) = ((c / 2 ^ h) &&& m) + 256 * ((q / 2 ^ h) &&& Q) := by
  have hm' : m < 256 := Nat.lt_of_lt_of_le hm (Nat.pow_le_pow_right (by decide) (by omega : 8 - h ≤ 8))
  apply Nat.eq_of_testBit_eq
  intro i
  rw [Nat.testBit_and, tb_byte hm', tb_byte (Nat.lt_of_le_of_lt Nat.and_le_right hm'), Nat.testBit_div_two_pow, tb_byte hc]
  by_cases hi : i < 8
  · rw [if_pos hi, if_pos hi, Nat.testBit_and, Nat.testBit_div_two_pow]
    by_cases h2 : i + h < 8
    · rw [if_pos h2]
    · have : m.testBit i = false := Nat.testBit_lt_two_pow (Nat.lt_of_lt_of_le hm (Nat.pow_le_pow_right (by decide) (by omega)))
      rw [this, Bool.and_false, Bool.and_false]
  · rw [if_neg hi, if_neg hi, if_neg (by omega), Nat.testBit_and, Nat.testBit_div_two_pow, show i + h - 8 = i - 8 + h by omega]

def masks (m : Nat) (k : Nat) : Nat := hor (List.replicate k m)
theorem masks_succ (m k : Nat) : masks m (k + 1) = m + 256 * masks m k := by simp [masks, List.replicate_succ, hor]

theorem step_pair {h m : Nat} (hh : h ≤ 8) (hm : m < 2 ^ (8 - h)) : ∀ cs : List Nat, (∀ c ∈ cs, c < 256) →
    (hor cs / 2 ^ h &&& masks m cs.length) + (hor cs &&& masks m cs.length) = hor (cs.map (fun c => (c / 2 ^ h &&& m) + (c &&& m))) := by
  have hm' : m < 256 := Nat.lt_of_lt_of_le hm (Nat.pow_le_pow_right (by decide) (by omega : 8 - h ≤ 8))
  intro cs
  induction cs with
  | nil => intro _; simp [hor, masks]
  | cons c cs ih =>
    intro hc
    have ih := ih (fun x hx => hc x (List.mem_cons_of_mem _ hx))
    have h0 := hc c (List.mem_cons_self ..)
    simp only [List.length_cons, masks_succ, hor, List.map_cons]
    rw [shr_byte hh h0 hm, and_byte h0 hm', ← ih]
    omega

theorem step_nib : ∀ cs : List Nat, (∀ c ∈ cs, c ≤ 68 ∧ c % 16 ≤ 4) → ((hor cs / 16 + hor cs) &&& masks 15 cs.length) = hor (cs.map (fun c => (c / 16 + c) % 16)) := by
  intro cs
  induction cs with
  | nil => intro _; simp [hor, masks]
  | cons c cs ih =>
    intro hc
    have ih := ih (fun x hx => hc x (List.mem_cons_of_mem _ hx))
    obtain ⟨h0, h1⟩ := hc c (List.mem_cons_self ..)
    have hq : hor cs % 16 ≤ 4 := by
      cases cs with
      | nil => simp [hor]
      | cons d ds =>
        have := (hc d (by simp)).2
        simp only [hor]
        omega
    simp only [List.length_cons, masks_succ, hor, List.map_cons]
    have e : (c + 256 * hor cs) / 16 + (c + 256 * hor cs) = (c / 16 + c + 16 * (hor cs % 16)) + 256 * (hor cs / 16 + hor cs) := by omega
    rw [e, and_byte (by omega) (by decide), ih, nat_mask4]
    omega

theorem popB_byte {c q n : Nat} (hc : c < 256) : popB (8 + n) (c + 256 * q) = popB 8 c + popB n q := by
  unfold popB
  rw [List.range_add, List.filter_append, List.length_append]
  congr 1
  · congr 1
    apply List.filter_congr
    intro j hj
    rw [List.mem_range] at hj
    rw [tb_byte hc, if_pos hj]
  · rw [List.filter_map, List.length_map]
    congr 1
    apply List.filter_congr
    intro j hj
    simp only [Function.comp_apply]
    rw [tb_byte hc, if_neg (by omega), show 8 + j - 8 = j by omega]

def fold1 (c : Nat) : Nat := (c / 2 ^ 1 &&& 85) + (c &&& 85)
def fold2 (c : Nat) : Nat := (c / 2 ^ 2 &&& 51) + (c &&& 51)
theorem bytes_ok : ∀ b : Fin 256, fold1 b.1 < 256 ∧ (fold2 (fold1 b.1) ≤ 68 ∧ fold2 (fold1 b.1) % 16 ≤ 4) ∧ (fold2 (fold1 b.1) / 16 + fold2 (fold1 b.1)) % 16 = popB 8 b.1 ∧ popB 8 b.1 ≤ 8 := by decide +kernel

def ones1 (x : Nat) : Nat := (x / 2 &&& 6148914691236517205) + (x &&& 6148914691236517205)
def ones2 (y : Nat) : Nat := (y / 4 &&& 3689348814741910323) + (y &&& 3689348814741910323)
def ones3 (z : Nat) : Nat := (z / 16 + z) &&& 1085102592571150095

theorem masks85 : masks 85 8 = 6148914691236517205 := by decide
theorem masks51 : masks 51 8 = 3689348814741910323 := by decide
theorem masks15 : masks 15 8 = 1085102592571150095 := by decide
theorem ones1_eq (c0 c1 c2 c3 c4 c5 c6 c7 : Nat) (h : (c0 < 256 ∧ c1 < 256 ∧ c2 < 256 ∧ c3 < 256) ∧ (c4 < 256 ∧ c5 < 256 ∧ c6 < 256 ∧ c7 < 256)) :
    ones1 (hor [c0, c1, c2, c3, c4, c5, c6, c7]) = hor [fold1 c0, fold1 c1, fold1 c2, fold1 c3, fold1 c4, fold1 c5, fold1 c6, fold1 c7] := by
  have := step_pair (h := 1) (m := 85) (by decide) (by decide) [c0, c1, c2, c3, c4, c5, c6, c7] (by
    intro c hc
    simp only [List.mem_cons, List.not_mem_nil, or_false] at hc
    rcases hc with rfl | rfl | rfl | rfl | rfl | rfl | rfl | rfl <;> omega)
  rw [show [c0, c1, c2, c3, c4, c5, c6, c7].length = 8 from rfl, masks85] at this
  exact this
theorem ones2_eq (c0 c1 c2 c3 c4 c5 c6 c7 : Nat) (h : (c0 < 256 ∧ c1 < 256 ∧ c2 < 256 ∧ c3 < 256) ∧ (c4 < 256 ∧ c5 < 256 ∧ c6 < 256 ∧ c7 < 256)) :
    ones2 (hor [c0, c1, c2, c3, c4, c5, c6, c7]) = hor [fold2 c0, fold2 c1, fold2 c2, fold2 c3, fold2 c4, fold2 c5, fold2 c6, fold2 c7] := by
  have := step_pair (h := 2) (m := 51) (by decide) (by decide) [c0, c1, c2, c3, c4, c5, c6, c7] (by
    intro c hc
    simp only [List.mem_cons, List.not_mem_nil, or_false] at hc
    rcases hc with rfl | rfl | rfl | rfl | rfl | rfl | rfl | rfl <;> omega)
  rw [show [c0, c1, c2, c3, c4, c5, c6, c7].length = 8 from rfl, masks51] at this
  exact this
def nib (c : Nat) : Nat := (c / 16 + c) % 16
def nibOk (c : Nat) : Prop := c ≤ 68 ∧ c % 16 ≤ 4
theorem ones3_eq (c0 c1 c2 c3 c4 c5 c6 c7 : Nat) (h : (nibOk c0 ∧ nibOk c1 ∧ nibOk c2 ∧ nibOk c3) ∧ (nibOk c4 ∧ nibOk c5 ∧ nibOk c6 ∧ nibOk c7)) :
    ones3 (hor [c0, c1, c2, c3, c4, c5, c6, c7]) = hor [nib c0, nib c1, nib c2, nib c3, nib c4, nib c5, nib c6, nib c7] := by
  obtain ⟨⟨h0, h1, h2, h3⟩, h4, h5, h6, h7⟩ := h
  have := step_nib [c0, c1, c2, c3, c4, c5, c6, c7] (by
    intro c hc
    simp only [List.mem_cons, List.not_mem_nil, or_false] at hc
    rcases hc with rfl | rfl | rfl | rfl | rfl | rfl | rfl | rfl <;> assumption)
  rw [show [c0, c1, c2, c3, c4, c5, c6, c7].length = 8 from rfl, masks15] at this
  exact this

theorem hor_lt (c0 c1 c2 c3 c4 c5 c6 c7 : Nat) (h : (c0 < 256 ∧ c1 < 256 ∧ c2 < 256 ∧ c3 < 256) ∧ (c4 < 256 ∧ c5 < 256 ∧ c6 < 256 ∧ c7 < 256)) : hor [c0, c1, c2, c3, c4, c5, c6, c7] < 18446744073709551616 := by
  simp only [hor]; omega
theorem hor_le (c0 c1 c2 c3 c4 c5 c6 c7 : Nat) (h : (nibOk c0 ∧ nibOk c1 ∧ nibOk c2 ∧ nibOk c3) ∧ (nibOk c4 ∧ nibOk c5 ∧ nibOk c6 ∧ nibOk c7)) : hor [c0, c1, c2, c3, c4, c5, c6, c7] ≤ 6000000000000000000 := by
  unfold nibOk at h
  simp only [hor]; omega
theorem to_bytes (x : Nat) (hx : x < 18446744073709551616) : ∃ b0 b1 b2 b3 b4 b5 b6 b7 : Nat, (b0 < 256 ∧ b1 < 256 ∧ b2 < 256 ∧ b3 < 256) ∧ (b4 < 256 ∧ b5 < 256 ∧ b6 < 256 ∧ b7 < 256) ∧ x = hor [b0, b1, b2, b3, b4, b5, b6, b7] :=
    ⟨x % 256, x / 256 % 256, x / 256 / 256 % 256, x / 256 / 256 / 256 % 256, x / 256 / 256 / 256 / 256 % 256, x / 256 / 256 / 256 / 256 / 256 % 256, x / 256 / 256 / 256 / 256 / 256 / 256 % 256, x / 256 / 256 / 256 / 256 / 256 / 256 / 256,
      by omega, by omega, by simp only [hor]; omega⟩
theorem popB64 (b0 b1 b2 b3 b4 b5 b6 b7 : Nat) (h : (b0 < 256 ∧ b1 < 256 ∧ b2 < 256 ∧ b3 < 256) ∧ (b4 < 256 ∧ b5 < 256 ∧ b6 < 256 ∧ b7 < 256)) :
    popB 64 (hor [b0, b1, b2, b3, b4, b5, b6, b7]) = popB 8 b0 + (popB 8 b1 + (popB 8 b2 + (popB 8 b3 + (popB 8 b4 + (popB 8 b5 + (popB 8 b6 + popB 8 b7)))))) := by
  obtain ⟨⟨h0, h1, h2, h3⟩, h4, h5, h6, h7⟩ := h
  simp only [hor]
  rw [show 64 = 8 + (8 + (8 + (8 + (8 + (8 + (8 + (8 + 0))))))) from rfl, popB_byte h0, popB_byte h1, popB_byte h2, popB_byte h3, popB_byte h4, popB_byte h5, popB_byte h6, popB_byte h7]
  rfl

theorem ones_bytes (x : Nat) (hx : x < 18446744073709551616) : ∃ p0 p1 p2 p3 p4 p5 p6 p7 : Nat, (p0 ≤ 8 ∧ p1 ≤ 8 ∧ p2 ≤ 8 ∧ p3 ≤ 8) ∧ (p4 ≤ 8 ∧ p5 ≤ 8 ∧ p6 ≤ 8 ∧ p7 ≤ 8) ∧
    ones3 (ones2 (ones1 x)) = hor [p0, p1, p2, p3, p4, p5, p6, p7] ∧ popB 64 x = p0 + (p1 + (p2 + (p3 + (p4 + (p5 + (p6 + p7)))))) ∧
    ones1 x < 18446744073709551616 ∧ ones2 (ones1 x) ≤ 6000000000000000000 := by
  obtain ⟨b0, b1, b2, b3, b4, b5, b6, b7, ⟨h0, h1, h2, h3⟩, ⟨h4, h5, h6, h7⟩, rfl⟩ := to_bytes x hx
  have k0 := bytes_ok ⟨b0, h0⟩
  have k1 := bytes_ok ⟨b1, h1⟩
  have k2 := bytes_ok ⟨b2, h2⟩
  have k3 := bytes_ok ⟨b3, h3⟩
  have k4 := bytes_ok ⟨b4, h4⟩
  have k5 := bytes_ok ⟨b5, h5⟩
  have k6 := bytes_ok ⟨b6, h6⟩
  have k7 := bytes_ok ⟨b7, h7⟩
  simp only at k0 k1 k2 k3 k4 k5 k6 k7
  have s1 := ones1_eq b0 b1 b2 b3 b4 b5 b6 b7 ⟨⟨h0, h1, h2, h3⟩, h4, h5, h6, h7⟩
  have s2 := ones2_eq (fold1 b0) (fold1 b1) (fold1 b2) (fold1 b3) (fold1 b4) (fold1 b5) (fold1 b6) (fold1 b7) ⟨⟨k0.1, k1.1, k2.1, k3.1⟩, k4.1, k5.1, k6.1, k7.1⟩
  have s3 := ones3_eq (fold2 (fold1 b0)) (fold2 (fold1 b1)) (fold2 (fold1 b2)) (fold2 (fold1 b3)) (fold2 (fold1 b4)) (fold2 (fold1 b5)) (fold2 (fold1 b6)) (fold2 (fold1 b7)) ⟨⟨k0.2.1, k1.2.1, k2.2.1, k3.2.1⟩, k4.2.1, k5.2.1, k6.2.1, k7.2.1⟩
  simp only [nib, k0.2.2.1, k1.2.2.1, k2.2.2.1, k3.2.2.1, k4.2.2.1, k5.2.2.1, k6.2.2.1, k7.2.2.1] at s3
  refine ⟨_, _, _, _, _, _, _, _, ?_, ?_, by rw [s1, s2, s3], ?_, ?_, ?_⟩
  · exact ⟨k0.2.2.2, k1.2.2.2, k2.2.2.2, k3.2.2.2⟩
  · exact ⟨k4.2.2.2, k5.2.2.2, k6.2.2.2, k7.2.2.2⟩
  · exact popB64 b0 b1 b2 b3 b4 b5 b6 b7 ⟨⟨h0, h1, h2, h3⟩, h4, h5, h6, h7⟩
  · rw [s1]; exact hor_lt _ _ _ _ _ _ _ _ ⟨⟨k0.1, k1.1, k2.1, k3.1⟩, k4.1, k5.1, k6.1, k7.1⟩
  · rw [s1, s2]; exact hor_le _ _ _ _ _ _ _ _ ⟨⟨k0.2.1, k1.2.1, k2.2.1, k3.2.1⟩, k4.2.1, k5.2.1, k6.2.1, k7.2.1⟩

theorem div_of {q a b d : Nat} (h : q = a + d * b) (ha : a < d) : q / d = b := by
  rw [h, Nat.add_mul_div_left _ _ (by omega), Nat.div_eq_of_lt ha, Nat.zero_add]
theorem wrap_nat {i : Int} {q : Nat} (h : (q : Int) = i) (hq : q < 18446744073709551616) : IntKind.u64.wrap i = (q : Int) := by
  rw [← h, IntKind.wrap_u64]; omega
theorem ones_id1 (p0 p1 p2 p3 p4 p5 p6 p7 : Nat) : p0 + 256 * (p1 + 256 * (p2 + 256 * (p3 + 256 * (p4 + 256 * (p5 + 256 * (p6 + 256 * (p7 + 256 * 0))))))) + (p1 + 256 * (p2 + 256 * (p3 + 256 * (p4 + 256 * (p5 + 256 * (p6 + 256 * (p7 + 256 * 0)))))))
    = (p0 + p1 + 256 * (p1 + p2)) + 65536 * (p2 + p3 + 256 * (p3 + p4 + 256 * (p4 + p5 + 256 * (p5 + p6 + 256 * (p6 + p7 + 256 * p7))))) := by omega
theorem ones_id2 (p0 p1 p2 p3 p4 p5 p6 p7 : Nat) : (p0 + p1 + 256 * (p1 + p2)) + 65536 * (p2 + p3 + 256 * (p3 + p4 + 256 * (p4 + p5 + 256 * (p5 + p6 + 256 * (p6 + p7 + 256 * p7))))) + (p2 + p3 + 256 * (p3 + p4 + 256 * (p4 + p5 + 256 * (p5 + p6 + 256 * (p6 + p7 + 256 * p7)))))
    = (p0 + p1 + p2 + p3 + 256 * (p1 + p2 + p3 + p4 + 256 * (p2 + p3 + p4 + p5 + 256 * (p3 + p4 + p5 + p6)))) + 4294967296 * (p4 + p5 + p6 + p7 + 256 * (p5 + p6 + p7 + 256 * (p6 + p7 + 256 * p7))) := by omega
theorem ones_id3 (p0 p1 p2 p3 p4 p5 p6 p7 : Nat) : (p0 + p1 + p2 + p3 + 256 * (p1 + p2 + p3 + p4 + 256 * (p2 + p3 + p4 + p5 + 256 * (p3 + p4 + p5 + p6)))) + 4294967296 * (p4 + p5 + p6 + p7 + 256 * (p5 + p6 + p7 + 256 * (p6 + p7 + 256 * p7))) + (p4 + p5 + p6 + p7 + 256 * (p5 + p6 + p7 + 256 * (p6 + p7 + 256 * p7)))
    = (p0 + (p1 + (p2 + (p3 + (p4 + (p5 + (p6 + p7))))))) + 128 * (2 * (p1 + p2 + p3 + p4 + 256 * (p2 + p3 + p4 + p5 + 256 * (p3 + p4 + p5 + p6))) + 2 * (p5 + p6 + p7 + 256 * (p6 + p7 + 256 * p7)) + 33554432 * (p4 + p5 + p6 + p7 + 256 * (p5 + p6 + p7 + 256 * (p6 + p7 + 256 * p7)))) := by omega
theorem ones_m0 (p0 p1 p2 p3 p4 p5 p6 p7 : Nat) (h : p0 ≤ 8 ∧ p1 ≤ 8 ∧ p2 ≤ 8 ∧ p3 ≤ 8) (h' : p4 ≤ 8 ∧ p5 ≤ 8 ∧ p6 ≤ 8 ∧ p7 ≤ 8) : p0 < 256 := by omega
theorem ones_m1 (p0 p1 p2 p3 p4 p5 p6 p7 : Nat) (h : p0 ≤ 8 ∧ p1 ≤ 8 ∧ p2 ≤ 8 ∧ p3 ≤ 8) (h' : p4 ≤ 8 ∧ p5 ≤ 8 ∧ p6 ≤ 8 ∧ p7 ≤ 8) : p0 + p1 + 256 * (p1 + p2) < 65536 := by omega
theorem ones_m2 (p0 p1 p2 p3 p4 p5 p6 p7 : Nat) (h : p0 ≤ 8 ∧ p1 ≤ 8 ∧ p2 ≤ 8 ∧ p3 ≤ 8) (h' : p4 ≤ 8 ∧ p5 ≤ 8 ∧ p6 ≤ 8 ∧ p7 ≤ 8) : p0 + p1 + p2 + p3 + 256 * (p1 + p2 + p3 + p4 + 256 * (p2 + p3 + p4 + p5 + 256 * (p3 + p4 + p5 + p6))) < 4294967296 := by omega
theorem ones_m3 (p0 p1 p2 p3 p4 p5 p6 p7 : Nat) (h : p0 ≤ 8 ∧ p1 ≤ 8 ∧ p2 ≤ 8 ∧ p3 ≤ 8) (h' : p4 ≤ 8 ∧ p5 ≤ 8 ∧ p6 ≤ 8 ∧ p7 ≤ 8) : p0 + (p1 + (p2 + (p3 + (p4 + (p5 + (p6 + p7)))))) < 128 := by omega
theorem ones_n1 (p0 p1 p2 p3 p4 p5 p6 p7 : Nat) (h : p0 ≤ 8 ∧ p1 ≤ 8 ∧ p2 ≤ 8 ∧ p3 ≤ 8) (h' : p4 ≤ 8 ∧ p5 ≤ 8 ∧ p6 ≤ 8 ∧ p7 ≤ 8) : (p0 + p1 + 256 * (p1 + p2)) + 65536 * (p2 + p3 + 256 * (p3 + p4 + 256 * (p4 + p5 + 256 * (p5 + p6 + 256 * (p6 + p7 + 256 * p7))))) < 18446744073709551616 := by omega
theorem ones_n2 (p0 p1 p2 p3 p4 p5 p6 p7 : Nat) (h : p0 ≤ 8 ∧ p1 ≤ 8 ∧ p2 ≤ 8 ∧ p3 ≤ 8) (h' : p4 ≤ 8 ∧ p5 ≤ 8 ∧ p6 ≤ 8 ∧ p7 ≤ 8) : (p0 + p1 + p2 + p3 + 256 * (p1 + p2 + p3 + p4 + 256 * (p2 + p3 + p4 + p5 + 256 * (p3 + p4 + p5 + p6)))) + 4294967296 * (p4 + p5 + p6 + p7 + 256 * (p5 + p6 + p7 + 256 * (p6 + p7 + 256 * p7))) < 18446744073709551616 := by omega
theorem ones_n3 (p0 p1 p2 p3 p4 p5 p6 p7 : Nat) (h : p0 ≤ 8 ∧ p1 ≤ 8 ∧ p2 ≤ 8 ∧ p3 ≤ 8) (h' : p4 ≤ 8 ∧ p5 ≤ 8 ∧ p6 ≤ 8 ∧ p7 ≤ 8) : (p0 + p1 + p2 + p3 + 256 * (p1 + p2 + p3 + p4 + 256 * (p2 + p3 + p4 + p5 + 256 * (p3 + p4 + p5 + p6)))) + 4294967296 * (p4 + p5 + p6 + p7 + 256 * (p5 + p6 + p7 + 256 * (p6 + p7 + 256 * p7))) + (p4 + p5 + p6 + p7 + 256 * (p5 + p6 + p7 + 256 * (p6 + p7 + 256 * p7))) < 9223372036854775808 := by omega
theorem ones_sum (v p0 p1 p2 p3 p4 p5 p6 p7 : Nat) (h : p0 ≤ 8 ∧ p1 ≤ 8 ∧ p2 ≤ 8 ∧ p3 ≤ 8) (h' : p4 ≤ 8 ∧ p5 ≤ 8 ∧ p6 ≤ 8 ∧ p7 ≤ 8)
    (hv : v = p0 + 256 * (p1 + 256 * (p2 + 256 * (p3 + 256 * (p4 + 256 * (p5 + 256 * (p6 + 256 * (p7 + 256 * 0)))))))) :
    ∃ q1 q2 q3 : Nat, q1 = v + v / 256 ∧ q2 = q1 + q1 / 65536 ∧ q3 = q2 + q2 / 4294967296 ∧ q1 < 18446744073709551616 ∧ q2 < 18446744073709551616 ∧ q3 < 9223372036854775808 ∧ q3 % 128 = p0 + (p1 + (p2 + (p3 + (p4 + (p5 + (p6 + p7)))))) := by
  have m0 := ones_m0 p0 p1 p2 p3 p4 p5 p6 p7 h h'
  have m1 := ones_m1 p0 p1 p2 p3 p4 p5 p6 p7 h h'
  have m2 := ones_m2 p0 p1 p2 p3 p4 p5 p6 p7 h h'
  have m3 := ones_m3 p0 p1 p2 p3 p4 p5 p6 p7 h h'
  have n1 := ones_n1 p0 p1 p2 p3 p4 p5 p6 p7 h h'
  have n2 := ones_n2 p0 p1 p2 p3 p4 p5 p6 p7 h h'
  have n3 := ones_n3 p0 p1 p2 p3 p4 p5 p6 p7 h h'
  have d1 : v / 256 = p1 + 256 * (p2 + 256 * (p3 + 256 * (p4 + 256 * (p5 + 256 * (p6 + 256 * (p7 + 256 * 0)))))) := div_of hv m0
  have f1 : v + v / 256 = (p0 + p1 + 256 * (p1 + p2)) + 65536 * (p2 + p3 + 256 * (p3 + p4 + 256 * (p4 + p5 + 256 * (p5 + p6 + 256 * (p6 + p7 + 256 * p7))))) := by rw [d1, hv]; exact ones_id1 ..
  have d2 := div_of f1 m1
  have f2 : v + v / 256 + (v + v / 256) / 65536 = (p0 + p1 + p2 + p3 + 256 * (p1 + p2 + p3 + p4 + 256 * (p2 + p3 + p4 + p5 + 256 * (p3 + p4 + p5 + p6)))) + 4294967296 * (p4 + p5 + p6 + p7 + 256 * (p5 + p6 + p7 + 256 * (p6 + p7 + 256 * p7))) := by rw [d2, f1]; exact ones_id2 ..
  have d3 := div_of f2 m2
  refine ⟨_, _, _, rfl, rfl, rfl, by rw [f1]; exact n1, by rw [f2]; exact n2, by rw [d3, f2]; exact n3, ?_⟩
  rw [d3, f2, ones_id3, Nat.add_mul_mod_self_left, Nat.mod_eq_of_lt m3]

set_option maxRecDepth 100000 in set_option maxHeartbeats 4000000 in
theorem ones64 (x : Nat) (hx : x < 18446744073709551616) (w : World) :
    Calls Try.prog 55 #[.int .u64 x] w fun e w' => e = .returned (.int .i64 (popB 64 x : Nat)) ∧ w' = w := by
  obtain ⟨p0, p1, p2, p3, p4, p5, p6, p7, ⟨h0, h1, h2, h3⟩, ⟨h4, h5, h6, h7⟩, e3, ep, b1, b2⟩ := ones_bytes x hx
  have u0 : ((x : Nat) : Int) / 2 = ((x / 2 : Nat) : Int) := by simp
  have a1 : IntKind.u64.wrap (bits .and .u64 ((x : Int) / 2) 6148914691236517205 + bits .and .u64 (x : Int) 6148914691236517205) = ((ones1 x : Nat) : Int) := by
    have l1 := u64_and_nat (x / 2) 6148914691236517205 (by omega) (by decide)
    have l2 := u64_and_nat x 6148914691236517205 hx (by decide)
    rw [u0]
    simp only [Int.cast_ofNat_Int] at l1 l2
    rw [l1, l2, IntKind.wrap_u64]
    unfold ones1 at b1 ⊢
    omega
  obtain ⟨y, hy⟩ : ∃ y, y = ones1 x := ⟨_, rfl⟩
  rw [← hy] at a1 b1 b2 e3
  have a2 : IntKind.u64.wrap (bits .and .u64 ((y : Int) / 4) 3689348814741910323 + bits .and .u64 (y : Int) 3689348814741910323) = ((ones2 y : Nat) : Int) := by
    have l1 := u64_and_nat (y / 4) 3689348814741910323 (by omega) (by decide)
    have l2 := u64_and_nat y 3689348814741910323 b1 (by decide)
    rw [show ((y : Nat) : Int) / 4 = ((y / 4 : Nat) : Int) by simp]
    simp only [Int.cast_ofNat_Int] at l1 l2
    rw [l1, l2, IntKind.wrap_u64]
    unfold ones2 at b2 ⊢
    omega
  obtain ⟨z, hz⟩ : ∃ z, z = ones2 y := ⟨_, rfl⟩
  rw [← hz] at a2 b2 e3
  have a3 : bits .and .u64 (IntKind.u64.wrap ((z : Int) / 16 + (z : Int))) 1085102592571150095 = ((ones3 z : Nat) : Int) := by
    have l1 := u64_and_nat (z / 16 + z) 1085102592571150095 (by omega) (by decide)
    simp only [Int.cast_ofNat_Int] at l1
    rw [show IntKind.u64.wrap ((z : Int) / 16 + (z : Int)) = ((z / 16 + z : Nat) : Int) by rw [IntKind.wrap_u64]; omega, l1]
    rfl
  obtain ⟨v, hv⟩ : ∃ v, v = ones3 z := ⟨_, rfl⟩
  rw [← hv] at a3 e3
  simp only [hor] at e3
  obtain ⟨q1, q2, q3, e1, e2, e4, c1, c2, c3, er⟩ := ones_sum v p0 p1 p2 p3 p4 p5 p6 p7 ⟨h0, h1, h2, h3⟩ ⟨h4, h5, h6, h7⟩ e3
  have a4 : IntKind.u64.wrap ((v : Int) + (v : Int) / 256) = (q1 : Int) := wrap_nat (by rw [e1]; simp) c1
  have a5 : IntKind.u64.wrap ((q1 : Int) + (q1 : Int) / 65536) = (q2 : Int) := wrap_nat (by rw [e2]; simp) c2
  have a6 : IntKind.u64.wrap ((q2 : Int) + (q2 : Int) / 4294967296) = (q3 : Int) := wrap_nat (by rw [e4]; simp) (Nat.lt_trans c3 (by decide))
  have a7 : bits .and .i64 (wrap64 (q3 : Int)) 127 = ((popB 64 x : Nat) : Int) := by
    rw [show wrap64 (q3 : Int) = (q3 : Int) by rw [wrap64]; clear a4 a5 a6 e3 e1 e2 e4 ep er; omega]
    rw [i64_and127, ep, ← er]
    simp
  have A4 := Lib.hid a4
  have A5 := Lib.hid a5
  have A6 := Lib.hid a6
  have A7 := Lib.hid a7
  have A1 := Lib.hid a1
  have A2 := Lib.hid a2
  have A3 := Lib.hid a3
  have E3 := Lib.hid e3
  have EP := Lib.hid ep
  clear a1 a2 a3 a4 a5 a6 a7 e3 ep hy hz hv u0 e1 e2 e4 er c1 c2 c3
  go_enter Try.func55, Try.ntmps55
  go_wp2_with fail
  go_returns
  rw [A1.out, A2.out, A3.out, A4.out, A5.out, A6.out, A7.out]
  exact ⟨rfl, rfl⟩
end

section
open Go.RowKit Go.Shelf

theorem numsTo_word {ws : List Nat} {k : Nat} (h : k < ws.length) : (numsTo ws (64 * (k + 1))).length = (numsTo ws (64 * k)).length + popB 64 ws[k] := by
  unfold numsTo popB
  rw [show 64 * (k + 1) = 64 * k + 64 by omega, List.range_add, List.filter_append, List.map_append, List.length_append]
  congr 1
  rw [List.length_map, List.filter_map, List.length_map]
  congr 1
  apply List.filter_congr
  intro j hj
  rw [List.mem_range] at hj
  simp only [Function.comp_apply]
  rw [there_in (by omega), bitOf_test]
  simp only [show (64 * k + j) / 64 = k by omega, show (64 * k + j) % 64 = j by omega]

/-- How many there are in a set that may be. -/
def manyV (n : Int) (ws : List Nat) : Int := if sChk n ws = 0 then ((nums ws).length : Int) else 0

set_option maxRecDepth 100000 in set_option maxHeartbeats 4000000 in
theorem set_Many (n : Int) (base : Option Addr) (cap : Nat) (ws : List Nat) (w : World) (hs : SetIn w base ws) :
    Calls Try.prog 28 #[.int .i64 n, .slice base ws.length cap] w (RB w (.tuple #[.int .i64 (manyV n ws), .int .i64 (sChk n ws)])) := by
  have HC := Lib.hid (set_Check n base cap ws w hs.rd hs.len hs.fit)
  have HS := Lib.hid hs
  by_cases hz : sChk n ws = 0
  · have hy1 : (sChk n ws == 0) = true := by simpa using hz
    have hy2 : (sChk n ws != 0) = false := by simpa using hz
    have hv := Lib.hid (show manyV n ws = ((nums ws).length : Int) from if_pos hz)
    obtain ⟨hn, hlen, _⟩ := sMay_len hz
    have hp := (nWords_pos hn).2
    have hz0 := Lib.hid hz
    have hl192 : ws.length ≤ 192 := by omega
    clear hlen hp hz hs hn
    go_enter Try.func28, Try.ntmps28
    go_wp2_with ((with_reducible refine HC.out.mono ?_); rintro e w3 ⟨rfl, hw3⟩; have hw3 := hw3.symm; subst hw3)
    go_loopw [4, 15] (fun m i wr => ∃ k : Nat, k ≤ ws.length ∧ i = .int .i64 k ∧ m = .int .i64 ((numsTo ws (64 * k)).length : Nat) ∧ ∃ q, wr = w.drewN q) (fun _ i _ => ws.length - (intOf i).toNat)
    case atStart => exact ⟨0, Nat.zero_le _, rfl, rfl, 0, rfl⟩
    case round =>
      clear HC
      obtain ⟨k, hk, rfl, rfl, q, rfl⟩ := hrel
      by_cases hlt : k < ws.length
      · obtain ⟨b, off, rfl, hc⟩ := HS.out.rd k _ (wcells_at hlt)
        have hx := HS.out.fit _ (List.getElem_mem hlt)
        have hnw := Lib.hid (numsTo_word hlt)
        have hl1 := numsTo_len ws (64 * (k + 1))
        have hsm := Lib.hid (numsTo_word hlt)
        obtain ⟨m1, hm1⟩ : ∃ m, m = (numsTo ws (64 * k)).length := ⟨_, rfl⟩
        rw [hnw.out, ← hm1] at hl1
        rw [← hm1] at hnw hsm
        obtain ⟨x, hxx⟩ : ∃ x, x = ws[k] := ⟨_, rfl⟩
        rw [← hxx] at hc hx hnw hl1 hsm
        have HO := Lib.hid (fun w => ones64 x hx w)
        obtain ⟨pp, hpp⟩ : ∃ p, p = popB 64 x := ⟨_, rfl⟩
        rw [← hpp] at hnw hl1 HO hsm
        rw [← hm1]
        clear hxx hpp hm1
        go_wp2_with ((with_reducible refine (HO.out _).mono ?_); rintro e w3 ⟨rfl, hw3⟩; have hw3 := hw3.symm; subst hw3)
        all_goals
          go_roundw
          case rel => exact ⟨k + 1, by omega, by go_num, by rw [hnw.out]; go_num, _, rfl⟩
          case measure => simp [intOf]; omega
      · obtain rfl : k = ws.length := by omega
        go_wp2_with fail
        go_returns
        exact ⟨by rw [hv.out, hz0.out]; rfl, by (repeat (first | (with_reducible exact Below.refl _ _) | (with_reducible assumption) | (with_reducible refine below_alloc ?_ _) | (with_reducible refine below_drewN ?_ _) | (with_reducible refine Below.drew ?_) | (with_reducible refine below_then ?_ (by with_reducible assumption)) | (with_reducible refine Below.setCell ?_ (by go_size) _)))⟩
  · have hy1 : (sChk n ws == 0) = false := by simpa using hz
    have hy2 : (sChk n ws != 0) = true := by simpa using hz
    have hq := Lib.hid (show manyV n ws = 0 from if_neg hz)
    clear hz hs
    go_enter Try.func28, Try.ntmps28
    go_wp2_with ((with_reducible refine HC.out.mono ?_); rintro e w3 ⟨rfl, hw3⟩; have hw3 := hw3.symm; subst hw3)
    all_goals
      go_returns
      exact ⟨by rw [hq.out]; rfl, by (repeat (first | (with_reducible exact Below.refl _ _) | (with_reducible assumption) | (with_reducible refine below_alloc ?_ _) | (with_reducible refine below_drewN ?_ _) | (with_reducible refine Below.drew ?_) | (with_reducible refine below_then ?_ (by with_reducible assumption)) | (with_reducible refine Below.setCell ?_ (by go_size) _)))⟩
end

section
open Go.RowKit Go.Shelf

def listV (n : Int) (ws : List Nat) : List Int := if sChk n ws = 0 then nums ws else []
theorem sChk_len {n : Int} {ws : List Nat} (h : sChk n ws = 0) : ws.length ≤ 192 := by
  obtain ⟨hn, hlen, _⟩ := sMay_len h
  have hp := (nWords_pos hn).2
  omega

end
end
end Go.Proofs.Ytofoenlhbmammaa
