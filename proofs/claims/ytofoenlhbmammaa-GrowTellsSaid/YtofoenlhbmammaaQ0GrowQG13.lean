/- GROW, THE PLAIN LAW: with nothing taken the whole machine is the only one; how large the largest one is, against how much is taken. -/
import Derived.Test.YtofoenlhbmammaaQ0GrowGG13
import Derived.Test.YtofoenlhbmammaaQ0SetNumsG13
set_option linter.unusedVariables false
set_option linter.unusedSimpArgs false
namespace Go.Proofs.Ytofoenlhbmammaa

section
open Go.RowKit Go.Shelf

theorem nodup_sub_len {α : Type} [DecidableEq α] : ∀ (l m : List α), l.Nodup → (∀ x ∈ l, x ∈ m) → l.length ≤ m.length
  | [], m, _, _ => Nat.zero_le _
  | x :: l, m, h, hs => by
    rw [List.nodup_cons] at h
    have hx := hs x (List.mem_cons_self ..)
    have h1 := nodup_sub_len l (m.erase x) h.2 (fun y hy => (List.mem_erase_of_ne (fun e => h.1 (by rw [← e]; exact hy))).2 (hs y (List.mem_cons_of_mem _ hy)))
    have h2 : 0 < m.length := List.length_pos_of_mem hx
    rw [List.length_erase_of_mem hx] at h1
    rw [List.length_cons]
    omega
theorem range_nodup (N : Nat) : ((List.range N).map (fun (j : Nat) => (j : Int))).Nodup := nodup_map List.nodup_range (fun x _ y _ h => by omega)
theorem all_nodup (d : V3) (b : Bx) : (b.all d).Nodup := List.Pairwise.filter _ (range_nodup _)
theorem nums_nodup (ws : List Nat) : (nums ws).Nodup := nodup_map (List.Pairwise.filter _ List.nodup_range) (fun x _ y _ h => by omega)
theorem mem_nums_has {ws : List Nat} {x : Int} (h : x ∈ nums ws) : hasI ws x = true := by
  obtain ⟨k, rfl, _, h2⟩ := mem_nums.1 h
  rw [hasI_nat]; exact h2
theorem has_range {n : Int} {ws : List Nat} {x : Int} (hc : sChk n ws = 0) (hw : W64 ws) (h : hasI ws x = true) : 0 ≤ x ∧ x < n := by
  constructor
  · rcases Int.lt_or_le x 0 with h1 | h1
    · rw [hasI_neg h1] at h; cases h
    · exact h1
  · rcases Int.lt_or_le x n with h1 | h1
    · exact h1
    · rw [hasI_top hc hw h1] at h; cases h
theorem has_nums {n : Int} {ws : List Nat} {x : Int} (hc : sChk n ws = 0) (hw : W64 ws) (h : hasI ws x = true) : x ∈ nums ws := by
  obtain ⟨h0, _⟩ := has_range hc hw h
  obtain ⟨k, rfl⟩ := Int.eq_ofNat_of_zero_le h0
  have h' : there ws k = true := by rw [← hasI_nat]; exact h
  refine mem_nums.2 ⟨k, rfl, ?_, h'⟩
  rcases Nat.lt_or_ge k (64 * ws.length) with h2 | h2
  · exact h2
  · rw [there_far (by omega)] at h'; cases h'
theorem mem_range_int {n x : Int} (hn : 0 ≤ n) : x ∈ (List.range n.toNat).map (fun (j : Nat) => (j : Int)) ↔ 0 ≤ x ∧ x < n := by
  rw [List.mem_map]
  constructor
  · rintro ⟨j, hj, rfl⟩
    have := List.mem_range.1 hj
    omega
  · intro h
    exact ⟨x.toNat, List.mem_range.2 (by omega), by omega⟩
/-- What a free box has, and what is taken, is not more than there is. -/
theorem free_room {d : V3} {s : List Nat} {b : Bx} (hd : d.may) (hc : sChk d.n s = 0) (hw : W64 s) (hf : clearS d s b = true) : ((b.all d).length : Int) + ((nums s).length : Int) ≤ d.n := by
  have hn := V3.n_le hd
  have h := nodup_sub_len (b.all d ++ nums s) ((List.range d.n.toNat).map (fun (j : Nat) => (j : Int))) (by
    rw [List.nodup_append]
    refine ⟨all_nodup d b, nums_nodup s, fun x hx y hy e => ?_⟩
    subst e
    unfold clearS at hf
    rw [Bool.not_eq_true', List.any_eq_false] at hf
    exact hf x hx (mem_nums_has hy)) (fun x hx => by
    rw [mem_range_int (by omega)]
    rcases List.mem_append.1 hx with h1 | h1
    · exact (Bx.mem_all.1 h1).1
    · exact has_range hc hw (mem_nums_has h1))
  rw [List.length_append, List.length_map, List.length_range] at h
  omega
theorem Bx.all_volG {d : V3} {b : Bx} (hd : d.may) (hb : b.may d) : ((b.all d).length : Int) = b.vol := by
  rw [← Bx.nodes_eq hd hb, sorted_len, Bx.nZ_len]
  unfold Bx.may at hb
  unfold Bx.vol
  obtain ⟨x, hx⟩ : ∃ x : Nat, b.s.x = x := ⟨b.s.x.toNat, by omega⟩
  obtain ⟨y, hy⟩ : ∃ y : Nat, b.s.y = y := ⟨b.s.y.toNat, by omega⟩
  obtain ⟨z, hz⟩ : ∃ z : Nat, b.s.z = z := ⟨b.s.z.toNat, by omega⟩
  rw [hx, hy, hz]
  simp only [Int.toNat_natCast, Int.natCast_mul]
  rw [Int.mul_comm (y : Int), Int.mul_comm (z : Int)]
/-- One midplane alone. -/
def unitB (d : V3) (m : Int) : Bx := ⟨d.pos m, ⟨1, 1, 1⟩⟩
theorem unit_may {d : V3} {m : Int} (hd : d.may) (h0 : 0 ≤ m) (h1 : m < d.n) : (unitB d m).isC d := by
  obtain ⟨px, py, pz⟩ := V3.pos_inside hd h0 h1
  obtain ⟨⟨x1, x2⟩, ⟨y1, y2⟩, ⟨z1, z2⟩⟩ := hd
  refine ⟨⟨⟨⟨by show (1 : Int) ≤ 1; omega, x1⟩, px⟩, ⟨⟨by show (1 : Int) ≤ 1; omega, y1⟩, py⟩, ⟨⟨by show (1 : Int) ≤ 1; omega, z1⟩, pz⟩⟩, ?_⟩
  unfold unitB Bx.can
  simp only [Bx.mk.injEq, V3.mk.injEq, and_true]
  generalize d.pos m = p at *
  obtain ⟨a, b, c⟩ := p
  simp only [V3.mk.injEq] at px py pz ⊢
  refine ⟨?_, ?_, ?_⟩
  · cases h : (1 : Int) == d.x with
    | false => rfl
    | true => have := eq_of_beq h; simp; omega
  · cases h : (1 : Int) == d.y with
    | false => rfl
    | true => have := eq_of_beq h; simp; omega
  · cases h : (1 : Int) == d.z with
    | false => rfl
    | true => have := eq_of_beq h; simp; omega
theorem unit_all {d : V3} {m x : Int} (hd : d.may) (h0 : 0 ≤ m) (h1 : m < d.n) (hx : x ∈ (unitB d m).all d) : x = m := by
  have hm := (unit_may hd h0 h1).1
  obtain ⟨⟨x0, x1⟩, hp⟩ := (Bx.mem_all_iff hd hm).1 hx
  obtain ⟨q1, q2, q3⟩ := hp
  obtain ⟨px, py, pz⟩ := V3.pos_inside hd h0 h1
  obtain ⟨rx, ry, rz⟩ := V3.pos_inside hd x0 x1
  have e1 := steps_zero px rx (by have : stepsOn (d.pos m).x (d.pos x).x d.x < 1 := q1; omega)
  have e2 := steps_zero py ry (by have : stepsOn (d.pos m).y (d.pos x).y d.y < 1 := q2; omega)
  have e3 := steps_zero pz rz (by have : stepsOn (d.pos m).z (d.pos x).z d.z < 1 := q3; omega)
  have e : d.pos m = d.pos x := by
    generalize d.pos m = p at *
    generalize d.pos x = q at *
    obtain ⟨a, b, c⟩ := p
    obtain ⟨a', b', c'⟩ := q
    simp only at e1 e2 e3
    rw [e1, e2, e3]
  have h := congrArg d.num e
  have q : ∀ x : Int, d.num (d.pos x) = x := fun x => by
    unfold V3.num V3.pos
    have h1 := Int.emod_add_mul_ediv (x / d.x) d.y
    have h2 := Int.emod_add_mul_ediv x d.x
    show x % d.x + d.x * (x / d.x % d.y + d.y * (x / d.x / d.y)) = x
    rw [h1, h2]
  rw [q, q] at h
  exact h.symm
theorem topL_nonneg (l : List Bx) : 0 ≤ topL l := (topL_ge l 0).1
theorem topL_le {l : List Bx} {n : Int} (hn : 0 ≤ n) (h : ∀ b ∈ l, b.vol ≤ n) : topL l ≤ n := by
  rcases topL_at l 0 with e | ⟨b, hb, e⟩
  · show l.foldl (fun m b => max m b.vol) 0 ≤ n
    rw [e]; exact hn
  · show l.foldl (fun m b => max m b.vol) 0 ≤ n
    rw [← e]; exact h b hb
/-- The largest free box against how many are taken. -/
theorem top_room {d : V3} {s : List Nat} (hd : d.may) (hc : sChk d.n s = 0) (hw : W64 s) : topL (freeL d s) ≤ d.n - manyV d.n s ∧ (topL (freeL d s) = 0 ↔ manyV d.n s = d.n) := by
  have hm : manyV d.n s = ((nums s).length : Int) := if_pos hc
  have hn := V3.n_le hd
  have hroom : ((nums s).length : Int) ≤ d.n := by
    have h := nodup_sub_len (nums s) ((List.range d.n.toNat).map (fun (j : Nat) => (j : Int))) (nums_nodup s) (fun x hx => (mem_range_int (by omega)).2 (has_range hc hw (mem_nums_has hx)))
    rw [List.length_map, List.length_range] at h
    omega
  have h1 : topL (freeL d s) ≤ d.n - manyV d.n s := by
    rw [hm]
    refine topL_le (by omega) (fun b hb => ?_)
    obtain ⟨h1, h2⟩ := (mem_freeL hd).1 hb
    have := free_room hd hc hw h2
    rw [Bx.all_volG hd h1.1] at this
    omega
  refine ⟨h1, fun h0 => ?_, fun h => ?_⟩
  · rw [hm]
    have h := nodup_sub_len ((List.range d.n.toNat).map (fun (j : Nat) => (j : Int))) (nums s) (range_nodup _) (fun x hx => by
      obtain ⟨x0, x1⟩ := (mem_range_int (by omega)).1 hx
      cases hh : hasI s x with
      | true => exact has_nums hc hw hh
      | false =>
        exfalso
        have hu := unit_may hd x0 x1
        have hcl : clearS d s (unitB d x) = true := by
          unfold clearS
          rw [Bool.not_eq_true', List.any_eq_false]
          intro y hy
          rw [unit_all hd x0 x1 hy, hh]
          decide
        have := (topL_ge (freeL d s) 0).2 _ ((mem_freeL hd).2 ⟨hu, hcl⟩)
        have h2 : topL (freeL d s) = (freeL d s).foldl (fun m b => max m b.vol) 0 := rfl
        rw [← h2, h0] at this
        have h3 : (unitB d x).vol = 1 := by unfold unitB Bx.vol; simp
        omega)
    rw [List.length_map, List.length_range] at h
    omega
  · have := topL_nonneg (freeL d s)
    omega
/-- With more taken the largest one is no larger. -/
theorem top_less {d : V3} {s t : List Nat} (hd : d.may) (h : sChk2 d.n s t = 0) (fs : W64 s) (ft : W64 t) : sChk d.n (joinIf orW d.n s t) = 0 ∧ topL (freeL d (joinIf orW d.n s t)) ≤ topL (freeL d s) := by
  obtain ⟨h1, _, h2⟩ := or_may h fs ft
  refine ⟨h1, topL_le (topL_nonneg _) (fun b hb => ?_)⟩
  obtain ⟨c1, c2⟩ := (mem_freeL hd).1 hb
  refine (topL_ge (freeL d s) 0).2 b ((mem_freeL hd).2 ⟨c1, ?_⟩)
  unfold clearS at c2 ⊢
  rw [Bool.not_eq_true', List.any_eq_false] at c2 ⊢
  intro x hx hh
  have hx0 := (Bx.mem_all.1 hx).1.1
  obtain ⟨k, rfl⟩ := Int.eq_ofNat_of_zero_le hx0
  refine c2 _ hx ?_
  rw [hasI_nat] at hh
  rw [hasI_nat, h2, hh]
  rfl
/-- With nothing taken the whole machine is the only one that lies in no other. -/
theorem most_none {d : V3} {s : List Nat} (hd : d.may) (hs : ∀ i, there s i = false) : mostL d (freeL d s) = [⟨⟨0, 0, 0⟩, d⟩] := by
  have hh : ∀ x, hasI s x = false := fun x => by unfold hasI; rw [hs, Bool.and_false]
  have hcl : ∀ b, clearS d s b = true := fun b => by
    unfold clearS
    rw [Bool.not_eq_true', List.any_eq_false]
    intro x _
    rw [hh]; decide
  have hd' := hd
  obtain ⟨⟨x1, x2⟩, ⟨y1, y2⟩, ⟨z1, z2⟩⟩ := hd'
  have hW : (⟨⟨0, 0, 0⟩, d⟩ : Bx).isC d := by
    refine ⟨⟨⟨⟨x1, Int.le_refl _⟩, by show (0 : Int) ≤ 0; omega, by show 0 < d.x; omega⟩, ⟨⟨y1, Int.le_refl _⟩, by show (0 : Int) ≤ 0; omega, by show 0 < d.y; omega⟩, ⟨⟨z1, Int.le_refl _⟩, by show (0 : Int) ≤ 0; omega, by show 0 < d.z; omega⟩⟩, ?_⟩
    unfold Bx.can
    simp
  have hin : ∀ b : Bx, b.may d → boxWithin d b ⟨⟨0, 0, 0⟩, d⟩ = true := fun b hb => (within_in hd hb hW.1).2 ⟨.inl rfl, .inl rfl, .inl rfl⟩
  have hmem : (⟨⟨0, 0, 0⟩, d⟩ : Bx) ∈ freeL d s := (mem_freeL hd).2 ⟨hW, hcl _⟩
  have hall : ∀ b ∈ mostL d (freeL d s), b = ⟨⟨0, 0, 0⟩, d⟩ := fun b hb => by
    obtain ⟨h1, h2⟩ := mem_mostL.1 hb
    exact h2 _ hmem (hin b ((mem_freeL hd).1 h1).1.1)
  obtain ⟨c, hc, _⟩ := most_of hd hmem
  have hN : (mostL d (freeL d s)).Nodup := List.Pairwise.filter _ (freeL_nodup hd s)
  generalize mostL d (freeL d s) = l at *
  match l, hN, hall, hc with
  | [], _, _, hc => cases hc
  | [x], _, hall, _ => rw [hall x (List.mem_cons_self ..)]
  | x :: y :: l, hN, hall, _ =>
    exfalso
    have e1 := hall x (List.mem_cons_self ..)
    have e2 := hall y (List.mem_cons_of_mem _ (List.mem_cons_self ..))
    rw [List.nodup_cons] at hN
    exact hN.1 (by rw [e1, ← e2]; exact List.mem_cons_self ..)
theorem none_set {n : Int} (hm : nMay n) : ofErr n [] = 0 ∧ sChk n (ofSet n []) = 0 ∧ ∀ i, there (ofSet n []) i = false := by
  have he : ofErr n [] = 0 := by unfold ofErr; rw [if_pos hm, if_neg (by simp)]; rfl
  have hs : ofSet n [] = bitsOf (nWords n) [] := by unfold ofSet; rw [if_pos he]
  have ht : ∀ i, there (ofSet n []) i = false := fun i => by rw [hs, there_bitsOf (fun x hx => by cases hx)]; simp
  refine ⟨he, ?_, ht⟩
  rw [hs]
  exact sChk_of hm (bitsOf_len _ _) (bitsOf_fit _ _) (fun i _ => by rw [there_bitsOf (fun x hx => by cases hx)]; simp)
theorem ofSet_fit (n : Int) (l : List Int) : W64 (ofSet n l) := by
  unfold ofSet
  by_cases h : ofErr n l = 0
  · rw [if_pos h]; exact bitsOf_fit _ _
  · rw [if_neg h]; intro x hx; cases hx
end
end Go.Proofs.Ytofoenlhbmammaa
