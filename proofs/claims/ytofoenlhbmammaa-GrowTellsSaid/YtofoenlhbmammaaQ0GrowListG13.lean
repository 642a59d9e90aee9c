/- GROW, THE PLAIN LAW: the lists: all canonical boxes, those free of a set, those in no other one; the largest. -/
import Derived.Test.YtofoenlhbmammaaQ0GrowLawG13
set_option linter.unusedVariables false
set_option linter.unusedSimpArgs false
namespace Go.Proofs.Ytofoenlhbmammaa

section
open Go.RowKit Go.Shelf

def szB (d : V3) (m i : Nat) : Bx := ⟨d.pos m, ⟨1 + (i : Int) / (d.y * d.z), 1 + (i : Int) / d.z % d.y, 1 + (i : Int) % d.z⟩⟩
def canB (d : V3) (b : Bx) : Bool := decide (b.can d = b)
def boxesOf (d : V3) (m k : Nat) : List Bx := ((List.range k).map (szB d m)).filter (canB d)
def boxesTo (d : V3) (k : Nat) : List Bx := (List.range k).flatMap (fun m => boxesOf d m d.n.toNat)
def allBx (d : V3) : List Bx := boxesTo d d.n.toNat
theorem boxesOf_succ (d : V3) (m k : Nat) : boxesOf d m (k + 1) = boxesOf d m k ++ (if canB d (szB d m k) then [szB d m k] else []) := by
  unfold boxesOf
  rw [List.range_succ, List.map_append, List.filter_append]
  congr 1
  cases h : canB d (szB d m k) <;> simp [h]
theorem boxesTo_succ (d : V3) (k : Nat) : boxesTo d (k + 1) = boxesTo d k ++ boxesOf d k d.n.toNat := by
  unfold boxesTo; rw [List.range_succ, List.flatMap_append]; simp
theorem szB_may {d : V3} {m i : Nat} (hd : d.may) (hm : (m : Int) < d.n) (hi : (i : Int) < d.n) : (szB d m i).may d := by
  obtain ⟨px, py, pz⟩ := V3.pos_inside hd (Int.natCast_nonneg m) hm
  have hd' := hd
  obtain ⟨⟨x1, x2⟩, ⟨y1, y2⟩, ⟨z1, z2⟩⟩ := hd'
  have hyz : 0 < d.y * d.z := Int.mul_pos (by omega) (by omega)
  have e1 : 0 ≤ (i : Int) / (d.y * d.z) := Int.ediv_nonneg (by omega) (by omega)
  have e2 : (i : Int) / (d.y * d.z) < d.x := by
    rw [Int.ediv_lt_iff_lt_mul hyz, ← Int.mul_assoc]
    exact hi
  have e3 : 0 ≤ (i : Int) / d.z % d.y := Int.emod_nonneg _ (by omega)
  have e4 : (i : Int) / d.z % d.y < d.y := Int.emod_lt_of_pos _ (by omega)
  have e5 : 0 ≤ (i : Int) % d.z := Int.emod_nonneg _ (by omega)
  have e6 : (i : Int) % d.z < d.z := Int.emod_lt_of_pos _ (by omega)
  exact ⟨⟨⟨by show 1 ≤ 1 + _; omega, by show 1 + _ ≤ _; omega⟩, px⟩, ⟨⟨by show 1 ≤ 1 + _; omega, by show 1 + _ ≤ _; omega⟩, py⟩, ⟨⟨by show 1 ≤ 1 + _; omega, by show 1 + _ ≤ _; omega⟩, pz⟩⟩
/-- The place of a size. -/
def szI (d : V3) (s : V3) : Int := ((s.x - 1) * d.y + (s.y - 1)) * d.z + (s.z - 1)
theorem szI_lt {d s : V3} (hd : d.may) (hx : 1 ≤ s.x ∧ s.x ≤ d.x) (hy : 1 ≤ s.y ∧ s.y ≤ d.y) (hz : 1 ≤ s.z ∧ s.z ≤ d.z) : 0 ≤ szI d s ∧ szI d s < d.n ∧ szI d s / (d.y * d.z) = s.x - 1 ∧ szI d s / d.z % d.y = s.y - 1 ∧ szI d s % d.z = s.z - 1 := by
  obtain ⟨⟨x1, x2⟩, ⟨y1, y2⟩, ⟨z1, z2⟩⟩ := hd
  have a0 : 0 ≤ (s.x - 1) * d.y := Int.mul_nonneg (by omega) (by omega)
  have a1 : 0 ≤ ((s.x - 1) * d.y + (s.y - 1)) * d.z := Int.mul_nonneg (by omega) (by omega)
  have q1 : szI d s / d.z = (s.x - 1) * d.y + (s.y - 1) := by
    unfold szI
    rw [Int.add_comm, Int.add_mul_ediv_right _ _ (by omega : d.z ≠ 0), Int.ediv_eq_zero_of_lt (by omega) (by omega)]
    omega
  have q2 : szI d s % d.z = s.z - 1 := by
    unfold szI
    rw [Int.add_comm, Int.add_mul_emod_self_right, Int.emod_eq_of_lt (by omega) (by omega)]
  have q3 : szI d s / (d.y * d.z) = s.x - 1 := by
    rw [Int.mul_comm d.y d.z, ← Int.ediv_ediv_of_nonneg (by omega : 0 ≤ d.z), q1, Int.add_comm, Int.add_mul_ediv_right _ _ (by omega : d.y ≠ 0), Int.ediv_eq_zero_of_lt (by omega) (by omega)]
    omega
  have q4 : szI d s / d.z % d.y = s.y - 1 := by
    rw [q1, Int.add_comm, Int.add_mul_emod_self_right, Int.emod_eq_of_lt (by omega) (by omega)]
  have h0 : 0 ≤ szI d s := by unfold szI; omega
  refine ⟨h0, ?_, q3, q4, q2⟩
  have hyz : 0 < d.y * d.z := Int.mul_pos (by omega) (by omega)
  have : szI d s / (d.y * d.z) < d.x := by omega
  rw [Int.ediv_lt_iff_lt_mul hyz, ← Int.mul_assoc] at this
  exact this
theorem mem_allBx {d : V3} {b : Bx} (hd : d.may) : b ∈ allBx d ↔ b.isC d := by
  have hn := V3.n_le hd
  unfold allBx boxesTo boxesOf
  simp only [List.mem_flatMap, List.mem_filter, List.mem_map, List.mem_range]
  constructor
  · rintro ⟨m, hm, ⟨i, hi, rfl⟩, hc⟩
    exact ⟨szB_may hd (by omega) (by omega), of_decide_eq_true hc⟩
  · rintro ⟨hb, hc⟩
    have hb' := hb
    obtain ⟨⟨sx, bx⟩, ⟨sy, by'⟩, ⟨sz, bz⟩⟩ := hb'
    have hp : d.inside b.b := ⟨bx, by', bz⟩
    have hr := V3.num_lt hd hp
    obtain ⟨i0, i1, i2, i3, i4⟩ := szI_lt hd sx sy sz
    refine ⟨(d.num b.b).toNat, by omega, ⟨(szI d b.s).toNat, by omega, ?_⟩, decide_eq_true hc⟩
    unfold szB
    rw [Int.toNat_of_nonneg hr.1, Int.toNat_of_nonneg i0, V3.pos_num hd hp, i2, i3, i4]
    show Bx.mk b.b ⟨1 + (b.s.x - 1), 1 + (b.s.y - 1), 1 + (b.s.z - 1)⟩ = b
    rw [show 1 + (b.s.x - 1) = b.s.x by omega, show 1 + (b.s.y - 1) = b.s.y by omega, show 1 + (b.s.z - 1) = b.s.z by omega]
theorem szB_one {d : V3} {m m' i i' : Nat} (hd : d.may) (hm : (m : Int) < d.n) (hm' : (m' : Int) < d.n) (h : szB d m i = szB d m' i') : m = m' ∧ i = i' := by
  unfold szB at h
  simp only [Bx.mk.injEq, V3.mk.injEq] at h
  obtain ⟨h1, h2, h3, h4⟩ := h
  have e1 : d.num (d.pos m) = d.num (d.pos m') := by rw [h1]
  have q : ∀ x : Int, d.num (d.pos x) = x := fun x => by
    unfold V3.num V3.pos
    have h1 := Int.emod_add_mul_ediv (x / d.x) d.y
    have h2 := Int.emod_add_mul_ediv x d.x
    show x % d.x + d.x * (x / d.x % d.y + d.y * (x / d.x / d.y)) = x
    rw [h1, h2]
  rw [q, q] at e1
  refine ⟨by omega, ?_⟩
  obtain ⟨⟨x1, x2⟩, ⟨y1, y2⟩, ⟨z1, z2⟩⟩ := hd
  have r1 : (i : Int) / d.z / d.y = (i' : Int) / d.z / d.y := by
    rw [Int.ediv_ediv_of_nonneg (by omega : 0 ≤ d.z), Int.ediv_ediv_of_nonneg (by omega : 0 ≤ d.z), Int.mul_comm d.z d.y]; omega
  have k1 := Int.emod_add_mul_ediv ((i : Int) / d.z) d.y
  have k2 := Int.emod_add_mul_ediv ((i' : Int) / d.z) d.y
  have r2 : (i : Int) / d.z = (i' : Int) / d.z := by
    rw [← k1, ← k2, r1]; omega
  have k3 := Int.emod_add_mul_ediv (i : Int) d.z
  have k4 := Int.emod_add_mul_ediv (i' : Int) d.z
  have : (i : Int) = (i' : Int) := by rw [← k3, ← k4, r2]; omega
  omega
theorem nodup_map {α β : Type} {f : α → β} : ∀ {l : List α}, l.Nodup → (∀ x ∈ l, ∀ y ∈ l, f x = f y → x = y) → (l.map f).Nodup
  | [], _, _ => by simp
  | x :: l, h, hf => by
    rw [List.nodup_cons] at h
    rw [List.map_cons, List.nodup_cons]
    refine ⟨fun hm => ?_, nodup_map h.2 (fun a ha b hb => hf a (List.mem_cons_of_mem _ ha) b (List.mem_cons_of_mem _ hb))⟩
    obtain ⟨y, hy, e⟩ := List.mem_map.1 hm
    have := hf y (List.mem_cons_of_mem _ hy) x (List.mem_cons_self ..) e
    subst this
    exact h.1 hy
theorem nodup_flatMap {α β : Type} {f : α → List β} : ∀ {l : List α}, l.Nodup → (∀ x ∈ l, (f x).Nodup) → (∀ x ∈ l, ∀ y ∈ l, ∀ z, z ∈ f x → z ∈ f y → x = y) → (l.flatMap f).Nodup
  | [], _, _, _ => by simp
  | x :: l, h, h1, h2 => by
    rw [List.nodup_cons] at h
    rw [List.flatMap_cons, List.nodup_append]
    refine ⟨h1 x (List.mem_cons_self ..), nodup_flatMap h.2 (fun a ha => h1 a (List.mem_cons_of_mem _ ha)) (fun a ha b hb => h2 a (List.mem_cons_of_mem _ ha) b (List.mem_cons_of_mem _ hb)), fun z hz w hw e => ?_⟩
    subst e
    obtain ⟨y, hy, hzy⟩ := List.mem_flatMap.1 hw
    have := h2 x (List.mem_cons_self ..) y (List.mem_cons_of_mem _ hy) z hz hzy
    subst this
    exact h.1 hy
theorem allBx_nodup {d : V3} (hd : d.may) : (allBx d).Nodup := by
  have hn := V3.n_le hd
  unfold allBx boxesTo
  refine nodup_flatMap List.nodup_range (fun m hm => ?_) (fun m hm m' hm' z hz hz' => ?_)
  · unfold boxesOf
    have h1 := List.mem_range.1 hm
    exact List.Pairwise.filter _ (nodup_map List.nodup_range (fun i hi j hj e => (szB_one hd (by omega) (by omega) e).2))
  · have h1 := List.mem_range.1 hm
    have h2 := List.mem_range.1 hm'
    unfold boxesOf at hz hz'
    obtain ⟨i, _, rfl⟩ := List.mem_map.1 (List.mem_filter.1 hz).1
    obtain ⟨j, _, e⟩ := List.mem_map.1 (List.mem_filter.1 hz').1
    exact (szB_one hd (by omega) (by omega) e).1.symm
/-! ### free ones -/
def freeL (d : V3) (s : List Nat) : List Bx := (allBx d).filter (clearS d s)
def mostL (d : V3) (l : List Bx) : List Bx := l.filter (fun b => !l.any (fun c => boxWithin d b c && decide (b ≠ c)))
def topL (l : List Bx) : Int := l.foldl (fun m b => max m b.vol) 0
theorem mem_freeL {d : V3} {s : List Nat} {b : Bx} (hd : d.may) : b ∈ freeL d s ↔ b.isC d ∧ clearS d s b = true := by
  unfold freeL; rw [List.mem_filter, mem_allBx hd]
theorem freeL_nodup {d : V3} (hd : d.may) (s : List Nat) : (freeL d s).Nodup := List.Pairwise.filter _ (allBx_nodup hd)
theorem topL_snoc (l : List Bx) (b : Bx) : topL (l ++ [b]) = max (topL l) b.vol := by unfold topL; rw [List.foldl_append]; rfl
theorem topL_ge : ∀ (l : List Bx) (x : Int), (l.foldl (fun m b => max m b.vol) x ≥ x) ∧ ∀ b ∈ l, b.vol ≤ l.foldl (fun m b => max m b.vol) x
  | [], x => ⟨Int.le_refl _, fun b h => by cases h⟩
  | a :: l, x => by
    have h := topL_ge l (max x a.vol)
    rw [List.foldl_cons]
    refine ⟨by omega, fun b hb => ?_⟩
    rcases List.mem_cons.1 hb with rfl | hb
    · omega
    · exact h.2 b hb
theorem topL_at : ∀ (l : List Bx) (x : Int), l.foldl (fun m b => max m b.vol) x = x ∨ ∃ b ∈ l, b.vol = l.foldl (fun m b => max m b.vol) x
  | [], x => .inl rfl
  | a :: l, x => by
    rw [List.foldl_cons]
    rcases topL_at l (max x a.vol) with h | ⟨b, hb, h⟩
    · rw [h]
      by_cases hx : x ≤ a.vol
      · exact .inr ⟨a, List.mem_cons_self .., by omega⟩
      · exact .inl (by omega)
    · exact .inr ⟨b, List.mem_cons_of_mem _ hb, h⟩
theorem exists_top : ∀ {l : List Bx}, l ≠ [] → ∃ m ∈ l, ∀ x ∈ l, x.vol ≤ m.vol
  | [], h => absurd rfl h
  | [x], _ => ⟨x, List.mem_cons_self .., fun z hz => by simp at hz; rw [hz]; exact Int.le_refl _⟩
  | x :: y :: l, _ => by
    obtain ⟨m, h1, h2⟩ := exists_top (l := y :: l) (by simp)
    by_cases h : x.vol ≤ m.vol
    · exact ⟨m, List.mem_cons_of_mem _ h1, fun z hz => by
        rcases List.mem_cons.1 hz with e | e
        · rw [e]; exact h
        · exact h2 z e⟩
    · exact ⟨x, List.mem_cons_self .., fun z hz => by
        rcases List.mem_cons.1 hz with e | e
        · rw [e]; exact Int.le_refl _
        · have := h2 z e; omega⟩
theorem mem_mostL {d : V3} {l : List Bx} {b : Bx} : b ∈ mostL d l ↔ b ∈ l ∧ ∀ c ∈ l, boxWithin d b c = true → b = c := by
  unfold mostL
  rw [List.mem_filter]
  constructor
  · rintro ⟨h1, h2⟩
    refine ⟨h1, fun c hc hw => ?_⟩
    rw [Bool.not_eq_true', List.any_eq_false] at h2
    have := h2 c hc
    rw [hw, Bool.true_and, decide_eq_true_iff] at this
    exact Classical.not_not.1 this
  · rintro ⟨h1, h2⟩
    refine ⟨h1, ?_⟩
    rw [Bool.not_eq_true', List.any_eq_false]
    intro c hc h
    rw [Bool.and_eq_true, decide_eq_true_iff] at h
    exact h.2 (h2 c hc h.1)
theorem most_of {d : V3} {s : List Nat} (hd : d.may) {b : Bx} (hb : b ∈ freeL d s) : ∃ c ∈ mostL d (freeL d s), boxWithin d b c = true := by
  obtain ⟨hc, hf⟩ := (mem_freeL hd).1 hb
  have hself : boxWithin d b b = true := (within_in hd hc.1 hc.1).2 (in_refl hd hc.1)
  obtain ⟨m, hm, hmax⟩ := exists_top (l := (freeL d s).filter (fun c => boxWithin d b c)) (List.ne_nil_of_mem (List.mem_filter.2 ⟨hb, hself⟩))
  obtain ⟨hm1, hm2⟩ := List.mem_filter.1 hm
  obtain ⟨mc, mf⟩ := (mem_freeL hd).1 hm1
  refine ⟨m, mem_mostL.2 ⟨hm1, fun c hcl hw => ?_⟩, hm2⟩
  obtain ⟨cc, cf⟩ := (mem_freeL hd).1 hcl
  by_cases hne : m = c
  · exact hne
  exfalso
  have hin := (within_in hd mc.1 cc.1).1 hw
  have hlt := in_vol mc.1 cc.1 hin (in_ne mc cc hin hne)
  have h2 : boxWithin d b c = true := (within_in hd hc.1 cc.1).2 (in_trans hd hc.1 mc.1 cc.1 ((within_in hd hc.1 mc.1).1 hm2) hin)
  have := hmax c (List.mem_filter.2 ⟨hcl, h2⟩)
  omega
end
end Go.Proofs.Ytofoenlhbmammaa
