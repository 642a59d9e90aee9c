/- SCORE, THE PLAIN LAW: open sides, both ways; toward two sets. -/
import Derived.Test.YthabpiphfaedaaaDoorQ0WireLaw
import Derived.Test.YthabpiphfaedaaaDoorQ0SetHasP
namespace Go.Proofs.YthabpiphfaedaaaDoor

section
section
open Go.RowKit Go.Shelf

/-! ### a step and a step back -/
theorem V3.st_in {d : V3} {m : Int} {k : Nat} (hd : d.may) (h0 : 0 ≤ m) (h1 : m < d.n) (hk : k < 3) (b : Int) : 0 ≤ d.step m k b ∧ d.step m k b < d.n := V3.num_lt hd (V3.stepped_inside hd h0 h1 hk b)
theorem V3.num_pos' {d : V3} {m : Int} : d.num (d.pos m) = m := by
  unfold V3.num V3.pos
  have h1 := Int.emod_add_mul_ediv (m / d.x) d.y
  have h2 := Int.emod_add_mul_ediv m d.x
  show m % d.x + d.x * (m / d.x % d.y + d.y * (m / d.x / d.y)) = m
  rw [h1, h2]
theorem mod_back {p n b : Int} (h0 : 0 ≤ p) (h1 : p < n) : ((p + b) % n + -b) % n = p := by
  rw [Int.emod_add_emod, show p + b + -b = p by omega, Int.emod_eq_of_lt h0 h1]
theorem V3.st_back {d : V3} {m : Int} {k : Nat} (hd : d.may) (h0 : 0 ≤ m) (h1 : m < d.n) (hk : k < 3) (b : Int) : d.step (d.step m k b) k (-b) = m := by
  have hp : d.pos (d.step m k b) = d.stepped m k b := V3.pos_num hd (V3.stepped_inside hd h0 h1 hk b)
  obtain ⟨px, py, pz⟩ := V3.pos_inside hd h0 h1
  have e : d.stepped (d.step m k b) k (-b) = d.pos m := by
    show (d.pos (d.step m k b)).put k (((d.pos (d.step m k b)).at k + -b) % d.at k) = d.pos m
    rw [hp]
    unfold V3.stepped V3.put
    generalize d.pos m = p at *
    obtain ⟨x, y, z⟩ := p
    match k, hk with
    | 0, _ => show V3.mk (((x + b) % d.x + -b) % d.x) y z = _; rw [mod_back px.1 px.2]
    | 1, _ => show V3.mk x (((y + b) % d.y + -b) % d.y) z = _; rw [mod_back py.1 py.2]
    | 2, _ => show V3.mk x y (((z + b) % d.z + -b) % d.z) = _; rw [mod_back pz.1 pz.2]
  show d.num (d.stepped (d.step m k b) k (-b)) = m
  rw [e, V3.num_pos']
/-! ### sums -/
def sumTo (n : Nat) (f : Nat → Nat) : Nat := ((List.range n).map f).sum
theorem sumTo_succ (n : Nat) (f : Nat → Nat) : sumTo (n + 1) f = sumTo n f + f n := by unfold sumTo; rw [List.range_succ, List.map_append, List.sum_append]; simp
theorem sumTo_eq {n : Nat} {f g : Nat → Nat} (h : ∀ i, i < n → f i = g i) : sumTo n f = sumTo n g := by
  unfold sumTo
  congr 1
  exact List.map_congr_left (fun i hi => h i (List.mem_range.1 hi))
theorem sumTo_add (n : Nat) (f g : Nat → Nat) : sumTo n (fun i => f i + g i) = sumTo n f + sumTo n g := by
  induction n with
  | zero => rfl
  | succ n ih => rw [sumTo_succ, sumTo_succ, sumTo_succ, ih]; omega
theorem sumTo_le {n : Nat} {f g : Nat → Nat} (h : ∀ i, i < n → f i ≤ g i) : sumTo n f ≤ sumTo n g := by
  induction n with
  | zero => exact Nat.le_refl _
  | succ n ih => rw [sumTo_succ, sumTo_succ]; have := ih (fun i hi => h i (by omega)); have := h n (by omega); omega
theorem perm_map {n : Nat} {f g : Nat → Nat} (hf : ∀ i, i < n → f i < n) (hg : ∀ i, i < n → g i < n) (h1 : ∀ i, i < n → g (f i) = i) (h2 : ∀ i, i < n → f (g i) = i) : ((List.range n).map f).Perm (List.range n) := by
  refine (List.perm_ext_iff_of_nodup ?_ List.nodup_range).2 fun x => ?_
  · refine List.pairwise_map.2 (List.nodup_range.imp_of_mem fun {a b} ha hb hne e => hne ?_)
    rw [← h1 a (List.mem_range.1 ha), ← h1 b (List.mem_range.1 hb), e]
  · rw [List.mem_map, List.mem_range]
    constructor
    · rintro ⟨i, hi, rfl⟩; exact hf i (List.mem_range.1 hi)
    · intro hx; exact ⟨g x, List.mem_range.2 (hg x hx), h2 x hx⟩
theorem sumTo_turn {n : Nat} {f g : Nat → Nat} (F : Nat → Nat → Nat) (hf : ∀ i, i < n → f i < n) (hg : ∀ i, i < n → g i < n) (h1 : ∀ i, i < n → g (f i) = i) (h2 : ∀ i, i < n → f (g i) = i) :
    sumTo n (fun i => F i (f i)) = sumTo n (fun j => F (g j) j) := by
  have h3 : sumTo n (fun i => F i (f i)) = (((List.range n).map f).map (fun j => F (g j) j)).sum := by
    unfold sumTo
    rw [List.map_map]
    congr 1
    exact List.map_congr_left (fun i hi => by show F i (f i) = F (g (f i)) (f i); rw [h1 i (List.mem_range.1 hi)])
  rw [h3]
  exact ((perm_map hf hg h1 h2).map _).sum_nat
/-! ### open sides -/
/-- Along one axis, one way. -/
def sideN (d : V3) (k : Nat) (b : Int) (i : Nat) : Nat := (d.step i k b).toNat
def both (x y : Bool) : Nat := if x && y then 1 else 0
/-- How many of a set's midplanes have a neighbour of another one's along an axis, one way. -/
def openK (d : V3) (p q : Nat → Bool) (k : Nat) (b : Int) : Nat := if d.at k = 1 then 0 else sumTo d.n.toNat (fun i => both (p i) (q (sideN d k b i)))
def openB (d : V3) (p q : Nat → Bool) : Nat := (openK d p q 0 1 + openK d p q 0 (-1)) + (openK d p q 1 1 + openK d p q 1 (-1)) + (openK d p q 2 1 + openK d p q 2 (-1))
theorem both_comm (x y : Bool) : both x y = both y x := by unfold both; rw [Bool.and_comm]
theorem sideN_in {d : V3} {k i : Nat} {b : Int} (hd : d.may) (hk : k < 3) (hi : i < d.n.toNat) : sideN d k b i < d.n.toNat := by
  have := V3.st_in hd (m := i) (by omega) (by omega) hk b
  unfold sideN
  omega
theorem sideN_back {d : V3} {k i : Nat} {b : Int} (hd : d.may) (hk : k < 3) (hi : i < d.n.toNat) : sideN d k (-b) (sideN d k b i) = i := by
  have h1 := V3.st_in hd (m := i) (by omega) (by omega) hk b
  have h2 := V3.st_back hd (m := i) (by omega) (by omega) hk b
  unfold sideN
  rw [show ((d.step i k b).toNat : Int) = d.step i k b by omega, h2]
  omega
theorem openK_turn {d : V3} (hd : d.may) (p q : Nat → Bool) {k : Nat} (hk : k < 3) (b : Int) : openK d p q k b = openK d q p k (-b) := by
  unfold openK
  split
  · rfl
  · rw [sumTo_turn (g := sideN d k (-b)) (fun i j => both (p i) (q j)) (fun i hi => sideN_in hd hk hi) (fun i hi => sideN_in hd hk hi) (fun i hi => sideN_back hd hk hi) (fun i hi => by have := sideN_back (b := -b) hd hk hi; rwa [Int.neg_neg] at this)]
    exact sumTo_eq (fun i _ => both_comm _ _)
theorem openB_turn {d : V3} (hd : d.may) (p q : Nat → Bool) : openB d p q = openB d q p := by
  unfold openB
  rw [openK_turn hd p q (show 0 < 3 by omega) 1, openK_turn hd p q (show 0 < 3 by omega) (-1), openK_turn hd p q (show 1 < 3 by omega) 1, openK_turn hd p q (show 1 < 3 by omega) (-1), openK_turn hd p q (show 2 < 3 by omega) 1, openK_turn hd p q (show 2 < 3 by omega) (-1)]
  simp only [Int.neg_neg]
  omega
theorem openK_or (d : V3) (p q r s : Nat → Bool) (k : Nat) (b : Int) (h : ∀ i, s i = (q i || r i)) : openK d p s k b ≤ openK d p q k b + openK d p r k b := by
  unfold openK
  split
  · omega
  · rw [← sumTo_add]
    refine sumTo_le (fun i _ => ?_)
    rw [h]
    unfold both
    cases p i <;> cases q (sideN d k b i) <;> cases r (sideN d k b i) <;> decide
theorem openK_apart (d : V3) (p q r s : Nat → Bool) (k : Nat) (b : Int) (h : ∀ i, s i = (q i || r i)) (ha : ∀ i, (q i && r i) = false) : openK d p s k b = openK d p q k b + openK d p r k b := by
  unfold openK
  split
  · rfl
  · rw [← sumTo_add]
    refine sumTo_eq (fun i _ => ?_)
    rw [h]
    have := ha (sideN d k b i)
    unfold both
    revert this
    cases p i <;> cases q (sideN d k b i) <;> cases r (sideN d k b i) <;> decide
theorem openB_or (d : V3) (p q r s : Nat → Bool) (h : ∀ i, s i = (q i || r i)) : openB d p s ≤ openB d p q + openB d p r := by
  unfold openB
  have h0 := openK_or d p q r s 0 1 h
  have h1 := openK_or d p q r s 0 (-1) h
  have h2 := openK_or d p q r s 1 1 h
  have h3 := openK_or d p q r s 1 (-1) h
  have h4 := openK_or d p q r s 2 1 h
  have h5 := openK_or d p q r s 2 (-1) h
  omega
theorem openB_apart (d : V3) (p q r s : Nat → Bool) (h : ∀ i, s i = (q i || r i)) (ha : ∀ i, (q i && r i) = false) : openB d p s = openB d p q + openB d p r := by
  unfold openB
  rw [openK_apart d p q r s 0 1 h ha, openK_apart d p q r s 0 (-1) h ha, openK_apart d p q r s 1 1 h ha, openK_apart d p q r s 1 (-1) h ha, openK_apart d p q r s 2 1 h ha, openK_apart d p q r s 2 (-1) h ha]
  omega
theorem openK_none (d : V3) (p q : Nat → Bool) (k : Nat) (b : Int) (h : ∀ i, q i = false) : openK d p q k b = 0 := by
  unfold openK
  split
  · rfl
  · have : sumTo d.n.toNat (fun i => both (p i) (q (sideN d k b i))) = sumTo d.n.toNat (fun _ => 0) := sumTo_eq (fun i _ => by rw [h]; unfold both; rw [Bool.and_false]; rfl)
    rw [this]
    generalize d.n.toNat = n
    induction n with
    | zero => rfl
    | succ n ih => rw [sumTo_succ, ih]
theorem openB_none (d : V3) (p q : Nat → Bool) (h : ∀ i, q i = false) : openB d p q = 0 := by
  unfold openB
  rw [openK_none d p q 0 1 h, openK_none d p q 0 (-1) h, openK_none d p q 1 1 h, openK_none d p q 1 (-1) h, openK_none d p q 2 1 h, openK_none d p q 2 (-1) h]
/-! ### as the program counts: one midplane after another, one side after another -/
/-- The sides of a midplane. -/
def sidesOf (d : V3) (m : Int) (k : Nat) : List Int := if d.at k = 1 then [] else [d.step m k 1, d.step m k (-1)]
def sidesV (d : V3) (m : Int) : List Int := sidesOf d m 0 ++ (sidesOf d m 1 ++ sidesOf d m 2)
def hits (b : List Nat) (l : List Int) : Nat := l.countP (hasI b)
def openTo (d : V3) (b : List Nat) (l : List Int) : Nat := (l.map (fun m => hits b (sidesV d m))).sum
theorem openTo_snoc (d : V3) (b : List Nat) (l : List Int) (m : Int) : openTo d b (l ++ [m]) = openTo d b l + hits b (sidesV d m) := by unfold openTo; rw [List.map_append, List.sum_append]; simp
theorem hits_snoc (b : List Nat) (l : List Int) (x : Int) : hits b (l ++ [x]) = hits b l + (if hasI b x then 1 else 0) := by unfold hits; rw [List.countP_append]; simp [List.countP_cons]
theorem hits_one {d : V3} {b : List Nat} {i : Nat} (hd : d.may) (hi : i < d.n.toNat) : hits b (sidesV d i) =
    ((if d.at 0 = 1 then 0 else both true (there b (sideN d 0 1 i)) + both true (there b (sideN d 0 (-1) i))) +
     (if d.at 1 = 1 then 0 else both true (there b (sideN d 1 1 i)) + both true (there b (sideN d 1 (-1) i)))) +
     (if d.at 2 = 1 then 0 else both true (there b (sideN d 2 1 i)) + both true (there b (sideN d 2 (-1) i))) := by
  have hh : ∀ (k : Nat) (c : Int), k < 3 → hasI b (d.step i k c) = there b (sideN d k c i) := fun k c hk => by
    have := V3.st_in hd (m := i) (by omega) (by omega) hk c
    unfold hasI sideN
    rw [decide_eq_true this.1, Bool.true_and]
  have hk : ∀ k, k < 3 → hits b (sidesOf d i k) = (if d.at k = 1 then 0 else both true (there b (sideN d k 1 i)) + both true (there b (sideN d k (-1) i))) := fun k hk => by
    unfold sidesOf hits
    split
    · rfl
    · simp only [List.countP_cons, List.countP_nil, hh k _ hk]
      unfold both
      simp only [Bool.true_and]
      omega
  unfold sidesV
  have : ∀ l l' : List Int, hits b (l ++ l') = hits b l + hits b l' := fun l l' => by unfold hits; rw [List.countP_append]
  rw [this, this, hk 0 (by omega), hk 1 (by omega), hk 2 (by omega)]
  omega
theorem openTo_all {d : V3} {a b : List Nat} (hd : d.may) (ha : ∀ i, there a i = true → i < d.n.toNat ∧ i < 64 * a.length) : openTo d b (nums a) = openB d (there a) (there b) := by
  have h1 : openTo d b (nums a) = sumTo d.n.toNat (fun i => if there a i then hits b (sidesV d i) else 0) := by
    have hg : ∀ n, (∀ i, there a i = true → i < n → i < d.n.toNat) → openTo d b (numsTo a n) = sumTo n (fun i => if there a i then hits b (sidesV d i) else 0) := fun n => by
      induction n with
      | zero => intro _; rfl
      | succ n ih =>
        intro h
        rw [sumTo_succ, numsTo_succ, ← ih (fun i hi hl => h i hi (by omega))]
        split
        · rw [openTo_snoc]
        · rfl
    have hx : ∀ n m, n ≤ m → (∀ i, there a i = true → i < n) → sumTo m (fun i => if there a i then hits b (sidesV d i) else 0) = sumTo n (fun i => if there a i then hits b (sidesV d i) else 0) := fun n m hnm h => by
      induction m with
      | zero => rw [show n = 0 by omega]
      | succ m ih =>
        by_cases e : n = m + 1
        · rw [e]
        · rw [sumTo_succ, ih (by omega)]
          have : there a m = false := by
            cases ht : there a m with
            | false => rfl
            | true => have := h m ht; omega
          rw [this]; rfl
    have h64 := hg (64 * a.length) (fun i hi _ => (ha i hi).1)
    unfold nums
    rw [h64]
    by_cases hle : d.n.toNat ≤ 64 * a.length
    · exact hx _ _ hle (fun i hi => (ha i hi).1)
    · exact (hx _ _ (by omega) (fun i hi => (ha i hi).2)).symm
  rw [h1]
  have h2 : ∀ i, i < d.n.toNat → (if there a i then hits b (sidesV d i) else 0) =
      (((if d.at 0 = 1 then 0 else both (there a i) (there b (sideN d 0 1 i))) + (if d.at 0 = 1 then 0 else both (there a i) (there b (sideN d 0 (-1) i)))) +
       ((if d.at 1 = 1 then 0 else both (there a i) (there b (sideN d 1 1 i))) + (if d.at 1 = 1 then 0 else both (there a i) (there b (sideN d 1 (-1) i))))) +
       ((if d.at 2 = 1 then 0 else both (there a i) (there b (sideN d 2 1 i))) + (if d.at 2 = 1 then 0 else both (there a i) (there b (sideN d 2 (-1) i)))) := fun i hi => by
    rw [hits_one hd hi]
    have hz : ∀ x, both false x = 0 := fun x => rfl
    cases there a i
    · simp only [hz, ite_self]; rfl
    · simp only [if_true]
      split <;> split <;> split <;> omega
  rw [sumTo_eq h2, sumTo_add, sumTo_add, sumTo_add, sumTo_add, sumTo_add]
  have h3 : ∀ (k : Nat) (c : Int), sumTo d.n.toNat (fun i => if d.at k = 1 then 0 else both (there a i) (there b (sideN d k c i))) = openK d (there a) (there b) k c := fun k c => by
    unfold openK
    split
    · generalize d.n.toNat = n
      induction n with
      | zero => rfl
      | succ n ih => rw [sumTo_succ, ih]
    · rfl
  rw [h3, h3, h3, h3, h3, h3]
  rfl
end

section
open Go.RowKit Go.Shelf

def openE (d : V3) (a b : List Nat) : Int := if d.may then (if sChk d.n a = 0 then (if sChk d.n b = 0 then 0 else 8) else 8) else 8
def openV (d : V3) (a b : List Nat) : Int := if openE d a b = 0 then (openTo d b (nums a) : Int) else 0
theorem openE_0 {d : V3} {a b : List Nat} (h : openE d a b = 0) : d.may ∧ sChk d.n a = 0 ∧ sChk d.n b = 0 := by
  unfold openE at h
  split at h
  · next h1 =>
    split at h
    · next h2 =>
      split at h
      · next h3 => exact ⟨h1, h2, h3⟩
      · omega
    · omega
  · omega
theorem openE_of {d : V3} {a b : List Nat} (h : d.may) (ha : sChk d.n a = 0) (hb : sChk d.n b = 0) : openE d a b = 0 := by unfold openE; rw [if_pos h, if_pos ha, if_pos hb]
theorem openE_08 (d : V3) (a b : List Nat) : openE d a b = 0 ∨ openE d a b = 8 := by
  unfold openE
  split
  · split
    · split <;> simp
    · simp
  · simp
theorem openE_comm (d : V3) (a b : List Nat) : openE d a b = openE d b a := by
  rcases openE_08 d a b with h | h
  · obtain ⟨h1, h2, h3⟩ := openE_0 h
    rw [h, openE_of h1 h3 h2]
  · rcases openE_08 d b a with h' | h'
    · obtain ⟨h1, h2, h3⟩ := openE_0 h'
      rw [openE_of h1 h3 h2] at h
      omega
    · rw [h, h']
theorem set_in {n : Int} {a : List Nat} (h : sChk n a = 0) (fa : W64 a) : ∀ i, there a i = true → i < n.toNat ∧ i < 64 * a.length := fun i hi => by
  constructor
  · rcases Nat.lt_or_ge i n.toNat with h1 | h1
    · exact h1
    · rw [topOut h fa h1] at hi; cases hi
  · rcases Nat.lt_or_ge i (64 * a.length) with h1 | h1
    · exact h1
    · rw [there_far (by omega)] at hi; cases hi
theorem openV_bits {d : V3} {a b : List Nat} (h : openE d a b = 0) (fa : W64 a) : openV d a b = openB d (there a) (there b) := by
  obtain ⟨h1, h2, h3⟩ := openE_0 h
  unfold openV
  rw [if_pos h, openTo_all h1 (set_in h2 fa)]
theorem openV_comm {d : V3} {a b : List Nat} (fa : W64 a) (fb : W64 b) : openV d a b = openV d b a := by
  rcases openE_08 d a b with h | h
  · have h' := h
    rw [openE_comm] at h'
    rw [openV_bits h fa, openV_bits h' fb, openB_turn (openE_0 h).1]
  · unfold openV
    rw [openE_comm d b a, h]
    rfl
/-- Toward two sets. -/
theorem open_two {d : V3} {a b c : List Nat} (fa : W64 a) (fb : W64 b) (fc : W64 c) (h1 : openE d a b = 0) (h2 : openE d a c = 0) :
    sChk d.n (joinIf orW d.n b c) = 0 ∧ openE d a (joinIf orW d.n b c) = 0 ∧ openV d a (joinIf orW d.n b c) ≤ openV d a b + openV d a c ∧
      (anyNZ (joinIf andW d.n b c) = false → openV d a (joinIf orW d.n b c) = openV d a b + openV d a c) := by
  obtain ⟨hd, ha, hb⟩ := openE_0 h1
  obtain ⟨_, _, hc⟩ := openE_0 h2
  have ho := or_may (sChk2_of hb hc) fb fc
  have hn := and_may (sChk2_of hb hc) fb fc
  have hE := openE_of hd ha ho.1
  refine ⟨ho.1, hE, ?_, fun hz => ?_⟩
  · rw [openV_bits hE fa, openV_bits h1 fa, openV_bits h2 fa]
    have := openB_or d (there a) (there b) (there c) (there (joinIf orW d.n b c)) ho.2.2
    omega
  · rw [openV_bits hE fa, openV_bits h1 fa, openV_bits h2 fa]
    have := openB_apart d (there a) (there b) (there c) (there (joinIf orW d.n b c)) ho.2.2 (fun i => by
      cases hi : (there b i && there c i) with
      | false => rfl
      | true =>
        have h3 : there (joinIf andW d.n b c) i = true := by rw [hn.2.2]; exact hi
        have h4 : anyNZ (joinIf andW d.n b c) = true := (anyNZ_at (joinIf_fit andW_fit fb fc)).2 ⟨i, (set_in hn.1 (joinIf_fit andW_fit fb fc) i h3).2, h3⟩
        rw [hz] at h4
        cases h4)
    omega
/-- Toward nothing. -/
theorem open_none {d : V3} {a : List Nat} (fa : W64 a) (hd : d.may) (ha : sChk d.n a = 0) : ofErr d.n [] = 0 ∧ sChk d.n (ofSet d.n []) = 0 ∧ openE d a (ofSet d.n []) = 0 ∧ openV d a (ofSet d.n []) = 0 := by
  have hm : nMay d.n := by
    have h := ha
    unfold sChk at h
    split at h
    · assumption
    · omega
  have he : ofErr d.n [] = 0 := by unfold ofErr; rw [if_pos hm, if_neg (by simp)]; rfl
  have hs : ofSet d.n [] = bitsOf (nWords d.n) [] := by unfold ofSet; rw [if_pos he]
  have ht : ∀ i, there (ofSet d.n []) i = false := fun i => by rw [hs, there_bitsOf (fun x hx => by cases hx)]; simp
  have hc : sChk d.n (ofSet d.n []) = 0 := by
    rw [hs]
    exact sChk_of hm (bitsOf_len _ _) (bitsOf_fit _ _) (fun i _ => by rw [there_bitsOf (fun x hx => by cases hx)]; simp)
  have hE := openE_of hd ha hc
  refine ⟨he, hc, hE, ?_⟩
  rw [openV_bits hE fa, openB_none d (there a) _ ht]
  rfl
end
end
end Go.Proofs.YthabpiphfaedaaaDoor
