/- REF 14, THE PLAIN LAW: sides counted midplane by midplane; lists of truths. -/
import Derived.Test.YthabpiphfaedaaaDoorQ0ScoreD
namespace Go.Proofs.YthabpiphfaedaaaDoor

section
section
open Go.RowKit Go.Shelf

theorem openV_bits' {d : V3} {a b : List Nat} (hd : d.may) (ha : sChk d.n a = 0) (fa : W64 a) : ((openTo d b (nums a) : Nat) : Int) = openB d (there a) (there b) := by rw [openTo_all hd (set_in ha fa)]
theorem openB_left {d : V3} (hd : d.may) (p q r s : Nat → Bool) (h : ∀ i, s i = (q i || r i)) (ha : ∀ i, (q i && r i) = false) : openB d s p = openB d q p + openB d r p := by
  rw [openB_turn hd s p, openB_turn hd q p, openB_turn hd r p]
  exact openB_apart d p q r s h ha
structure SpreadFacts (d : V3) (A s T : List Nat) : Prop where
  chk : sChk d.n T = 0
  fit : W64 T
  len : T.length ≤ 192
  e1 : oneE d T = 0
  e2 : openE d A (othersV d.n T) = 0
  e3 : openE d A s = 0
  law : spreadV d T = spreadV d s + openV d A (othersV d.n T) - openV d A s
theorem spread_facts {d : V3} {p : Pl} {s : List Nat} (hp : plChk d p = 0) (hs : oneE d s = 0) (fs : W64 s) (hm : anyNZ (joinIf andW d.n (midsV d p) s) = false) : SpreadFacts d (midsV d p) s (joinIf orW d.n (midsV d p) s) := by
  have pf := pl_facts hp
  obtain ⟨hd, hc⟩ := oneE_0 hs
  have hn := V3.n_pos hd
  have fa := midsV_fit d p
  obtain ⟨t1, t2, t3⟩ := or_may (sChk2_of pf.mChk hc) fa fs
  have ft : W64 (joinIf orW d.n (midsV d p) s) := joinIf_fit orW_fit fa fs
  have oT := ot_facts hn t1 ft
  have oS := ot_facts hn hc fs
  have hap : ∀ i, (there (midsV d p) i && there s i) = false := fun i => by
    cases h1 : there (midsV d p) i && there s i with
    | false => rfl
    | true =>
      rw [Bool.and_eq_true] at h1
      have := (meet_iff pf.mChk hc fa fs).2 ⟨i, h1⟩
      rw [hm] at this
      cases this
  have hin : ∀ i, there (midsV d p) i = true → (i : Int) < d.n := fun i hi => by
    rw [pf.mAt, decide_eq_true_iff] at hi
    exact (Bx.mem_all' hi).2
  have e1 : oneE d (joinIf orW d.n (midsV d p) s) = 0 := by unfold oneE; rw [if_pos hd, if_pos t1]
  have e2 : openE d (midsV d p) (othersV d.n (joinIf orW d.n (midsV d p) s)) = 0 := openE_of hd pf.mChk oT.c
  have e3 : openE d (midsV d p) s = 0 := openE_of hd pf.mChk hc
  refine ⟨t1, ft, by rw [t2]; exact midsV_len d p, e1, e2, e3, ?_⟩
  have v1 : spreadV d (joinIf orW d.n (midsV d p) s) = openB d (there (othersV d.n (joinIf orW d.n (midsV d p) s))) (there (joinIf orW d.n (midsV d p) s)) := by
    unfold spreadV; rw [if_pos e1]; exact openV_bits' hd oT.c oT.fit
  have v2 : spreadV d s = openB d (there (othersV d.n s)) (there s) := by
    unfold spreadV; rw [if_pos hs]; exact openV_bits' hd oS.c oS.fit
  rw [v1, v2, openV_bits e2 fa, openV_bits e3 fa]
  have h1 := openB_apart d (there (othersV d.n (joinIf orW d.n (midsV d p) s))) (there (midsV d p)) (there s) (there (joinIf orW d.n (midsV d p) s)) t3 hap
  have h2 := openB_turn hd (there (othersV d.n (joinIf orW d.n (midsV d p) s))) (there (midsV d p))
  have h3 := openB_left hd (there s) (there (othersV d.n (joinIf orW d.n (midsV d p) s))) (there (midsV d p)) (there (othersV d.n s)) (fun i => by
    rw [oS.at', oT.at', t3]
    have h4 := hap i
    have h5 := hin i
    cases ha : there (midsV d p) i with
    | true =>
      rw [ha] at h4
      have h6 : there s i = false := by simpa using h4
      rw [h6, decide_eq_true (h5 ha)]
      rfl
    | false => simp) (fun i => by
    rw [oT.at', t3]
    cases there (midsV d p) i <;> simp)
  omega
/-- A list of zeros that is being filled with places' numbers. -/
def fillL (m k : Nat) : List Int := rangeL k ++ List.replicate (m - k) 0
theorem fillL_len {m k : Nat} (h : k ≤ m) : (fillL m k).length = m := by unfold fillL; rw [List.length_append, rangeL_len, List.length_replicate]; omega
theorem fillL_set {m k : Nat} (h : k < m) : (ic (fillL m k)).set k (.int .i64 (k : Int)) = ic (fillL m (k + 1)) := by
  unfold fillL ic
  rw [show m - k = (m - (k + 1)) + 1 by omega, List.replicate_succ, List.map_append, List.set_append_right _ _ (by rw [List.length_map, rangeL_len]; exact Nat.le_refl _), List.length_map, rangeL_len, Nat.sub_self, rangeL_succ, List.map_append, List.map_append, List.map_cons, List.set_cons_zero, List.append_assoc]
  rfl
theorem fillL_all (m : Nat) : fillL m m = rangeL m := by unfold fillL; rw [Nat.sub_self, List.replicate_zero, List.append_nil]
theorem fillL_none (m : Nat) : fillL m 0 = List.replicate m 0 := by unfold fillL; rw [Nat.sub_zero]; rfl
theorem openV_range' (d : V3) (a b : List Nat) : 0 ≤ openV d a b ∧ openV d a b ≤ 100000 := by
  unfold openV
  split
  · next h =>
    have h1 := openTo_le d b (nums a)
    have h2 := listV_len d.n a
    rw [show listV d.n a = nums a from if_pos (openE_0 h).2.1] at h2
    omega
  · omega
theorem spreadV_range (d : V3) (s : List Nat) (fs : W64 s) : 0 ≤ spreadV d s ∧ spreadV d s ≤ 100000 := by
  unfold spreadV
  split
  · next h =>
    obtain ⟨hd, hc⟩ := oneE_0 h
    have h1 := openTo_le d s (nums (othersV d.n s))
    have h2 := listV_len d.n (othersV d.n s)
    rw [show listV d.n (othersV d.n s) = nums (othersV d.n s) from if_pos (ot_facts (V3.n_pos hd) hc fs).c] at h2
    omega
  · omega
end

section
open Go.RowKit Go.Shelf

theorem openB_mono {d : V3} (p q r : Nat → Bool) (h : ∀ i, q i = true → r i = true) : openB d p q ≤ openB d p r := by
  have := openB_apart d p q (fun i => r i && !q i) r (fun i => by
    cases hq : q i with
    | true => rw [h i hq]; rfl
    | false => simp) (fun i => by cases q i <;> simp)
  omega
theorem free_at {d : V3} {p : Pl} {s : List Nat} (hp : plChk d p = 0) (hs : oneE d s = 0) (fs : W64 s) : ∀ i, there (freeV d p s) i = ((decide ((i : Int) < d.n) && !there s i) && !there (midsV d p) i) := by
  have pf := pl_facts hp
  obtain ⟨hd, hc⟩ := oneE_0 hs
  have ot := ot_facts (V3.n_pos hd) hc fs
  intro i
  show there (joinIf lessW d.n (othersV d.n s) (midsV d p)) i = _
  rw [(less_may (sChk2_of ot.c pf.mChk) ot.fit (midsV_fit d p)).2.2, ot.at']
theorem score_eq {d : V3} {p : Pl} {s : List Nat} (hp : plChk d p = 0) (hs : oneE d s = 0) : scoreE d p s = 0 ∧ scoreV d p s = 2 * (openB d (there (midsV d p)) (there (freeV d p s)) : Nat) + manyV (3 * d.n) (linksV d p) := by
  have pf := pl_facts hp
  have h : scoreE d p s = 0 := by unfold scoreE; rw [if_pos hs, hp]
  refine ⟨h, ?_⟩
  unfold scoreV
  rw [if_pos h, openV_bits' pf.may pf.mChk (midsV_fit d p)]
structure MoreFacts (d : V3) (p : Pl) (s t : List Nat) : Prop where
  oB : oneE d (joinIf orW d.n s t) = 0
  fB : W64 (joinIf orW d.n s t)
  lB : (joinIf orW d.n s t).length ≤ s.length
  eB : scoreE d p (joinIf orW d.n s t) = 0
  fR : W64 (othersV d.n (midsV d p))
  lR : (othersV d.n (midsV d p)).length ≤ 192
  c2 : sChk2 d.n (ofSet d.n (rangeL d.n.toNat)) (midsV d p) = 0
  eR : scoreE d p (othersV d.n (midsV d p)) = 0
  less : scoreV d p (joinIf orW d.n s t) ≤ scoreV d p s
  least : manyV (3 * d.n) (linksV d p) ≤ scoreV d p (joinIf orW d.n s t)
  same : scoreV d p (othersV d.n (midsV d p)) = manyV (3 * d.n) (linksV d p)
theorem more_facts {d : V3} {p : Pl} {s t : List Nat} (hp : plChk d p = 0) (hs : oneE d s = 0) (fs : W64 s) (ft : W64 t) (ht : sChk2 d.n s t = 0) : MoreFacts d p s t := by
  have pf := pl_facts hp
  obtain ⟨hd, hc⟩ := oneE_0 hs
  obtain ⟨b1, b2, b3⟩ := or_may ht fs ft
  have fB : W64 (joinIf orW d.n s t) := joinIf_fit orW_fit fs ft
  have oB : oneE d (joinIf orW d.n s t) = 0 := by unfold oneE; rw [if_pos hd, if_pos b1]
  have om := ot_facts (V3.n_pos hd) pf.mChk (midsV_fit d p)
  have oR : oneE d (othersV d.n (midsV d p)) = 0 := by unfold oneE; rw [if_pos hd, if_pos om.c]
  have s1 := score_eq hp hs
  have s2 := score_eq hp oB
  have s3 := score_eq hp oR
  refine ⟨oB, fB, by rw [b2]; exact Nat.le_refl _, s2.1, om.fit, om.len, om.c2, s3.1, ?_, ?_, ?_⟩
  · rw [s1.2, s2.2]
    have := openB_mono (d := d) (there (midsV d p)) (there (freeV d p (joinIf orW d.n s t))) (there (freeV d p s)) (fun i hi => by
      rw [free_at hp oB fB, b3] at hi
      rw [free_at hp hs fs]
      revert hi
      cases decide ((i : Int) < d.n) <;> cases there s i <;> cases there t i <;> cases there (midsV d p) i <;> decide)
    omega
  · rw [s2.2]; omega
  · rw [s3.2, openB_none d _ _ (fun i => by
      rw [free_at hp oR om.fit, om.at']
      cases decide ((i : Int) < d.n) <;> cases there (midsV d p) i <;> decide)]
    simp
end
end

section
open Go.RowKit Go.Shelf

def one6 (d : V3) (p q : Nat → Bool) (k i : Nat) : Nat := if d.at k = 1 then 0 else both (p i) (q (sideN d k 1 i)) + both (p i) (q (sideN d k (-1) i))
def roundC (d : V3) (p q : Nat → Bool) (i j : Nat) : Nat := sumTo j (fun k => one6 d p q k i)
def cntTo (d : V3) (p q : Nat → Bool) (m : Nat) : Nat := sumTo m (fun i => roundC d p q i 3)
theorem both_le (x y : Bool) : both x y ≤ 1 := by unfold both; split <;> omega
theorem one6_le (d : V3) (p q : Nat → Bool) (k i : Nat) : one6 d p q k i ≤ 2 := by
  unfold one6
  have h1 := both_le (p i) (q (sideN d k 1 i))
  have h2 := both_le (p i) (q (sideN d k (-1) i))
  split <;> omega
theorem roundC_succ (d : V3) (p q : Nat → Bool) (i j : Nat) : roundC d p q i (j + 1) = roundC d p q i j + one6 d p q j i := sumTo_succ _ _
theorem cntTo_succ (d : V3) (p q : Nat → Bool) (m : Nat) : cntTo d p q (m + 1) = cntTo d p q m + roundC d p q m 3 := sumTo_succ _ _
theorem roundC_le (d : V3) (p q : Nat → Bool) (i j : Nat) : roundC d p q i j ≤ 2 * j := by
  induction j with
  | zero => exact Nat.le_refl 0
  | succ j ih => rw [roundC_succ]; have := one6_le d p q j i; omega
theorem cntTo_le (d : V3) (p q : Nat → Bool) (m : Nat) : cntTo d p q m ≤ 6 * m := by
  induction m with
  | zero => exact Nat.le_refl 0
  | succ m ih => rw [cntTo_succ]; have := roundC_le d p q m 3; omega
theorem sum_one6 (d : V3) (p q : Nat → Bool) (k : Nat) : sumTo d.n.toNat (fun i => one6 d p q k i) = openK d p q k 1 + openK d p q k (-1) := by
  unfold one6 openK
  split
  · generalize d.n.toNat = n
    induction n with
    | zero => rfl
    | succ n ih => rw [sumTo_succ, ih]
  · rw [sumTo_add]
theorem cntTo_all (d : V3) (p q : Nat → Bool) : cntTo d p q d.n.toNat = openB d p q := by
  unfold cntTo openB
  have h : ∀ i, roundC d p q i 3 = (one6 d p q 0 i + one6 d p q 1 i) + one6 d p q 2 i := fun i => by
    rw [roundC_succ, roundC_succ, roundC_succ]
    show 0 + _ + _ + _ = _
    omega
  rw [sumTo_eq (fun i _ => h i), sumTo_add, sumTo_add, sum_one6, sum_one6, sum_one6]

/-- Of each midplane whether it is in a set. -/
def trL (s : List Nat) (k : Nat) : List Bool := (List.range k).map (there s)
/-- Whether a list of truths holds at a place. -/
def tAt (l : List Bool) (i : Nat) : Bool := (l[i]?).getD false
def notL (l less : List Bool) (k : Nat) : List Bool := (List.range k).map (fun i => !tAt l i && !tAt less i)
theorem trL_len (s : List Nat) (k : Nat) : (trL s k).length = k := by simp [trL]
theorem notL_len (l less : List Bool) (k : Nat) : (notL l less k).length = k := by simp [notL]
theorem trL_succ (s : List Nat) (k : Nat) : trL s (k + 1) = trL s k ++ [there s k] := by simp [trL, List.range_succ]
theorem notL_succ (l less : List Bool) (k : Nat) : notL l less (k + 1) = notL l less k ++ [!tAt l k && !tAt less k] := by simp [notL, List.range_succ]
theorem tAt_in {l : List Bool} {i : Nat} (h : i < l.length) : tAt l i = l[i] := by unfold tAt; simp [h]
theorem tAt_trL (s : List Nat) (k i : Nat) : tAt (trL s k) i = (decide (i < k) && there s i) := by
  unfold tAt trL
  by_cases h : i < k
  · simp [h]
  · rw [List.getElem?_eq_none (by simp; omega)]; simp [h]
theorem tAt_notL (l less : List Bool) (k i : Nat) : tAt (notL l less k) i = (decide (i < k) && (!tAt l i && !tAt less i)) := by
  unfold notL
  by_cases h : i < k
  · have e : ((List.range k).map (fun i => !tAt l i && !tAt less i))[i]? = some (!tAt l i && !tAt less i) := by rw [List.getElem?_map, List.getElem?_range h]; rfl
    show (((List.range k).map (fun i => !tAt l i && !tAt less i))[i]?).getD false = _
    rw [e, decide_eq_true h]
    rfl
  · show (((List.range k).map (fun i => !tAt l i && !tAt less i))[i]?).getD false = _
    rw [List.getElem?_eq_none (by simp; omega), decide_eq_false h]
    rfl
theorem tAt_set {n : Int} {s : List Nat} (h : sChk n s = 0) (fs : W64 s) (i : Nat) : tAt (trL s n.toNat) i = there s i := by
  rw [tAt_trL]
  cases hh : there s i with
  | false => simp
  | true => rw [decide_eq_true (set_in h fs i hh).1]; rfl
theorem tAt_fun {n : Int} {s : List Nat} (h : sChk n s = 0) (fs : W64 s) : tAt (trL s n.toNat) = there s := funext (tAt_set h fs)
/-- A list of truths counted toward another one. -/
def cntV (d : V3) (a b : List Bool) : Nat := cntTo d (tAt a) (tAt b) d.n.toNat
theorem open_cnt {d : V3} {a b : List Nat} (h : openE d a b = 0) (fa : W64 a) (fb : W64 b) : openV d a b = (cntV d (trL a d.n.toNat) (trL b d.n.toNat) : Nat) := by
  obtain ⟨_, h1, h2⟩ := openE_0 h
  rw [openV_bits h fa]
  unfold cntV
  rw [cntTo_all, tAt_fun h1 fa, tAt_fun h2 fb]
theorem spread_cnt {d : V3} {s : List Nat} (h : oneE d s = 0) (fs : W64 s) :
    spreadV d s = (cntV d (notL (trL s d.n.toNat) (trL s d.n.toNat) d.n.toNat) (trL s d.n.toNat) : Nat) := by
  obtain ⟨hd, hc⟩ := oneE_0 h
  have ot := ot_facts (V3.n_pos hd) hc fs
  have hn := V3.n_pos hd
  unfold spreadV
  rw [if_pos h, openV_bits' hd ot.c ot.fit]
  unfold cntV
  rw [cntTo_all, tAt_fun hc fs]
  congr 2
  funext i
  rw [ot.at', tAt_notL, tAt_set hc fs, Bool.and_self]
  congr 1
  rw [decide_eq_decide]
  omega
theorem score_cnt {d : V3} {p : Pl} {s : List Nat} (hp : plChk d p = 0) (hs : oneE d s = 0) (fs : W64 s) :
    scoreV d p s = 2 * (cntV d (trL (midsV d p) d.n.toNat) (notL (trL s d.n.toNat) (trL (midsV d p) d.n.toNat) d.n.toNat) : Nat) + (nums (linksV d p)).length := by
  obtain ⟨hd, hc⟩ := oneE_0 hs
  have pf := pl_facts hp
  have hn := V3.n_pos hd
  rw [(score_eq hp hs).2, show manyV (3 * d.n) (linksV d p) = (nums (linksV d p)).length from if_pos pf.lChk]
  congr 2
  unfold cntV
  rw [cntTo_all, tAt_fun pf.mChk (midsV_fit d p)]
  congr 2
  funext i
  rw [free_at hp hs fs, tAt_notL, tAt_set hc fs, tAt_set pf.mChk (midsV_fit d p), Bool.and_assoc]
  congr 1
  rw [decide_eq_decide]
  omega
end
end Go.Proofs.YthabpiphfaedaaaDoor
