/- SCORE, THE PLAIN LAW: how scattered what is free is; a score with more that is not free; a list that is filled. -/
import Derived.Test.YthabpiphfaedaaaDoorScoreD
namespace Go.Proofs.YthabpiphfaedaaaDoor

section
open Go.RowKit Go.Shelf

theorem openV_bits' {d : V3} {a b : List Nat} (hd : d.may) (ha : sChk d.n a = 0) (fa : W64 a) : ((openTo d b (nums a) : Nat) : Int) = openB d (there a) (there b) := by rw [openTo_all hd (set_in ha fa)]
theorem openB_left {d : V3} (hd : d.may) (p q r s : Nat → Bool) (h : ∀ i, s i = (q i || r i)) (ha : ∀ i, (q i && r i) = false) : openB d s p = openB d q p + openB d r p := by
  rw [openB_turn hd s p, openB_turn hd q p, openB_turn hd r p]
  exact openB_apart d p q r s h ha
structure SpreadFacts (d : V3) (A s T : List Nat) : Prop where
  chk : sChk d.n T = 0
  fit : W64 T
  len : T.length ≤ 192
  e1 : oneE d T = 0
  e2 : openE d A (othersV d.n T) = 0
  e3 : openE d A s = 0
  law : spreadV d T = spreadV d s + openV d A (othersV d.n T) - openV d A s
theorem spread_facts {d : V3} {p : Pl} {s : List Nat} (hp : plChk d p = 0) (hs : oneE d s = 0) (fs : W64 s) (hm : anyNZ (joinIf andW d.n (midsV d p) s) = false) : SpreadFacts d (midsV d p) s (joinIf orW d.n (midsV d p) s) := by
  have pf := pl_facts hp
  obtain ⟨hd, hc⟩ := oneE_0 hs
  have hn := V3.n_pos hd
  have fa := midsV_fit d p
  obtain ⟨t1, t2, t3⟩ := or_may (sChk2_of pf.mChk hc) fa fs
  have ft : W64 (joinIf orW d.n (midsV d p) s) := joinIf_fit orW_fit fa fs
  have oT := ot_facts hn t1 ft
  have oS := ot_facts hn hc fs
  have hap : ∀ i, (there (midsV d p) i && there s i) = false := fun i => by
    cases h1 : there (midsV d p) i && there s i with
    | false => rfl
    | true =>
      rw [Bool.and_eq_true] at h1
      have := (meet_iff pf.mChk hc fa fs).2 ⟨i, h1⟩
      rw [hm] at this
      cases this
  have hin : ∀ i, there (midsV d p) i = true → (i : Int) < d.n := fun i hi => by
    rw [pf.mAt, decide_eq_true_iff] at hi
    exact (Bx.mem_all' hi).2
  have e1 : oneE d (joinIf orW d.n (midsV d p) s) = 0 := by unfold oneE; rw [if_pos hd, if_pos t1]
  have e2 : openE d (midsV d p) (othersV d.n (joinIf orW d.n (midsV d p) s)) = 0 := openE_of hd pf.mChk oT.c
  have e3 : openE d (midsV d p) s = 0 := openE_of hd pf.mChk hc
  refine ⟨t1, ft, by rw [t2]; exact midsV_len d p, e1, e2, e3, ?_⟩
  have v1 : spreadV d (joinIf orW d.n (midsV d p) s) = openB d (there (othersV d.n (joinIf orW d.n (midsV d p) s))) (there (joinIf orW d.n (midsV d p) s)) := by
    unfold spreadV; rw [if_pos e1]; exact openV_bits' hd oT.c oT.fit
  have v2 : spreadV d s = openB d (there (othersV d.n s)) (there s) := by
    unfold spreadV; rw [if_pos hs]; exact openV_bits' hd oS.c oS.fit
  rw [v1, v2, openV_bits e2 fa, openV_bits e3 fa]
  have h1 := openB_apart d (there (othersV d.n (joinIf orW d.n (midsV d p) s))) (there (midsV d p)) (there s) (there (joinIf orW d.n (midsV d p) s)) t3 hap
  have h2 := openB_turn hd (there (othersV d.n (joinIf orW d.n (midsV d p) s))) (there (midsV d p))
  have h3 := openB_left hd (there s) (there (othersV d.n (joinIf orW d.n (midsV d p) s))) (there (midsV d p)) (there (othersV d.n s)) (fun i => by
    rw [oS.at', oT.at', t3]
    have h4 := hap i
    have h5 := hin i
    cases ha : there (midsV d p) i with
    | true =>
      rw [ha] at h4
      have h6 : there s i = false := by simpa using h4
      rw [h6, decide_eq_true (h5 ha)]
      rfl
    | false => simp) (fun i => by
    rw [oT.at', t3]
    cases there (midsV d p) i <;> simp)
  omega
/-- A list of zeros that is being filled with places' numbers. -/
def fillL (m k : Nat) : List Int := rangeL k ++ List.replicate (m - k) 0
theorem fillL_len {m k : Nat} (h : k ≤ m) : (fillL m k).length = m := by unfold fillL; rw [List.length_append, rangeL_len, List.length_replicate]; omega
theorem fillL_set {m k : Nat} (h : k < m) : (ic (fillL m k)).set k (.int .i64 (k : Int)) = ic (fillL m (k + 1)) := by
  unfold fillL ic
  rw [show m - k = (m - (k + 1)) + 1 by omega, List.replicate_succ, List.map_append, List.set_append_right _ _ (by rw [List.length_map, rangeL_len]; exact Nat.le_refl _), List.length_map, rangeL_len, Nat.sub_self, rangeL_succ, List.map_append, List.map_append, List.map_cons, List.set_cons_zero, List.append_assoc]
  rfl
theorem fillL_all (m : Nat) : fillL m m = rangeL m := by unfold fillL; rw [Nat.sub_self, List.replicate_zero, List.append_nil]
theorem fillL_none (m : Nat) : fillL m 0 = List.replicate m 0 := by unfold fillL; rw [Nat.sub_zero]; rfl
theorem openV_range' (d : V3) (a b : List Nat) : 0 ≤ openV d a b ∧ openV d a b ≤ 100000 := by
  unfold openV
  split
  · next h =>
    have h1 := openTo_le d b (nums a)
    have h2 := listV_len d.n a
    rw [show listV d.n a = nums a from if_pos (openE_0 h).2.1] at h2
    omega
  · omega
theorem spreadV_range (d : V3) (s : List Nat) (fs : W64 s) : 0 ≤ spreadV d s ∧ spreadV d s ≤ 100000 := by
  unfold spreadV
  split
  · next h =>
    obtain ⟨hd, hc⟩ := oneE_0 h
    have h1 := openTo_le d s (nums (othersV d.n s))
    have h2 := listV_len d.n (othersV d.n s)
    rw [show listV d.n (othersV d.n s) = nums (othersV d.n s) from if_pos (ot_facts (V3.n_pos hd) hc fs).c] at h2
    omega
  · omega
end

section
open Go.RowKit Go.Shelf

theorem openB_mono {d : V3} (p q r : Nat → Bool) (h : ∀ i, q i = true → r i = true) : openB d p q ≤ openB d p r := by
  have := openB_apart d p q (fun i => r i && !q i) r (fun i => by
    cases hq : q i with
    | true => rw [h i hq]; rfl
    | false => simp) (fun i => by cases q i <;> simp)
  omega
theorem free_at {d : V3} {p : Pl} {s : List Nat} (hp : plChk d p = 0) (hs : oneE d s = 0) (fs : W64 s) : ∀ i, there (freeV d p s) i = ((decide ((i : Int) < d.n) && !there s i) && !there (midsV d p) i) := by
  have pf := pl_facts hp
  obtain ⟨hd, hc⟩ := oneE_0 hs
  have ot := ot_facts (V3.n_pos hd) hc fs
  intro i
  show there (joinIf lessW d.n (othersV d.n s) (midsV d p)) i = _
  rw [(less_may (sChk2_of ot.c pf.mChk) ot.fit (midsV_fit d p)).2.2, ot.at']
theorem score_eq {d : V3} {p : Pl} {s : List Nat} (hp : plChk d p = 0) (hs : oneE d s = 0) : scoreE d p s = 0 ∧ scoreV d p s = 2 * (openB d (there (midsV d p)) (there (freeV d p s)) : Nat) + manyV (3 * d.n) (linksV d p) := by
  have pf := pl_facts hp
  have h : scoreE d p s = 0 := by unfold scoreE; rw [if_pos hs, hp]
  refine ⟨h, ?_⟩
  unfold scoreV
  rw [if_pos h, openV_bits' pf.may pf.mChk (midsV_fit d p)]
structure MoreFacts (d : V3) (p : Pl) (s t : List Nat) : Prop where
  oB : oneE d (joinIf orW d.n s t) = 0
  fB : W64 (joinIf orW d.n s t)
  lB : (joinIf orW d.n s t).length ≤ s.length
  eB : scoreE d p (joinIf orW d.n s t) = 0
  fR : W64 (othersV d.n (midsV d p))
  lR : (othersV d.n (midsV d p)).length ≤ 192
  c2 : sChk2 d.n (ofSet d.n (rangeL d.n.toNat)) (midsV d p) = 0
  eR : scoreE d p (othersV d.n (midsV d p)) = 0
  less : scoreV d p (joinIf orW d.n s t) ≤ scoreV d p s
  least : manyV (3 * d.n) (linksV d p) ≤ scoreV d p (joinIf orW d.n s t)
  same : scoreV d p (othersV d.n (midsV d p)) = manyV (3 * d.n) (linksV d p)
theorem more_facts {d : V3} {p : Pl} {s t : List Nat} (hp : plChk d p = 0) (hs : oneE d s = 0) (fs : W64 s) (ft : W64 t) (ht : sChk2 d.n s t = 0) : MoreFacts d p s t := by
  have pf := pl_facts hp
  obtain ⟨hd, hc⟩ := oneE_0 hs
  obtain ⟨b1, b2, b3⟩ := or_may ht fs ft
  have fB : W64 (joinIf orW d.n s t) := joinIf_fit orW_fit fs ft
  have oB : oneE d (joinIf orW d.n s t) = 0 := by unfold oneE; rw [if_pos hd, if_pos b1]
  have om := ot_facts (V3.n_pos hd) pf.mChk (midsV_fit d p)
  have oR : oneE d (othersV d.n (midsV d p)) = 0 := by unfold oneE; rw [if_pos hd, if_pos om.c]
  have s1 := score_eq hp hs
  have s2 := score_eq hp oB
  have s3 := score_eq hp oR
  refine ⟨oB, fB, by rw [b2]; exact Nat.le_refl _, s2.1, om.fit, om.len, om.c2, s3.1, ?_, ?_, ?_⟩
  · rw [s1.2, s2.2]
    have := openB_mono (d := d) (there (midsV d p)) (there (freeV d p (joinIf orW d.n s t))) (there (freeV d p s)) (fun i hi => by
      rw [free_at hp oB fB, b3] at hi
      rw [free_at hp hs fs]
      revert hi
      cases decide ((i : Int) < d.n) <;> cases there s i <;> cases there t i <;> cases there (midsV d p) i <;> decide)
    omega
  · rw [s2.2]; omega
  · rw [s3.2, openB_none d _ _ (fun i => by
      rw [free_at hp oR om.fit, om.at']
      cases decide ((i : Int) < d.n) <;> cases there (midsV d p) i <;> decide)]
    simp
end
end Go.Proofs.YthabpiphfaedaaaDoor
