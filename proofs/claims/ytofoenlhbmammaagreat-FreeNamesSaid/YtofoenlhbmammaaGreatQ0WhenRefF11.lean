/- WHEN: rising lists of moments; the document's Times, Ends, Last. -/
import Derived.Test.YtofoenlhbmammaaGreatQ2F11
import Derived.Test.YtofoenlhbmammaaGreatQ0YardTwoF11
set_option linter.unusedVariables false
set_option linter.unusedSimpArgs false
namespace Go.Proofs.YtofoenlhbmammaaGreat

section
section
open Go.RowKit Go.Shelf

theorem rise_eq : ∀ {a b : List Int}, a.Pairwise (· < ·) → b.Pairwise (· < ·) → (∀ x, x ∈ a ↔ x ∈ b) → a = b
  | [], [], _, _, _ => rfl
  | [], y :: b, _, _, h => absurd ((h y).2 (List.mem_cons_self ..)) (by simp)
  | x :: a, [], _, _, h => absurd ((h x).1 (List.mem_cons_self ..)) (by simp)
  | x :: a, y :: b, ha, hb, h => by
    rw [List.pairwise_cons] at ha hb
    have hxy : x = y := by
      rcases List.mem_cons.1 ((h x).1 (List.mem_cons_self ..)) with e | e
      · exact e
      · rcases List.mem_cons.1 ((h y).2 (List.mem_cons_self ..)) with e2 | e2
        · exact e2.symm
        · have := hb.1 x e; have := ha.1 y e2; omega
    subst hxy
    rw [rise_eq ha.2 hb.2 (fun z => ?_)]
    constructor
    · intro hz
      rcases List.mem_cons.1 ((h z).1 (List.mem_cons_of_mem _ hz)) with e | e
      · have := ha.1 z hz; omega
      · exact e
    · intro hz
      rcases List.mem_cons.1 ((h z).2 (List.mem_cons_of_mem _ hz)) with e | e
      · have := hb.1 z hz; omega
      · exact e
theorem merge_rise {l : List Int} (h : l.Nodup) : (l.mergeSort (fun x y => decide (x ≤ y))).Pairwise (· < ·) := by
  have h1 : (l.mergeSort (fun x y => decide (x ≤ y))).Pairwise (fun a b => decide (a ≤ b) = true) := List.pairwise_mergeSort (fun a b c h1 h2 => by simp at *; omega) (fun a b => by simp; omega) l
  have h2 : (l.mergeSort (fun x y => decide (x ≤ y))).Nodup := (List.mergeSort_perm l _).nodup_iff.2 h
  exact (h1.and h2).imp (fun ⟨h3, h4⟩ => by simp at h3; omega)
/-- A rising list with one more: as the document lays it. -/
def inL (n : Int) : List Int → List Int
  | [] => [n]
  | x :: r => if n < x then n :: x :: r else x :: inL n r
def pmL (l : List Int) (n : Int) : List Int := if n ∈ l then l else inL n l
def pmsL (l : List Int) (ns : List Int) : List Int := ns.foldl pmL l
theorem mem_inL {n x : Int} : ∀ {l : List Int}, x ∈ inL n l ↔ x = n ∨ x ∈ l
  | [] => by simp [inL]
  | y :: l => by
    unfold inL
    split
    · simp
    · rw [List.mem_cons, mem_inL, List.mem_cons]
      constructor
      · rintro (h | h | h)
        · exact .inr (.inl h)
        · exact .inl h
        · exact .inr (.inr h)
      · rintro (h | h | h)
        · exact .inr (.inl h)
        · exact .inl h
        · exact .inr (.inr h)
theorem inL_rise {n : Int} : ∀ {l : List Int}, l.Pairwise (· < ·) → n ∉ l → (inL n l).Pairwise (· < ·)
  | [], _, _ => by simp [inL]
  | y :: l, h, hn => by
    rw [List.pairwise_cons] at h
    simp only [List.mem_cons, not_or] at hn
    unfold inL
    split
    · next hlt =>
      rw [List.pairwise_cons, List.pairwise_cons]
      refine ⟨fun z hz => ?_, h⟩
      rcases List.mem_cons.1 hz with e | e
      · omega
      · have := h.1 z e; omega
    · next hlt =>
      rw [List.pairwise_cons]
      refine ⟨fun z hz => ?_, inL_rise h.2 hn.2⟩
      rcases mem_inL.1 hz with e | e
      · omega
      · exact h.1 z e
theorem inL_len (n : Int) : ∀ (l : List Int), (inL n l).length = l.length + 1
  | [] => rfl
  | y :: l => by
    unfold inL
    split
    · rfl
    · rw [List.length_cons, inL_len n l]; rfl
theorem mem_pmL {l : List Int} {n x : Int} : x ∈ pmL l n ↔ x = n ∨ x ∈ l := by
  unfold pmL
  split
  · next h => exact ⟨.inr, fun h2 => h2.elim (fun e => e ▸ h) id⟩
  · exact mem_inL
theorem pmL_rise {l : List Int} {n : Int} (h : l.Pairwise (· < ·)) : (pmL l n).Pairwise (· < ·) := by
  unfold pmL
  split
  · exact h
  · next hn => exact inL_rise h hn
theorem pmL_len (l : List Int) (n : Int) : (pmL l n).length ≤ l.length + 1 := by
  unfold pmL
  split
  · omega
  · rw [inL_len]; omega
theorem mem_pmsL {x : Int} : ∀ {ns l : List Int}, x ∈ pmsL l ns ↔ x ∈ l ∨ x ∈ ns
  | [], l => by simp [pmsL]
  | n :: ns, l => by
    have := mem_pmsL (x := x) (ns := ns) (l := pmL l n)
    unfold pmsL at this ⊢
    rw [List.foldl_cons, this, mem_pmL, List.mem_cons]
    constructor
    · rintro ((h | h) | h)
      · exact .inr (.inl h)
      · exact .inl h
      · exact .inr (.inr h)
    · rintro (h | h | h)
      · exact .inl (.inr h)
      · exact .inl (.inl h)
      · exact .inr h
theorem pmsL_rise : ∀ {ns l : List Int}, l.Pairwise (· < ·) → (pmsL l ns).Pairwise (· < ·)
  | [], _, h => h
  | n :: ns, l, h => by unfold pmsL; rw [List.foldl_cons]; exact pmsL_rise (ns := ns) (pmL_rise h)
theorem pmsL_len : ∀ (ns l : List Int), (pmsL l ns).length ≤ l.length + ns.length
  | [], l => by unfold pmsL; simp
  | n :: ns, l => by
    have h1 := pmsL_len ns (pmL l n)
    have h2 := pmL_len l n
    unfold pmsL at h1 ⊢
    rw [List.foldl_cons, List.length_cons]
    omega
theorem pmsL_snoc (l ns : List Int) (n : Int) : pmsL l (ns ++ [n]) = pmL (pmsL l ns) n := by unfold pmsL; rw [List.foldl_append]; rfl
/-- What is taken out of a set of keys, sorted, is the document's. -/
theorem puts_of_perm {ss l : List Int} (hn : ss.Nodup) (hm : ∀ x, x ∈ ss ↔ x ∈ l) : ss.mergeSort (fun x y => decide (x ≤ y)) = pmsL [] l :=
  rise_eq (merge_rise hn) (pmsL_rise .nil) (fun x => by rw [(List.mergeSort_perm _ _).mem_iff, hm, mem_pmsL]; simp)
theorem puts_cons {ss l : List Int} {f : Int} (hn : ss.Nodup) (hm : ∀ x, x ∈ ss ↔ x ∈ l) (hf : ∀ x ∈ l, f < x) : f :: ss.mergeSort (fun x y => decide (x ≤ y)) = pmsL [f] l := by
  refine rise_eq ?_ (pmsL_rise (by simp)) (fun x => by rw [List.mem_cons, (List.mergeSort_perm _ _).mem_iff, hm, mem_pmsL]; simp)
  rw [List.pairwise_cons]
  exact ⟨fun x hx => hf x ((hm x).1 ((List.mergeSort_perm _ _).mem_iff.1 hx)), merge_rise hn⟩
/-- A machine's slots. -/
def Yd.all (y : Yd) : List Sl := y.ns.flatten ++ y.ls.flatten
def endsL (p : Sl → Bool) (c : List Sl) : List Int := (c.filter p).map Sl.t
theorem endsL_snoc (p : Sl → Bool) (c : List Sl) (s : Sl) : endsL p (c ++ [s]) = endsL p c ++ (if p s then [s.t] else []) := by
  unfold endsL
  rw [List.filter_append, List.map_append]
  cases h : p s <;> simp [h]
theorem endsL_len (p : Sl → Bool) (c : List Sl) : (endsL p c).length ≤ c.length := by unfold endsL; rw [List.length_map]; exact List.length_filter_le ..
def afterB (f : Int) (s : Sl) : Bool := decide (f < s.t) && decide (s.t < 1099511627776)
def ownerB (o : Int) (s : Sl) : Bool := s.o == o
def timesE (y : Yd) (f : Int) : Int := if y.okB then (if 0 ≤ f ∧ f < 1099511627776 then 0 else 2) else 8
def timesV (y : Yd) (f : Int) : List Int := if timesE y f = 0 then pmsL [f] (endsL (afterB f) y.all) else []
def endsV (y : Yd) (o : Int) : List Int := if y.okB then pmsL [] (endsL (ownerB o) y.all) else []
def lastL (c : List Sl) : Int := c.foldl (fun m s => max m s.t) 0
def lastV (y : Yd) : Int := if y.okB then lastL y.all else 0
theorem lastL_snoc (c : List Sl) (s : Sl) : lastL (c ++ [s]) = max (lastL c) s.t := by unfold lastL; rw [List.foldl_append]; rfl
end

section
open Go.RowKit Go.Shelf

def wi (l : List Int) : List Value := l.map (Value.int .i64)
theorem wi_at {l : List Int} {k : Nat} (hk : k < l.length) : (wi l)[k]? = some (.int .i64 l[k]) := by simp [wi, hk]
/-- A list of moments that came in. -/
structure MIn (w : World) (v : Value) (l : List Int) : Prop where
  ex : ∃ base cap, v = .slice base l.length cap ∧ Rd w base (wi l)
theorem MIn.keep {w W : World} {v : Value} {l : List Int} (h : MIn w v l) (hb : Below w.heap.size w W) : MIn W v l := by
  obtain ⟨b, c, e, h1⟩ := h.ex
  exact ⟨b, c, e, h1.keep hb⟩
theorem mi_at {w : World} {base : Option Addr} {l : List Int} (h : Rd w base (wi l)) {k : Nat} (hk : k < l.length) : ∃ b off, base = some ⟨b, off, none⟩ ∧ w.cell? ⟨b, off + k, none⟩ = some (.int .i64 l[k]) ∧ b < w.heap.size := by
  obtain ⟨b, off, e, hc⟩ := h _ _ (wi_at hk)
  exact ⟨b, off, e, hc, World.block_lt_of_cell? w _ hc⟩
theorem mi_of_own {W : World} {B : Nat} {v : Value} {l : List Int} (h : W.ownsRow B 3 1 v l.length (wi l)) : MIn W v l := by
  obtain ⟨base, cap, e, rd, _⟩ := own_rd h
  exact ⟨base, cap, e, rd⟩
theorem own_onem {w : World} {B n : Nat} {v : Value} {l : List Int} {x : Int} (h : w.ownsRow B 3 1 v n (wi l ++ [.int .i64 x])) (hn : n = l.length + 1) : w.ownsRow B 3 1 v (l ++ [x]).length (wi (l ++ [x])) := by
  subst hn
  rw [wi, List.map_append, List.length_append]; exact h
theorem own_drm {w : World} {B : Nat} {e : TypeId} {size n : Nat} {v : Value} {xs : List Value} (h : w.ownsRow B e size v n xs) (q : Nat) : (w.drewN q).ownsRow B e size v n xs := h
/-- A list handed back, as it may be read. -/
def RM (w : World) (l : List Int) : Ending → World → Prop := fun e w' => ∃ v, e = .returned v ∧ MIn w' v l ∧ Below w.heap.size w w'
theorem inL_drop {c : List Int} {k : Nat} (hk : k < c.length) (s : Int) : inL s (c.drop k) = if s < c[k] then s :: c[k] :: c.drop (k + 1) else c[k] :: inL s (c.drop (k + 1)) := by
  rw [List.drop_eq_getElem_cons hk]; rfl
/-- What put has laid so far. -/
structure WInvM (s : Int) (c : List Int) (k : Nat) (dn : Bool) (out : List Int) : Prop where
  eq : out ++ (if dn then c.drop k else inL s (c.drop k)) = inL s c
  len : out.length = k + (if dn then 1 else 0)
  no : s ∉ c.take k
theorem take_no {c : List Int} {k : Nat} {s x : Int} (h : s ∉ c.take k) (hk : k < c.length) (hx : x = c[k]) (hn : x ≠ s) : s ∉ c.take (k + 1) := by
  rw [List.take_succ_eq_append_getElem hk, List.mem_append, not_or]
  exact ⟨h, by rw [← hx]; simpa using fun e => hn e.symm⟩
set_option maxRecDepth 100000 in set_option maxHeartbeats 4000000 in
theorem ref10_put (v : Value) (c : List Int) (s : Int) (w : World) (hc : MIn w v c) (hlen : c.length ≤ 100000000) :
    Calls Tryz.prog 78 #[v, .int .i64 s] w (RM w (pmL c s)) := by
  obtain ⟨i0, hi, iz0, iz1, iz2⟩ := info_parts infoInt
  obtain ⟨ba, ca, rfl, hrd⟩ := hc.ex
  have HC := Lib.hid hrd
  have HM := Lib.hid hc
  clear hc hrd
  go_enter Tryz.func78, Tryz.ntmps78
  go_wp2_with fail
  go_loopw [5, 6, 7] (fun v d i wr => ∃ (k : Nat) (dn : Bool) (out : List Int), k ≤ c.length ∧ i = .int .i64 k ∧ d = .bool dn ∧ WInvM s c k dn out ∧ wr.ownsRow w.heap.size 3 1 v out.length (wi out) ∧ Below w.heap.size w wr) (fun _ _ i _ => c.length - (intOf i).toNat)
  case atStart => exact ⟨0, false, [], Nat.zero_le _, rfl, rfl, ⟨rfl, rfl, by simp⟩, ⟨rfl, .inl ⟨rfl, rfl⟩⟩, Below.refl _ _⟩
  case round =>
    obtain ⟨k, dn, out, hk, rfl, rfl, hinv, hown, hbel⟩ := hrel
    have HI := Lib.hid hinv
    have HO := Lib.hid hown
    have HB := Lib.hid hbel
    clear hinv hown hbel
    have hol : out.length ≤ k + 1 := by have := HI.out.len; split at this <;> omega
    have hz0 := HB.out.size
    by_cases hlt : k < c.length
    · obtain ⟨b, off, rfl, c0, hbl⟩ := mi_at (HC.out.keep HB.out) hlt
      have hw := Lib.hid (inL_drop hlt s)
      have hd := Lib.hid (List.drop_eq_getElem_cons hlt)
      have hxs := Lib.hid (fun W (h : Below w.heap.size w W) => mi_at (HC.out.keep h) hlt)
      have hno := Lib.hid (fun x hx hn => take_no (x := x) HI.out.no hlt hx hn)
      have hmem := Lib.hid (List.getElem_mem hlt)
      obtain ⟨x, hx⟩ : ∃ x, x = c[k] := ⟨_, rfl⟩
      rw [← hx] at c0 hw hd hxs hmem
      have HX := Lib.hid hx
      clear hx
      by_cases hxs2 : x = s
      · have heq : (x == s) = true := by simpa using hxs2
        have HR := Lib.hid (show pmL c s = c by unfold pmL; rw [if_pos (hxs2 ▸ hmem.out)])
        clear hxs2 hw hd hno hxs
        go_wp2_with fail
        go_returns
        exact ⟨_, rfl, by rw [HR.out]; exact HM.out.keep HB.out, HB.out⟩
      have heq : (x == s) = false := by simpa using hxs2
      have HN := Lib.hid (hno.out x HX.out hxs2)
      clear hxs2 hno hmem
      cases dn with
      | true =>
        have HI2 := Lib.hid (show WInvM s c (k + 1) true (out ++ [x]) from ⟨by have := HI.out.eq; rw [if_pos rfl, hd.out] at this; rw [if_pos rfl, List.append_assoc]; exact this, by have := HI.out.len; simp at this ⊢; omega, HN.out⟩)
        clear hw hd
        go_wp2_with (first | (at_builtin; refine wpList_append_own _ rfl _ _ 83 rfl (w.heap.size) 3 i0 (.int .i64 0) 1 8 Tryz.underlying83 hi iz0 iz1 iz2 rfl (by decide) _ _ _ rfl (HO.out.alloc _) ⟨_, 0, none⟩ 1 1 [.int .i64 x] rfl rfl (cell_new1 _ _ _) (by simp [Value.oneCell']) ?_ ?_ ?_ ?_) | (at_builtin; refine wpList_append_own _ rfl _ _ 83 rfl (w.heap.size) 3 i0 (.int .i64 0) 1 8 Tryz.underlying83 hi iz0 iz1 iz2 rfl (by decide) _ _ _ rfl ((own_drm HO.out _).alloc _) ⟨_, 0, none⟩ 1 1 [.int .i64 x] rfl rfl (cell_new1 _ _ _) (by simp [Value.oneCell']) ?_ ?_ ?_ ?_) | (refine wp_region_quiet_lit (by kernel_rfl) (by kernel_rfl) ?_; (repeat (any_goals (first | go_big_quiet_step (fail) | quiet_step (fail) | (refine wpQuiet_step (fun K hK => ?_); go_simp; split <;> (refine hK _ ?_; clear hK K))))); all_goals (refine wpQuiet_nil ?_; intro _ hw'; obtain ⟨nq, hw''⟩ := hw'; subst hw'')))
        (all_goals try (first | omega | (unfold maxLen; omega) | (simp; omega) | (simp; unfold maxLen; omega)))
        intro v' w3 o3 hg3 _
        have n3 := own_below (HO.out.alloc _) hg3 (by simp; omega)
        have HB3 := Lib.hid ((below_alloc HB.out _).trans n3)
        have HO3 := Lib.hid (own_onem o3 rfl)
        clear n3 o3 hg3 c0
        go_wp2_with fail
        go_roundw
        case rel => exact ⟨k + 1, true, _, by omega, by go_num, rfl, HI2.out, HO3.out, HB3.out⟩
        case measure => (simp [intOf] <;> omega)
      | false =>
        by_cases hlf : s < x
        · have HI2 := Lib.hid (show WInvM s c (k + 1) true ((out ++ [s]) ++ [x]) from ⟨by have := HI.out.eq; rw [if_neg (by decide), hw.out, if_pos hlf] at this; rw [if_pos rfl, List.append_assoc, List.append_assoc]; exact this, by have := HI.out.len; simp at this ⊢; omega, HN.out⟩)
          have hd0 : decide (s < x) = true := decide_eq_true hlf
          clear hw hd
          go_wp2_with (first | (at_builtin; refine wpList_append_own _ rfl _ _ 83 rfl (w.heap.size) 3 i0 (.int .i64 0) 1 8 Tryz.underlying83 hi iz0 iz1 iz2 rfl (by decide) _ _ _ rfl (HO.out.alloc _) ⟨_, 0, none⟩ 1 1 [.int .i64 s] rfl rfl (cell_new1 _ _ _) (by simp [Value.oneCell']) ?_ ?_ ?_ ?_) | (at_builtin; refine wpList_append_own _ rfl _ _ 83 rfl (w.heap.size) 3 i0 (.int .i64 0) 1 8 Tryz.underlying83 hi iz0 iz1 iz2 rfl (by decide) _ _ _ rfl ((own_drm HO.out _).alloc _) ⟨_, 0, none⟩ 1 1 [.int .i64 s] rfl rfl (cell_new1 _ _ _) (by simp [Value.oneCell']) ?_ ?_ ?_ ?_) | (refine wp_region_quiet_lit (by kernel_rfl) (by kernel_rfl) ?_; (repeat (any_goals (first | go_big_quiet_step (fail) | quiet_step (fail) | (refine wpQuiet_step (fun K hK => ?_); go_simp; split <;> (refine hK _ ?_; clear hK K))))); all_goals (refine wpQuiet_nil ?_; intro _ hw'; obtain ⟨nq, hw''⟩ := hw'; subst hw'')))
          (all_goals try (first | omega | (unfold maxLen; omega) | (simp; omega) | (simp; unfold maxLen; omega)))
          intro v' w3 o3 hg3 _
          have n3 := own_below (HO.out.alloc _) hg3 (by simp; omega)
          have HB3 := Lib.hid ((below_alloc HB.out _).trans n3)
          have HO3 := Lib.hid (own_onem o3 rfl)
          clear n3 o3 hg3 c0
          obtain ⟨b', off', e, c0, _⟩ := hxs.out _ HB3.out
          cases e
          have hz3 := HB3.out.size
          go_wp2_with (first | (at_builtin; refine wpList_append_own _ rfl _ _ 83 rfl (w.heap.size) 3 i0 (.int .i64 0) 1 8 Tryz.underlying83 hi iz0 iz1 iz2 rfl (by decide) _ _ _ rfl (HO3.out.alloc _) ⟨_, 0, none⟩ 1 1 [.int .i64 x] rfl rfl (cell_new1 _ _ _) (by simp [Value.oneCell']) ?_ ?_ ?_ ?_) | (refine wp_region_quiet_lit (by kernel_rfl) (by kernel_rfl) ?_; (repeat (any_goals (first | go_big_quiet_step (fail) | quiet_step (fail) | (refine wpQuiet_step (fun K hK => ?_); go_simp; split <;> (refine hK _ ?_; clear hK K))))); all_goals (refine wpQuiet_nil ?_; intro _ hw'; obtain ⟨nq, hw''⟩ := hw'; subst hw'')))
          (all_goals try (first | omega | (unfold maxLen; omega) | (simp; omega) | (simp; unfold maxLen; omega)))
          intro v' w4 o4 hg4 _
          have n4 := own_below (HO3.out.alloc _) hg4 (by simp; omega)
          have HB4 := Lib.hid ((below_alloc HB3.out _).trans n4)
          have HO4 := Lib.hid (own_onem o4 (by simp))
          clear n4 o4 hg4 c0
          go_wp2_with fail
          go_roundw
          case rel => exact ⟨k + 1, true, _, by omega, by go_num, rfl, HI2.out, HO4.out, HB4.out⟩
          case measure => (simp [intOf] <;> omega)
        · have HI2 := Lib.hid (show WInvM s c (k + 1) false (out ++ [x]) from ⟨by have := HI.out.eq; rw [if_neg (by decide), hw.out, if_neg hlf] at this; rw [if_neg (by decide), List.append_assoc]; exact this, by have := HI.out.len; simp at this ⊢; omega, HN.out⟩)
          have hd0 : decide (s < x) = false := decide_eq_false hlf
          clear hw hd
          go_wp2_with (first | (at_builtin; refine wpList_append_own _ rfl _ _ 83 rfl (w.heap.size) 3 i0 (.int .i64 0) 1 8 Tryz.underlying83 hi iz0 iz1 iz2 rfl (by decide) _ _ _ rfl (HO.out.alloc _) ⟨_, 0, none⟩ 1 1 [.int .i64 x] rfl rfl (cell_new1 _ _ _) (by simp [Value.oneCell']) ?_ ?_ ?_ ?_) | (at_builtin; refine wpList_append_own _ rfl _ _ 83 rfl (w.heap.size) 3 i0 (.int .i64 0) 1 8 Tryz.underlying83 hi iz0 iz1 iz2 rfl (by decide) _ _ _ rfl ((own_drm HO.out _).alloc _) ⟨_, 0, none⟩ 1 1 [.int .i64 x] rfl rfl (cell_new1 _ _ _) (by simp [Value.oneCell']) ?_ ?_ ?_ ?_) | (refine wp_region_quiet_lit (by kernel_rfl) (by kernel_rfl) ?_; (repeat (any_goals (first | go_big_quiet_step (fail) | quiet_step (fail) | (refine wpQuiet_step (fun K hK => ?_); go_simp; split <;> (refine hK _ ?_; clear hK K))))); all_goals (refine wpQuiet_nil ?_; intro _ hw'; obtain ⟨nq, hw''⟩ := hw'; subst hw'')))
          (all_goals try (first | omega | (unfold maxLen; omega) | (simp; omega) | (simp; unfold maxLen; omega)))
          intro v' w3 o3 hg3 _
          have n3 := own_below (HO.out.alloc _) hg3 (by simp; omega)
          have HB3 := Lib.hid ((below_alloc HB.out _).trans n3)
          have HO3 := Lib.hid (own_onem o3 rfl)
          clear n3 o3 hg3 c0
          go_wp2_with fail
          go_roundw
          case rel => exact ⟨k + 1, false, _, by omega, by go_num, rfl, HI2.out, HO3.out, HB3.out⟩
          case measure => (simp [intOf] <;> omega)
    · obtain rfl : k = c.length := by omega
      have HPL := Lib.hid (show pmL c s = inL s c by unfold pmL; rw [if_neg (by have := HI.out.no; rwa [List.take_length] at this)])
      cases dn with
      | true =>
        have HF := Lib.hid (show out = inL s c by have := HI.out.eq; rw [if_pos rfl, List.drop_length, List.append_nil] at this; exact this)
        rw [HF.out] at HO
        go_wp2_with fail
        go_returns
        exact ⟨_, rfl, by rw [HPL.out]; exact mi_of_own HO.out, HB.out⟩
      | false =>
        have hol2 : out.length = c.length := by have := HI.out.len; simpa using this
        have HF := Lib.hid (show out ++ [s] = inL s c by have := HI.out.eq; rw [if_neg (by decide), List.drop_length] at this; exact this)
        have HLO := Lib.hid hol2
        clear hol2
        go_wp2_with (at_builtin; refine wpList_append_own _ rfl _ _ 83 rfl (w.heap.size) 3 i0 (.int .i64 0) 1 8 Tryz.underlying83 hi iz0 iz1 iz2 rfl (by decide) _ _ _ rfl (HO.out.alloc _) ⟨_, 0, none⟩ 1 1 [.int .i64 s] rfl rfl (cell_new1 _ _ _) (by simp [Value.oneCell']) ?_ ?_ ?_ ?_)
        (all_goals try (first | omega | (unfold maxLen; omega) | (simp; omega) | (simp; unfold maxLen; omega)))
        intro v' w3 o3 hg3 _
        have n3 := own_below (HO.out.alloc _) hg3 (by simp; omega)
        have HB3 := Lib.hid ((below_alloc HB.out _).trans n3)
        have HO3 := Lib.hid (own_onem o3 rfl)
        rw [HF.out] at HO3
        clear n3 o3 hg3
        go_wp2_with fail
        go_returns
        exact ⟨_, rfl, by rw [HPL.out]; exact mi_of_own HO3.out, HB3.out⟩
end

section
open Go.RowKit Go.Shelf

theorem flat_len {l : List (List Sl)} (h : ∀ c ∈ l, c.length ≤ 10000) : l.flatten.length ≤ l.length * 10000 := by
  induction l with
  | nil => simp
  | cons c l ih =>
    have h1 := h c (List.mem_cons_self ..)
    have h2 := ih (fun x hx => h x (List.mem_cons_of_mem _ hx))
    rw [List.flatten_cons, List.length_append, List.length_cons]
    omega
theorem flat_take (l : List (List Sl)) (k : Nat) (h1 : l.length ≤ 1000) (h : ∀ c ∈ l, c.length ≤ 10000) : (l.take k).flatten.length ≤ 10000000 := by
  have := flat_len (l := l.take k) (fun c hc => h c (List.mem_of_mem_take hc))
  have h2 : (l.take k).length ≤ 1000 := by rw [List.length_take]; omega
  omega
theorem flat_succ {l : List (List Sl)} {k : Nat} {c : List Sl} (h : l[k]? = some c) : (l.take (k + 1)).flatten = (l.take k).flatten ++ c := by
  rw [List.take_add_one, h]; simp
theorem YS.all_len {w : World} {v : Value} {y : Yd} (h : YS w v y) : y.all.length ≤ 20000000 := by
  have hs := h.smalls
  have h1 := flat_take y.ns y.ns.length hs.1.1 hs.1.2
  have h2 := flat_take y.ls y.ls.length hs.2.1 hs.2.2
  rw [List.take_length] at h1 h2
  unfold Yd.all
  rw [List.length_append]
  omega
theorem own_sl {w : World} {B n m : Nat} {v : Value} {l c : List Sl} (h : w.ownsRow B 68 3 v (n + m) (slc l ++ slc c)) (hn : n = l.length) (hm : m = c.length) : w.ownsRow B 68 3 v (l ++ c).length (slc (l ++ c)) := by
  subst hn hm
  rw [slc_app, List.length_append]; exact h
/-- The slots, in one new list. -/
def RAll (w : World) (y : Yd) : Ending → World → Prop := fun e w' => ∃ u, e = .returned u ∧ w'.ownsRow w.heap.size 68 3 u y.all.length (slc y.all) ∧ Below w.heap.size w w'
set_option maxRecDepth 100000 in set_option maxHeartbeats 4000000 in
theorem ref10_all (v : Value) (y : Yd) (w : World) (h : YS w v y) : Calls Tryz.prog 77 #[v] w (RAll w y) := by
  obtain ⟨i0, hi, iz0, iz1, iz2⟩ := info_parts infoSlot
  obtain ⟨bn, bl, cn, cl, rfl, h1, h2⟩ := h.ex
  have HN := Lib.hid h1
  have HL := Lib.hid h2
  have m1 := h1.many
  have m2 := h2.many
  have F1 := Lib.hid (fun k => flat_take y.ns k h1.many h1.small)
  have F2 := Lib.hid (fun k => flat_take y.ls k h2.many h2.small)
  clear h h1 h2
  go_enter Tryz.func77, Tryz.ntmps77
  go_wp2_with fail
  have y3 : (w.alloc (.cells #[.int .i64 y.d.x, .int .i64 y.d.y, .int .i64 y.d.z, (.slice bn y.ns.length cn), (.slice bl y.ls.length cl)] 26)).cell? ⟨w.heap.size, 3, none⟩ = some (.slice bn y.ns.length cn) := (Blk.new ..).cell 3 _ rfl
  go_loopw [3, 4] (fun u i wr => ∃ k : Nat, k ≤ y.ns.length ∧ i = .int .i64 k ∧ wr.ownsRow (w.heap.size + 1) 68 3 u (y.ns.take k).flatten.length (slc (y.ns.take k).flatten) ∧ Blk wr w.heap.size 26 #[.int .i64 y.d.x, .int .i64 y.d.y, .int .i64 y.d.z, (.slice bn y.ns.length cn), (.slice bl y.ls.length cl)] ∧ Below w.heap.size w wr) (fun _ i _ => y.ns.length - (intOf i).toNat)
  case atStart => exact ⟨0, Nat.zero_le _, rfl, World.ownsRow_nil _ _ _ _, Blk.new .., by (repeat (first | (with_reducible exact Below.refl _ _) | (with_reducible assumption) | (with_reducible refine below_alloc ?_ _) | (with_reducible refine below_drewN ?_ _) | (with_reducible refine Below.drew ?_) | (with_reducible refine below_then ?_ (by with_reducible assumption)) | (with_reducible refine Below.setCell ?_ (by go_size) _)))⟩
  case round =>
    clear y3
    obtain ⟨k, hk, rfl, ho, hy, hbl⟩ := hrel
    have HO := Lib.hid ho
    have HY := Lib.hid hy
    have HB := Lib.hid hbl
    have hz := hy.lt
    clear ho hy hbl
    have y3 := HY.out.cell 3 _ rfl
    by_cases hlt : k < y.ns.length
    · obtain ⟨c, hc⟩ : ∃ c, y.ns[k]? = some c := ⟨_, List.getElem?_eq_getElem hlt⟩
      obtain ⟨g, o, b, cap, e, hcell, hgl, hcs, _, hnil⟩ := (HN.out.keep HB.out).at hc
      subst e
      have HS := Lib.hid hcs
      have HZ := Lib.hid hnil
      have hfk := F1.out k
      have hf2 := F1.out (k + 1)
      rw [flat_succ hc, List.length_append] at hf2
      have HE := Lib.hid (flat_succ hc)
      have HN2 := Lib.hid (fun (hh : b = none) => show c.length = 0 from by have := hnil hh; have := hcs.rd; rcases Nat.eq_zero_or_pos c.length with h0 | h0; exact h0; (obtain ⟨b', o', e', _⟩ := hcs.at h0; rw [hh] at e'; cases e'))
      clear hcs hnil hc
      go_wp2_with (at_builtin; refine wpList_addE _ rfl _ _ 65 rfl 68 i0 (.agg #[.int .i64 0, .int .i64 0, .int .i64 0]) 3 24 Tryz.underlying65 hi iz0 iz1 iz2 rfl (by decide) (by decide) (w.heap.size + 1) ?q1 _ rfl (y.ns.take k).flatten.length _ HO.out b (c).length cap (slc c) rfl (slc_len _) ?q2 ?q3 (slc_one _) ?q4 ?_)
      case q1 => omega
      case q2 => exact fun hh => ⟨HN2.out hh, HZ.out hh⟩
      case q3 => exact HS.out.rd
      case q4 => omega
      intro v' w3 o3 hb3
      have HO3 := Lib.hid (own_sl o3 (by simp) rfl)
      rw [← HE.out] at HO3
      have HY3 := Lib.hid (HY.out.keep hb3 (by omega))
      have HB3 := Lib.hid (HB.out.trans (hb3.mono (by omega)))
      clear o3 hb3 hcell y3 hf2 hfk
      go_wp2_with fail
      go_roundw
      case rel => exact ⟨k + 1, by omega, by go_num, HO3.out, HY3.out, HB3.out⟩
      case measure => (simp [intOf] <;> omega)
    · obtain rfl : k = y.ns.length := by omega
      have HO2 := Lib.hid (show wr.ownsRow (w.heap.size + 1) 68 3 _ (y.ns.flatten ++ (y.ls.take 0).flatten).length (slc (y.ns.flatten ++ (y.ls.take 0).flatten)) by have := HO.out; rw [List.take_length] at this; simpa using this)
      have y4 := HY.out.cell 4 _ rfl
      clear HO hlt
      go_wp2_with fail
      clear y3 y4
      go_loopw [3, 5] (fun u i wr => ∃ k : Nat, k ≤ y.ls.length ∧ i = .int .i64 k ∧ wr.ownsRow (w.heap.size + 1) 68 3 u (y.ns.flatten ++ (y.ls.take k).flatten).length (slc (y.ns.flatten ++ (y.ls.take k).flatten)) ∧ Blk wr w.heap.size 26 #[.int .i64 y.d.x, .int .i64 y.d.y, .int .i64 y.d.z, (.slice bn y.ns.length cn), (.slice bl y.ls.length cl)] ∧ Below w.heap.size w wr) (fun _ i _ => y.ls.length - (intOf i).toNat)
      case atStart => exact ⟨0, Nat.zero_le _, rfl, HO2.out, HY.out, HB.out⟩
      case round =>
        clear HO2 HY HB hz
        obtain ⟨k, hk, rfl, ho, hy, hbl⟩ := hrel
        have HO := Lib.hid ho
        have HY := Lib.hid hy
        have HB := Lib.hid hbl
        have hz := hy.lt
        clear ho hy hbl
        have y4 := HY.out.cell 4 _ rfl
        by_cases hlt : k < y.ls.length
        · obtain ⟨c, hc⟩ : ∃ c, y.ls[k]? = some c := ⟨_, List.getElem?_eq_getElem hlt⟩
          obtain ⟨g, o, b, cap, e, hcell, hgl, hcs, _, hnil⟩ := (HL.out.keep HB.out).at hc
          subst e
          have HS := Lib.hid hcs
          have HZ := Lib.hid hnil
          have hfn := F1.out y.ns.length
          rw [List.take_length] at hfn
          have hfk := F2.out k
          have hf2 := F2.out (k + 1)
          rw [flat_succ hc, List.length_append] at hf2
          have hfl : (y.ns.flatten ++ (y.ls.take k).flatten).length = y.ns.flatten.length + (y.ls.take k).flatten.length := List.length_append
          have HE := Lib.hid (show y.ns.flatten ++ (y.ls.take (k + 1)).flatten = (y.ns.flatten ++ (y.ls.take k).flatten) ++ c by rw [flat_succ hc, List.append_assoc])
          have HN2 := Lib.hid (fun (hh : b = none) => show c.length = 0 from by have := hnil hh; have := hcs.rd; rcases Nat.eq_zero_or_pos c.length with h0 | h0; exact h0; (obtain ⟨b', o', e', _⟩ := hcs.at h0; rw [hh] at e'; cases e'))
          clear hcs hnil hc
          have HFL := Lib.hid (show (y.ns.flatten ++ (y.ls.take k).flatten).length + c.length ≤ 100000000 by omega)
          clear hfl hfn hfk hf2
          go_wp2_with (at_builtin; refine wpList_addE _ rfl _ _ 65 rfl 68 i0 (.agg #[.int .i64 0, .int .i64 0, .int .i64 0]) 3 24 Tryz.underlying65 hi iz0 iz1 iz2 rfl (by decide) (by decide) (w.heap.size + 1) ?q1 _ rfl (y.ns.flatten ++ (y.ls.take k).flatten).length _ HO.out b (c).length cap (slc c) rfl (slc_len _) ?q2 ?q3 (slc_one _) ?q4 ?_)
          case q1 => omega
          case q2 => exact fun hh => ⟨HN2.out hh, HZ.out hh⟩
          case q3 => exact HS.out.rd
          case q4 => exact HFL.out
          intro v' w3 o3 hb3
          have HO3 := Lib.hid (own_sl o3 (by simp) rfl)
          rw [← HE.out] at HO3
          have HY3 := Lib.hid (HY.out.keep hb3 (by omega))
          have HB3 := Lib.hid (HB.out.trans (hb3.mono (by omega)))
          clear o3 hb3 hcell y4
          go_wp2_with fail
          go_roundw
          case rel => exact ⟨k + 1, by omega, by go_num, HO3.out, HY3.out, HB3.out⟩
          case measure => (simp [intOf] <;> omega)
        · obtain rfl : k = y.ls.length := by omega
          have HO2 := Lib.hid (show wr.ownsRow (w.heap.size + 1) 68 3 _ y.all.length (slc y.all) by have := HO.out; rw [List.take_length] at this; exact this)
          clear HO
          go_wp2_with fail
          go_returns
          exact ⟨_, rfl, own_mono HO2.out (by omega), HB.out⟩
/-! ### the slots are read one after another -/
theorem sl_at {w : World} {base : Option Addr} {c : List Sl} (h : Rd w base (slc c)) {k : Nat} (hk : k < c.length) :
    ∃ b off, base = some ⟨b, off, none⟩ ∧ w.cell? ⟨b, off + k * 3, none⟩ = some (.int .i64 c[k].f) ∧ w.cell? ⟨b, off + k * 3 + 1, none⟩ = some (.int .i64 c[k].t) ∧ w.cell? ⟨b, off + k * 3 + 2, none⟩ = some (.int .i64 c[k].o) ∧ b < w.heap.size := by
  obtain ⟨b, off, e, h0⟩ := h _ _ (show (slc c)[k * 3 + 0]? = some (Value.int .i64 c[k].f) from slc_at hk 0 (by omega))
  obtain ⟨b1, off1, e1, h1⟩ := h _ _ (show (slc c)[k * 3 + 1]? = some (Value.int .i64 c[k].t) from slc_at hk 1 (by omega))
  obtain ⟨b2, off2, e2, h2⟩ := h _ _ (show (slc c)[k * 3 + 2]? = some (Value.int .i64 c[k].o) from slc_at hk 2 (by omega))
  subst e
  cases e1
  cases e2
  exact ⟨b, off, rfl, h0, h1, h2, World.block_lt_of_cell? w _ h0⟩
theorem ends_take {p : Sl → Bool} {c : List Sl} {k : Nat} (hk : k < c.length) : endsL p (c.take (k + 1)) = endsL p (c.take k) ++ (if p c[k] then [c[k].t] else []) := by
  rw [List.take_succ_eq_append_getElem hk, endsL_snoc]
theorem puts_take {l : List Int} {p : Sl → Bool} {c : List Sl} {k : Nat} (hk : k < c.length) : pmsL l (endsL p (c.take (k + 1))) = if p c[k] then pmL (pmsL l (endsL p (c.take k))) c[k].t else pmsL l (endsL p (c.take k)) := by
  rw [ends_take hk]
  split
  · rw [pmsL_snoc]
  · rw [List.append_nil]
theorem puts_small {l : List Int} {p : Sl → Bool} {c : List Sl} (k : Nat) (h1 : l.length ≤ 1) (h2 : c.length ≤ 20000000) : (pmsL l (endsL p (c.take k))).length ≤ 100000000 := by
  have h3 := pmsL_len (endsL p (c.take k)) l
  have h4 := endsL_len p (c.take k)
  have h5 : (c.take k).length ≤ c.length := by rw [List.length_take]; omega
  omega
theorem mi_one {W : World} {B : Nat} {f : Int} {t : TypeId} (h : Blk W B t #[.int .i64 f]) (cap : Nat) : MIn W (.slice (some ⟨B, 0, none⟩) 1 cap) [f] :=
  ⟨some ⟨B, 0, none⟩, cap, rfl, fun i v hi => by
    match i, hi with
    | 0, hi => exact ⟨B, 0, rfl, by cases hi; exact h.cell 0 _ rfl⟩
    | i + 1, hi => simp [wi] at hi⟩
theorem mi_nil (W : World) : MIn W (.slice none 0 0) [] := ⟨none, 0, rfl, fun i v hi => by simp [wi] at hi⟩

set_option maxRecDepth 100000 in set_option maxHeartbeats 4000000 in
theorem ref10_Moments (v : Value) (y : Yd) (f : Int) (w : World) (h : YS w v y) : Calls Tryz.prog 41 #[v, .int .i64 f] w (RM w (pmsL [f] (endsL (afterB f) y.all))) := by
  obtain ⟨bn, bl, cn, cl, rfl, h1, h2⟩ := h.ex
  have HA := Lib.hid (fun W (hb : Below w.heap.size w W) => ref10_all _ y W (h.keep hb))
  have hal := h.all_len
  clear h h1 h2
  go_enter Tryz.func41, Tryz.ntmps41
  go_wp2_with fail
  refine (HA.out _ (by (repeat (first | (with_reducible exact Below.refl _ _) | (with_reducible assumption) | (with_reducible refine below_alloc ?_ _) | (with_reducible refine below_drewN ?_ _) | (with_reducible refine Below.drew ?_) | (with_reducible refine below_then ?_ (by with_reducible assumption)) | (with_reducible refine Below.setCell ?_ (by go_size) _))))).mono ?_
  rintro e w1 ⟨u0, rfl, ho, hb⟩
  obtain ⟨bs, cs, rfl, hrd, _⟩ := own_rd ho
  have HS := Lib.hid hrd
  have HB1 := Lib.hid (below_then (show Below w.heap.size w ((w.alloc (.cells #[.int .i64 y.d.x, .int .i64 y.d.y, .int .i64 y.d.z, (.slice bn y.ns.length cn), (.slice bl y.ls.length cl)] 26)).alloc (.cells #[.int .i64 f] 3)) by (repeat (first | (with_reducible exact Below.refl _ _) | (with_reducible assumption) | (with_reducible refine below_alloc ?_ _) | (with_reducible refine below_drewN ?_ _) | (with_reducible refine Below.drew ?_) | (with_reducible refine below_then ?_ (by with_reducible assumption)) | (with_reducible refine Below.setCell ?_ (by go_size) _)))) hb)
  have HM1 := Lib.hid (MIn.keep (mi_one (show Blk ((w.alloc (.cells #[.int .i64 y.d.x, .int .i64 y.d.y, .int .i64 y.d.z, (.slice bn y.ns.length cn), (.slice bl y.ls.length cl)] 26)).alloc (.cells #[.int .i64 f] 3)) (w.heap.size + 1) 3 #[.int .i64 f] by have := Blk.new (w.alloc (.cells #[.int .i64 y.d.x, .int .i64 y.d.y, .int .i64 y.d.z, (.slice bn y.ns.length cn), (.slice bl y.ls.length cl)] 26)) 3 #[.int .i64 f]; rwa [World.size_alloc] at this) 1) hb)
  clear ho hrd hb HA
  generalize y.all = c at *
  go_wp2_with fail
  go_loopw [5, 7] (fun x i wr => ∃ (k : Nat) (u : Value), k ≤ c.length ∧ i = .int .i64 k ∧ u = x ∧ MIn wr u (pmsL [f] (endsL (afterB f) (c.take k))) ∧ Below w1.heap.size w1 wr) (fun _ i _ => c.length - (intOf i).toNat)
  case atStart => exact ⟨0, _, Nat.zero_le _, rfl, rfl, HM1.out, Below.refl _ _⟩
  case round =>
    clear HM1
    obtain ⟨k, u, hk, rfl, hu, hm, hbl⟩ := hrel
    subst hu
    have HM := Lib.hid hm
    have HB := Lib.hid hbl
    clear hm hbl
    by_cases hlt : k < c.length
    · obtain ⟨b, off, rfl, c0, c1, c2, _⟩ := sl_at (HS.out.keep HB.out) hlt
      have HN := Lib.hid (puts_take (l := [f]) (p := afterB f) hlt)
      have HD := Lib.hid (show afterB f c[k] = (decide (f < c[k].t) && decide (c[k].t < 1099511627776)) from rfl)
      obtain ⟨t, ht⟩ : ∃ t, t = c[k].t := ⟨_, rfl⟩
      rw [← ht] at c1 HN HD
      clear ht c0 c2
      by_cases d1 : f < t
      · by_cases d2 : t < 1099511627776
        · have q1 : decide (f < t) = true := decide_eq_true d1
          have q2 : decide (t < 1099511627776) = true := decide_eq_true d2
          have HP := Lib.hid (ref10_put u _ t wr HM.out (puts_small k (by simp) hal))
          have HE := Lib.hid (show pmsL [f] (endsL (afterB f) (c.take (k + 1))) = _ by rw [HN.out, HD.out, q1, q2] <;> exact if_pos rfl)
          clear HN HD
          go_wp2_with fail
          refine HP.out.mono ?_
          rintro e w2 ⟨v2, rfl, hm2, hb2⟩
          have HM2 := Lib.hid hm2
          have HB2 := Lib.hid (below_then HB.out hb2)
          clear hm2 hb2 c1
          go_wp2_with fail
          go_roundw
          case rel => exact ⟨k + 1, _, by omega, by go_num, rfl, by rw [HE.out]; exact HM2.out, HB2.out⟩
          case measure => (simp [intOf] <;> omega)
        · have q1 : decide (f < t) = true := decide_eq_true d1
          have q2 : decide (t < 1099511627776) = false := decide_eq_false d2
          have HE := Lib.hid (show pmsL [f] (endsL (afterB f) (c.take (k + 1))) = _ by rw [HN.out, HD.out, q1, q2] <;> exact if_neg (by decide))
          clear HN HD
          go_wp2_with fail
          go_roundw
          case rel => exact ⟨k + 1, _, by omega, by go_num, rfl, by rw [HE.out]; exact HM.out, HB.out⟩
          case measure => (simp [intOf] <;> omega)
      · have q1 : decide (f < t) = false := decide_eq_false d1
        have HE := Lib.hid (show pmsL [f] (endsL (afterB f) (c.take (k + 1))) = _ by rw [HN.out, HD.out, q1] <;> exact if_neg (by decide))
        clear HN HD
        go_wp2_with fail
        go_roundw
        case rel => exact ⟨k + 1, _, by omega, by go_num, rfl, by rw [HE.out]; exact HM.out, HB.out⟩
        case measure => (simp [intOf] <;> omega)
    · obtain rfl : k = c.length := by omega
      have HF := Lib.hid (show MIn wr u (pmsL [f] (endsL (afterB f) c)) by have := HM.out; rwa [List.take_length] at this)
      go_wp2_with fail
      go_returns
      exact ⟨_, rfl, HF.out, below_then HB1.out HB.out⟩
/-- A list handed back, and an error. -/
def RME (w : World) (l : List Int) (x : Int) : Ending → World → Prop := fun e w' => ∃ v, e = .returned (.tuple #[v, .int .i64 x]) ∧ MIn w' v l ∧ Below w.heap.size w w'
theorem ys_May {W : World} {v : Value} {y : Yd} (h : YS W v y) : Calls Tryz.prog 40 #[v] W (RB W (.bool y.okB)) := by
  obtain ⟨bn, bl, cn, cl, rfl, h1, h2⟩ := h.ex
  exact ref09_May y.d bn bl cn cl y.ns y.ls W h1 h2
theorem last_take {c : List Sl} {k : Nat} (hk : k < c.length) : lastL (c.take (k + 1)) = max (lastL (c.take k)) c[k].t := by
  rw [List.take_succ_eq_append_getElem hk, lastL_snoc]
end
end
end Go.Proofs.YtofoenlhbmammaaGreat
