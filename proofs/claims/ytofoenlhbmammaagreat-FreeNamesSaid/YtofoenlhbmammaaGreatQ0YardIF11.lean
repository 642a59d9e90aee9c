/- YARDS: those of a list of which something holds; the document's Busy and Owned. -/
import Derived.Deep.DeepCutAuto
import Derived.Deep.RegionHeld3
import Derived.Test.YtofoenlhbmammaaGreatQ10F11
import Derived.Test.YtofoenlhbmammaaGreatQ0CalAF11
import Derived.Test.YtofoenlhbmammaaGreatQ0CalLawF11
import Derived.Test.YtofoenlhbmammaaGreatQ0YardAF11
set_option linter.unusedVariables false
set_option linter.unusedSimpArgs false
namespace Go.Proofs.YtofoenlhbmammaaGreat

section
section
open Go.RowKit Go.Shelf

theorem totTo_tot (ns : List (List Sl)) (k : Nat) : totTo ns k ≤ tot ns := by
  unfold totTo tot
  conv => rhs; rw [← List.take_append_drop k ns]
  rw [List.map_append, List.sum_append]
  omega
/-- The numbers of the first k of which something holds. -/
def whTo (p : List Sl → Bool) (ns : List (List Sl)) : Nat → List Int
  | 0 => []
  | k + 1 => whTo p ns k ++ (match ns[k]? with | some c => if p c then [(k : Int)] else [] | none => [])
theorem whTo_yes {p : List Sl → Bool} {ns : List (List Sl)} {k : Nat} {c : List Sl} (h : ns[k]? = some c) (hp : p c = true) : whTo p ns (k + 1) = whTo p ns k ++ [(k : Int)] := by
  rw [whTo, h]; simp [hp]
theorem whTo_no {p : List Sl → Bool} {ns : List (List Sl)} {k : Nat} {c : List Sl} (h : ns[k]? = some c) (hp : p c = false) : whTo p ns (k + 1) = whTo p ns k := by
  rw [whTo, h]; simp [hp]
theorem whTo_len (p : List Sl → Bool) (ns : List (List Sl)) : ∀ k, (whTo p ns k).length ≤ k
  | 0 => Nat.le_refl _
  | k + 1 => by
    have h := whTo_len p ns k
    rw [whTo, List.length_append]
    have : (match ns[k]? with | some c => if p c then [(k : Int)] else [] | none => []).length ≤ 1 := by
      split
      · split <;> simp
      · simp
    omega
theorem whTo_mem {p : List Sl → Bool} {ns : List (List Sl)} : ∀ {k : Nat} {x : Int}, x ∈ whTo p ns k ↔ ∃ j c, j < k ∧ x = (j : Int) ∧ ns[j]? = some c ∧ p c = true
  | 0, x => by simp [whTo]
  | k + 1, x => by
    rw [whTo, List.mem_append, whTo_mem]
    constructor
    · rintro (⟨j, c, h1, h2, h3, h4⟩ | h)
      · exact ⟨j, c, by omega, h2, h3, h4⟩
      · split at h
        · next c hc =>
          split at h
          · next hp =>
            refine ⟨k, c, by omega, by simpa using h, hc, hp⟩
          · cases h
        · cases h
    · rintro ⟨j, c, h1, h2, h3, h4⟩
      rcases Nat.lt_or_ge j k with hj | hj
      · exact .inl ⟨j, c, hj, h2, h3, h4⟩
      · obtain rfl : j = k := by omega
        refine .inr ?_
        rw [h3]
        simp [h4, h2]
theorem whTo_in (p : List Sl → Bool) (ns : List (List Sl)) {k : Nat} (n : Int) (h : (k : Int) ≤ n) : inR n (whTo p ns k) = true := by
  unfold inR
  rw [List.all_eq_true]
  intro x hx
  obtain ⟨j, c, h1, rfl, _⟩ := whTo_mem.1 hx
  rw [decide_eq_true_iff]
  omega
/-- The set of those of which something holds. -/
def whS (p : List Sl → Bool) (ns : List (List Sl)) : List Nat := bitsOf (nWords ns.length) (whTo p ns ns.length)
/-- How many slots of a calendar are an owner's at a moment; whether one is. -/
def mine (ow a : Int) (s : Sl) : Bool := decide (s.o = ow) && inB s.f s.t a
def ownB (ow a : Int) (c : List Sl) : Bool := c.any (mine ow a)
def ownsTo (ow a : Int) (c : List Sl) (j : Nat) : Nat := (c.take j).countP (mine ow a)
/-- Those of a list that are an owner's, each as often as it has slots of his. -/
def dupTo (ow a : Int) (ns : List (List Sl)) : Nat → List Int
  | 0 => []
  | k + 1 => dupTo ow a ns k ++ List.replicate ((ns[k]?.getD []).countP (mine ow a)) (k : Int)
theorem dupTo_len (ow a : Int) (ns : List (List Sl)) : ∀ k, (dupTo ow a ns k).length ≤ totTo ns k
  | 0 => Nat.zero_le _
  | k + 1 => by
    have h := dupTo_len ow a ns k
    rw [dupTo, List.length_append, List.length_replicate]
    rcases Nat.lt_or_ge k ns.length with hk | hk
    · have hc : ns[k]? = some ns[k] := List.getElem?_eq_getElem hk
      rw [hc, totTo_succ hc]
      have := List.countP_le_length (p := mine ow a) (l := ns[k])
      simp only [Option.getD_some]
      omega
    · have e : ns[k]? = none := List.getElem?_eq_none hk
      rw [e]
      simp only [Option.getD_none, List.countP_nil]
      have : totTo ns (k + 1) = totTo ns k := by unfold totTo; rw [List.take_of_length_le (by omega), List.take_of_length_le (by omega)]
      omega
theorem dupTo_in (ow a : Int) (ns : List (List Sl)) (n : Int) : ∀ {k : Nat}, (k : Int) ≤ n → inR n (dupTo ow a ns k) = true
  | 0, _ => rfl
  | k + 1, h => by
    unfold inR
    rw [dupTo, List.all_append, Bool.and_eq_true]
    refine ⟨dupTo_in ow a ns n (by omega), ?_⟩
    rw [List.all_eq_true]
    intro x hx
    rw [(List.mem_replicate.1 hx).2, decide_eq_true_iff]
    omega
theorem bits_rep (m : Nat) (l : List Int) (x : Int) (h : x.toNat / 64 < m) : ∀ n, bitsOf m (l ++ List.replicate (n + 1) x) = putBit (bitsOf m l) x.toNat
  | 0 => bitsOf_snoc m l x
  | n + 1 => by
    rw [List.replicate_succ', ← List.append_assoc, bitsOf_snoc, bits_rep m l x h n]
    refine putBit_same ?_ (by rw [putBit_len, bitsOf_len]; exact h)
    rw [there_putBit (by rw [bitsOf_len]; exact h)]
    simp
theorem dup_bits (ow a : Int) (ns : List (List Sl)) (m : Nat) : ∀ k, k ≤ ns.length → k ≤ 64 * m → bitsOf m (dupTo ow a ns k) = bitsOf m (whTo (ownB ow a) ns k)
  | 0, _, _ => rfl
  | k + 1, h, hm => by
    have ih := dup_bits ow a ns m k (by omega) (by omega)
    have hc : ns[k]? = some ns[k] := List.getElem?_eq_getElem (by omega)
    rw [dupTo, hc]
    simp only [Option.getD_some]
    cases hp : ownB ow a ns[k] with
    | true =>
      rw [whTo_yes hc hp, bitsOf_snoc, ← ih]
      obtain ⟨s, h1, h2⟩ := List.any_eq_true.1 hp
      have hpos : 0 < ns[k].countP (mine ow a) := List.countP_pos_iff.2 ⟨s, h1, h2⟩
      obtain ⟨n, hn⟩ : ∃ n, ns[k].countP (mine ow a) = n + 1 := ⟨_, (Nat.succ_pred_eq_of_pos hpos).symm⟩
      rw [hn]
      exact bits_rep m _ _ (by simp; omega) n
    | false =>
      rw [whTo_no hc hp, ← ih]
      have hz : ns[k].countP (mine ow a) = 0 := by
        rw [List.countP_eq_zero]
        intro s hs
        exact fun h2 => by have := List.any_eq_true.2 ⟨s, hs, h2⟩; rw [show ns[k].any (mine ow a) = false from hp] at this; cases this
      rw [hz]
      simp
/-! ### the calendar's own answers -/
theorem hit_own {c : List Sl} (h : calE c = 0) (ow : Int) {a : Int} (h0 : 0 ≤ a) (h1 : a < 1099511627776) : (decide (atE c a = 0) && decide (atO c a = ow)) = ownB ow a c := by
  obtain ⟨hch, hl⟩ := calE_ok h
  have hE : atE c a = if (hitAt c a).isSome then 0 else 6 := by rw [atE, if_pos h, if_pos ⟨h0, h1⟩]
  cases hh : hitAt c a with
  | none =>
    have e : atE c a = 6 := by rw [hE, hh]; rfl
    rw [e]
    symm
    show ownB ow a c = false
    unfold ownB
    rw [List.any_eq_false]
    intro s hs hm
    obtain ⟨k, hk, rfl⟩ := List.mem_iff_getElem.1 hs
    unfold mine inB at hm
    simp only [Bool.and_eq_true, decide_eq_true_eq] at hm
    have h2 : ¬ k < aft c a := fun h5 => by have := (aft_iff hch a hk).2 h5; omega
    have h3 : aft c a < c.length := by omega
    have h4 : c[aft c a].f ≤ a := by
      rcases Nat.lt_or_ge (aft c a) k with h5 | h5
      · have := chain_next hch hk h3 h5
        have := (chain_may hch h3).1.1
        omega
      · have e : k = aft c a := by omega
        subst e
        exact hm.2.1
    unfold hitAt at hh
    rw [List.getElem?_eq_getElem h3] at hh
    simp only at hh
    rw [if_pos h4] at hh
    cases hh
  | some s =>
    have e : atE c a = 0 := by rw [hE, hh]; rfl
    have eo : atO c a = s.o := by rw [atO, if_pos e, hh]; rfl
    have h3 : aft c a < c.length := by
      rcases Nat.lt_or_ge (aft c a) c.length with h5 | h5
      · exact h5
      · unfold hitAt at hh; rw [List.getElem?_eq_none h5] at hh; cases hh
    unfold hitAt at hh
    rw [List.getElem?_eq_getElem h3] at hh
    simp only at hh
    by_cases hf : c[aft c a].f ≤ a
    · rw [if_pos hf] at hh
      cases hh
      have h6 : a < c[aft c a].t := by
        rcases Int.lt_or_le a c[aft c a].t with h7 | h7
        · exact h7
        · have := (aft_iff hch a h3).1 h7; omega
      rw [e, eo, decide_eq_true (show (0 : Int) = 0 from rfl), Bool.true_and]
      by_cases ho : c[aft c a].o = ow
      · rw [decide_eq_true ho]
        symm
        exact List.any_eq_true.2 ⟨c[aft c a], List.getElem_mem h3, by unfold mine inB; simp; omega⟩
      · rw [decide_eq_false ho]
        symm
        unfold ownB
        rw [List.any_eq_false]
        intro s hs hm
        obtain ⟨k, hk, rfl⟩ := List.mem_iff_getElem.1 hs
        unfold mine inB at hm
        simp only [Bool.and_eq_true, decide_eq_true_eq] at hm
        rcases Nat.lt_trichotomy (aft c a) k with h5 | h5 | h5
        · have := chain_next hch hk h3 h5
          omega
        · subst h5
          exact ho hm.1
        · have := (aft_iff hch a hk).2 h5
          omega
    · rw [if_neg hf] at hh
      cases hh
theorem free_busy {c : List Sl} (h : calE c = 0) {f t : Int} (hm : spMay f t) : freeV c f t = clearB c f t := by
  rw [← clearV_eq]
  have : freeE c f t = 0 := by unfold freeE; rw [if_pos h, okIf_yes hm]
  unfold clearV
  rw [if_pos this]
end

section
open Go.RowKit Go.Shelf

set_option maxRecDepth 100000 in set_option maxHeartbeats 4000000 in
theorem ref09_busy (bn : Option Addr) (cn : Nat) (ns : List (List Sl)) (f t : Int) (w : World) (hn : CC w bn ns) (hm : nMay ns.length) :
    Calls Tryz.prog 90 #[.slice bn ns.length cn, .agg #[.int .i64 f, .int .i64 t]] w (RU w (whS (fun c => !clearB c f t) ns)) := by
  obtain ⟨i0, hi, iz0, iz1, iz2⟩ := info_parts infoInt
  have HN := Lib.hid hn
  have h9 := hn.many
  have HF := Lib.hid (fun (l : List Int) bl cl W (h : LIn W bl l) (h1 : l.length ≤ 65536) (h2 : inR ns.length l = true) => ref03_From ns.length bl cl l W h hm h1 h2)
  have HX := Lib.hid (whTo_in (fun c => !clearB c f t) ns (k := ns.length) ns.length (Int.le_refl _))
  have HL := Lib.hid (fun k => whTo_len (fun c => !clearB c f t) ns k)
  clear hn hm
  go_enter Tryz.func90, Tryz.ntmps90
  go_wp2_with fail
  go_loopw [5, 6] (fun v i wr => ∃ k : Nat, k ≤ ns.length ∧ i = .int .i64 k ∧ wr.ownsRow (w.heap.size + 1) 3 1 v (whTo (fun c => !clearB c f t) ns k).length ((whTo (fun c => !clearB c f t) ns k).map (Value.int .i64)) ∧ Below w.heap.size w wr ∧ wr.cell? ⟨w.heap.size, 0, none⟩ = some (.int .i64 f) ∧ wr.cell? ⟨w.heap.size, 1, none⟩ = some (.int .i64 t)) (fun _ i _ => ns.length - (intOf i).toNat)
  case atStart => exact ⟨0, Nat.zero_le _, rfl, World.ownsRow_nil _ _ _ _, by (repeat (first | (with_reducible exact Below.refl _ _) | (with_reducible assumption) | (with_reducible refine below_alloc ?_ _) | (with_reducible refine below_drewN ?_ _) | (with_reducible refine Below.drew ?_) | (with_reducible refine below_then ?_ (by with_reducible assumption)) | (with_reducible refine Below.setCell ?_ (by go_size) _))), by simp [go_sem], by simp [go_sem]⟩
  case round =>
    obtain ⟨k, hk, rfl, hown, hbel, c0, c1⟩ := hrel
    have HO := Lib.hid hown
    have HB := Lib.hid hbel
    have hul := HL.out k
    have hsz := hbel.size
    have hlt0 : w.heap.size < wr.heap.size := World.block_lt_of_cell? wr _ c0
    clear hown hbel
    by_cases hlt : k < ns.length
    · obtain ⟨c, hc⟩ : ∃ c, ns[k]? = some c := ⟨_, List.getElem?_eq_getElem hlt⟩
      obtain ⟨g, o, b, cap, e, hcell, hgl, hcs, _⟩ := (HN.out.keep HB.out).at hc
      subst e
      cases hcl : clearB c f t with
      | true =>
        have HM := Lib.hid (fun (x : Aft wr) => Calls.aft_of (x := x) (Calls.rb_eq (ref08_Clear b cap c f t x.to (hcs.keep x.h)) (show Value.bool (clearB c f t) = _ by rw [hcl])))
        have HU := Lib.hid (whTo_no (p := fun c => !clearB c f t) hc (by rw [hcl]; rfl))
        clear hcs hc hcl
        go_wp2_with (refine wp_region_aft (by kernel_rfl) (by kernel_rfl) ?_; (repeat (any_goals (first | go_big_quiet_step (with_reducible exact HM.out _) | quiet_step (with_reducible exact HM.out _) | (refine wpQuiet_step (fun K hK => ?_); go_simp; split <;> (refine hK _ ?_; clear hK K))))); all_goals (refine wpQuiet_nil ?_; intro wq hw'; obtain ⟨x1, hx1⟩ := hw'; have hbq := x1.h; rw [← hx1] at hbq; clear hx1 x1))
        all_goals
          go_roundw
          case rel => exact ⟨k + 1, by omega, by go_num, by rw [HU.out]; exact own_keep HO.out (by (repeat (first | (with_reducible exact Below.refl _ _) | (with_reducible assumption) | (with_reducible refine below_alloc ?_ _) | (with_reducible refine below_drewN ?_ _) | (with_reducible refine Below.drew ?_) | (with_reducible refine below_then ?_ (by with_reducible assumption)) | (with_reducible refine Below.setCell ?_ (by go_size) _)))), below_then HB.out (by (repeat (first | (with_reducible exact Below.refl _ _) | (with_reducible assumption) | (with_reducible refine below_alloc ?_ _) | (with_reducible refine below_drewN ?_ _) | (with_reducible refine Below.drew ?_) | (with_reducible refine below_then ?_ (by with_reducible assumption)) | (with_reducible refine Below.setCell ?_ (by go_size) _)))), (hbq.cell (p := ⟨w.heap.size, 0, none⟩) hlt0).trans c0, (hbq.cell (p := ⟨w.heap.size, 1, none⟩) hlt0).trans c1⟩
          case measure => (simp [intOf] <;> omega)
      | false =>
        have HM := Lib.hid (fun (x : Aft wr) => Calls.aft_of (x := x) (Calls.rb_eq (ref08_Clear b cap c f t x.to (hcs.keep x.h)) (show Value.bool (clearB c f t) = _ by rw [hcl])))
        have HU := Lib.hid (whTo_yes (p := fun c => !clearB c f t) hc (by rw [hcl]; rfl))
        clear hcs hc hcl
        go_upto_region 6 with (refine wp_region_aft (by kernel_rfl) (by kernel_rfl) ?_; (repeat (any_goals (first | go_big_quiet_step (with_reducible exact HM.out _) | quiet_step (with_reducible exact HM.out _) | (refine wpQuiet_step (fun K hK => ?_); go_simp; split <;> (refine hK _ ?_; clear hK K))))); all_goals (refine wpQuiet_nil ?_; intro wq hw'; obtain ⟨x1, hx1⟩ := hw'; have hbq := x1.h; rw [← hx1] at hbq; clear hx1 x1))
        have HO := Lib.hid (own_keep HO.out hbq)
        have hzq := hbq.size
        go_wp2_with (at_builtin; refine wpList_append_own _ rfl _ _ 83 rfl (w.heap.size + 1) 3 i0 (.int .i64 0) 1 8 Tryz.underlying83 hi iz0 iz1 iz2 rfl (by decide) _ _ _ rfl ((HO.out).alloc _) ⟨_, 0, none⟩ 1 1 [.int .i64 ((k : Int))] rfl rfl (cell_new1 _ _ _) (by simp [Value.oneCell']) ?ap3 ?ap4 ?ap5 ?_)
        case ap3 => unfold maxLen; omega
        case ap4 => omega
        case ap5 => simp; omega
        intro v' w3 o3 hg3 _
        have n3 := own_below (HO.out.alloc _) hg3 (by simp; omega)
        have m3 := ((Below.refl wq.heap.size wq).alloc (Nat.le_refl _) _).mono (show w.heap.size + 1 ≤ wq.heap.size by omega) |>.trans n3
        have q3 := (hbq.mono (show w.heap.size + 1 ≤ wr.heap.size by omega)).trans m3
        have HB := Lib.hid (HB.out.trans (q3.mono (Nat.le_succ _)))
        have HO := Lib.hid (show w3.ownsRow (w.heap.size + 1) 3 1 v' (whTo (fun c => !clearB c f t) ns (k + 1)).length ((whTo (fun c => !clearB c f t) ns (k + 1)).map (Value.int .i64)) by rw [HU.out]; simpa using o3)
        have c0 := (q3.cell (p := ⟨w.heap.size, 0, none⟩) (Nat.lt_succ_self _)).trans c0
        have c1 := (q3.cell (p := ⟨w.heap.size, 1, none⟩) (Nat.lt_succ_self _)).trans c1
        clear m3 n3 o3 hg3 q3
        go_wp2_with fail
        go_roundw
        case rel => exact ⟨k + 1, by omega, by go_num, HO.out, HB.out, c0, c1⟩
        case measure => (simp [intOf] <;> omega)
    · obtain rfl : k = ns.length := by omega
      obtain ⟨base, cap, rfl, hli, _⟩ := list_of_own HO.out (by omega)
      have HLI := Lib.hid (HF.out _ base cap wr hli (by omega) HX.out)
      clear hli
      go_wp2_with fail
      refine (HLI.out).mono ?_
      rintro e w1 ⟨v, rfl, ho, hb1⟩
      go_wp2_with fail
      go_returns
      exact ⟨_, rfl, own_mono ho hsz, below_then HB.out hb1⟩

theorem ownsTo_succ {ow a : Int} {c : List Sl} {j : Nat} (h : j < c.length) : ownsTo ow a c (j + 1) = ownsTo ow a c j + (if mine ow a c[j] then 1 else 0) := by
  unfold ownsTo
  rw [List.take_succ_eq_append_getElem h, List.countP_append]
  congr 1
  simp [List.countP_cons]
theorem ownsTo_le (ow a : Int) (c : List Sl) (j : Nat) : ownsTo ow a c j ≤ c.length := by
  unfold ownsTo
  exact Nat.le_trans List.countP_le_length (by rw [List.length_take]; omega)
/-- Those laid ahead of a slot. -/
def dupAt (ow a : Int) (ns : List (List Sl)) (k : Nat) (c : List Sl) (j : Nat) : List Int := dupTo ow a ns k ++ List.replicate (ownsTo ow a c j) (k : Int)
theorem dupAt_no {ow a : Int} {ns : List (List Sl)} {k : Nat} {c : List Sl} {j : Nat} (h : j < c.length) (hm : mine ow a c[j] = false) : dupAt ow a ns k c (j + 1) = dupAt ow a ns k c j := by
  unfold dupAt; rw [ownsTo_succ h, hm]; rfl
theorem dupAt_yes {ow a : Int} {ns : List (List Sl)} {k : Nat} {c : List Sl} {j : Nat} (h : j < c.length) (hm : mine ow a c[j] = true) : dupAt ow a ns k c (j + 1) = dupAt ow a ns k c j ++ [(k : Int)] := by
  unfold dupAt; rw [ownsTo_succ h, hm, if_pos rfl, List.replicate_succ', List.append_assoc]
theorem dupAt_all {ow a : Int} {ns : List (List Sl)} {k : Nat} {c : List Sl} (h : ns[k]? = some c) : dupAt ow a ns k c c.length = dupTo ow a ns (k + 1) := by
  unfold dupAt ownsTo; rw [dupTo, h, List.take_length]; rfl
theorem dupAt_zero {ow a : Int} {ns : List (List Sl)} {k : Nat} {c : List Sl} : dupAt ow a ns k c 0 = dupTo ow a ns k := by
  unfold dupAt ownsTo; simp
theorem dupAt_len (ow a : Int) (ns : List (List Sl)) (k : Nat) (c : List Sl) (j : Nat) : (dupAt ow a ns k c j).length ≤ totTo ns k + c.length := by
  unfold dupAt
  rw [List.length_append, List.length_replicate]
  have h1 := dupTo_len ow a ns k
  have h2 := ownsTo_le ow a c j
  omega
end

section
open Go.RowKit Go.Shelf

/-- Two new sets; with an error. -/
def RU2 (w : World) (a b : List Nat) : Ending → World → Prop := fun e w' =>
  ∃ u v, e = .returned (.tuple #[u, v]) ∧ w'.ownsRow w.heap.size 56 1 u a.length (wcells a) ∧ w'.ownsRow w.heap.size 56 1 v b.length (wcells b) ∧ Below w.heap.size w w'
def RU2E (w : World) (a b : List Nat) (x : Int) : Ending → World → Prop := fun e w' =>
  ∃ u v, e = .returned (.tuple #[u, v, .int .i64 x]) ∧ w'.ownsRow w.heap.size 56 1 u a.length (wcells a) ∧ w'.ownsRow w.heap.size 56 1 v b.length (wcells b) ∧ Below w.heap.size w w'
theorem RU2E.nil (w w' : World) (x : Int) (h : Below w.heap.size w w') : RU2E w [] [] x (.returned (.tuple #[.slice none 0 0, .slice none 0 0, .int .i64 x])) w' :=
  ⟨_, _, rfl, World.ownsRow_nil _ _ _ _, World.ownsRow_nil _ _ _ _, h⟩

set_option maxRecDepth 100000 in set_option maxHeartbeats 4000000 in
theorem ref09_Through (d : V3) (bn bl : Option Addr) (cn cl : Nat) (ns ls : List (List Sl)) (f t : Int) (w : World) (hn : CC w bn ns) (hl : CC w bl ls) (mn : nMay ns.length) (ml : nMay ls.length) :
    Calls Tryz.prog 57 #[.agg #[.int .i64 d.x, .int .i64 d.y, .int .i64 d.z, (.slice bn ns.length cn), (.slice bl ls.length cl)], .agg #[.int .i64 f, .int .i64 t]] w (RU2 w (whS (fun c => !clearB c f t) ns) (whS (fun c => !clearB c f t) ls)) := by
  obtain ⟨W0, hW0⟩ : ∃ W0, W0 = (w.alloc (.cells #[.int .i64 d.x, .int .i64 d.y, .int .i64 d.z, (.slice bn ns.length cn), (.slice bl ls.length cl)] 26)).alloc (.cells #[.int .i64 f, .int .i64 t] 35) := ⟨_, rfl⟩
  have hb0 : Below w.heap.size w W0 := by rw [hW0]; (repeat (first | (with_reducible exact Below.refl _ _) | (with_reducible assumption) | (with_reducible refine below_alloc ?_ _) | (with_reducible refine below_drewN ?_ _) | (with_reducible refine Below.drew ?_) | (with_reducible refine below_then ?_ (by with_reducible assumption)) | (with_reducible refine Below.setCell ?_ (by go_size) _)))
  have YB := Lib.hid (show Blk W0 w.heap.size 26 #[.int .i64 d.x, .int .i64 d.y, .int .i64 d.z, (.slice bn ns.length cn), (.slice bl ls.length cl)] by rw [hW0]; exact (Blk.new ..).alloc _)
  have SB := Lib.hid (show Blk W0 (w.heap.size + 1) 35 #[.int .i64 f, .int .i64 t] by rw [hW0, show w.heap.size + 1 = (w.alloc (.cells #[.int .i64 d.x, .int .i64 d.y, .int .i64 d.z, (.slice bn ns.length cn), (.slice bl ls.length cl)] 26)).heap.size by simp]; exact Blk.new ..)
  have M1 := Lib.hid (fun W (h : Below W0.heap.size W0 W) => ref09_busy bn cn ns f t W (hn.keep (below_then hb0 h)) mn)
  have M2 := Lib.hid (fun W (h : Below W0.heap.size W0 W) => ref09_busy bl cl ls f t W (hl.keep (below_then hb0 h)) ml)
  have HB := Lib.hid hb0
  have HW := Lib.hid hW0
  have hz0 := hb0.size
  clear hn hl hb0 hW0 mn ml
  generalize whS (fun c => !clearB c f t) ns = sn at *
  generalize whS (fun c => !clearB c f t) ls = sl at *
  go_enter Tryz.func57, Tryz.ntmps57
  go_wp2_with fail
  rw [← HW.out]
  have y3 := YB.out.cell 3 _ rfl
  have y4 := YB.out.cell 4 _ rfl
  have s0 := SB.out.cell 0 _ rfl
  have s1 := SB.out.cell 1 _ rfl
  have mixed : Tryz.prog.follows .mixedOrders = true := by kernel_rfl
  go_region_held3 (fun W => W.cell? ⟨w.heap.size, 3, none⟩ = some (.slice bn ns.length cn) ∧ W.cell? ⟨w.heap.size, 4, none⟩ = some (.slice bl ls.length cl) ∧ W.cell? ⟨w.heap.size + 1, 0, none⟩ = some (.int .i64 f) ∧ W.cell? ⟨w.heap.size + 1, 1, none⟩ = some (.int .i64 t)) (go_keep)
    (first
      | ((with_reducible refine (M1.out _ (by (repeat (first | (with_reducible exact Below.refl _ _) | (with_reducible assumption) | (with_reducible refine below_alloc ?_ _) | (with_reducible refine below_drewN ?_ _) | (with_reducible refine Below.drew ?_) | (with_reducible refine below_then ?_ (by with_reducible assumption)) | (with_reducible refine Below.setCell ?_ (by go_size) _))))).mono ?_); rintro e wa ⟨va, rfl, hoa, hba⟩; have hza := hba.size; (try simp at hza); have HBa := below_then (show Below W0.heap.size W0 _ by (repeat (first | (with_reducible exact Below.refl _ _) | (with_reducible assumption) | (with_reducible refine below_alloc ?_ _) | (with_reducible refine below_drewN ?_ _) | (with_reducible refine Below.drew ?_) | (with_reducible refine below_then ?_ (by with_reducible assumption)) | (with_reducible refine Below.setCell ?_ (by go_size) _)))) hba; have p3 := (YB.out.below HBa).cell 3 _ rfl; have p4 := (YB.out.below HBa).cell 4 _ rfl; have q0 := (SB.out.below HBa).cell 0 _ rfl; have q1 := (SB.out.below HBa).cell 1 _ rfl)
      | ((with_reducible refine (M2.out _ (by (repeat (first | (with_reducible exact Below.refl _ _) | (with_reducible assumption) | (with_reducible refine below_alloc ?_ _) | (with_reducible refine below_drewN ?_ _) | (with_reducible refine Below.drew ?_) | (with_reducible refine below_then ?_ (by with_reducible assumption)) | (with_reducible refine Below.setCell ?_ (by go_size) _))))).mono ?_); rintro e wb ⟨vb, rfl, hob, hbb⟩; have hzb := hbb.size; (try simp at hzb); have HBb := below_then (show Below W0.heap.size W0 _ by (repeat (first | (with_reducible exact Below.refl _ _) | (with_reducible assumption) | (with_reducible refine below_alloc ?_ _) | (with_reducible refine below_drewN ?_ _) | (with_reducible refine Below.drew ?_) | (with_reducible refine below_then ?_ (by with_reducible assumption)) | (with_reducible refine Below.setCell ?_ (by go_size) _)))) hbb; have p3 := (YB.out.below HBb).cell 3 _ rfl; have p4 := (YB.out.below HBb).cell 4 _ rfl; have q0 := (SB.out.below HBb).cell 0 _ rfl; have q1 := (SB.out.below HBb).cell 1 _ rfl))
  all_goals go_wp2_with fail
  all_goals go_returns
  all_goals first
    | exact ⟨_, _, rfl, own_mono (own_keep hoa hbb) (by first | exact HB.out.size | omega), own_mono hob (by first | exact HB.out.size | omega), below_then HB.out HBb⟩
    | exact ⟨_, _, rfl, own_mono hoa (by first | exact HB.out.size | omega), own_mono (own_keep hob hba) (by first | exact HB.out.size | omega), below_then HB.out HBa⟩

def busySets (y : Yd) (f t : Int) : List Nat × List Nat := (whS (fun c => !clearB c f t) y.ns, whS (fun c => !clearB c f t) y.ls)
def ownSets (y : Yd) (ow a : Int) : List Nat × List Nat := (whS (ownB ow a) y.ns, whS (ownB ow a) y.ls)
def busyE (y : Yd) (f t : Int) : Int := if y.okB then okIf (spMay f t) 2 else 8
def busyV (y : Yd) (f t : Int) : List Nat × List Nat := if busyE y f t = 0 then busySets y f t else ([], [])
def ownE (y : Yd) (a : Int) : Int := if y.okB then okIf (0 ≤ a ∧ a < 1099511627776) 2 else 8
def ownV (y : Yd) (ow a : Int) : List Nat × List Nat := if ownE y a = 0 then ownSets y ow a else ([], [])
theorem Yd.ok_many {y : Yd} (h : y.okB = true) : nMay y.ns.length ∧ nMay y.ls.length := by
  unfold Yd.okB at h
  simp only [Bool.and_eq_true, decide_eq_true_eq] at h
  obtain ⟨h1, h2, h3, _⟩ := h
  have := V3.n_le h1
  unfold nMay
  omega
theorem Yd.ok_all {y : Yd} (h : y.okB = true) : (∀ c ∈ y.ns, calE c = 0) ∧ (∀ c ∈ y.ls, calE c = 0) := by
  unfold Yd.okB at h
  simp only [Bool.and_eq_true, List.all_eq_true] at h
  obtain ⟨h1, h2, h3, h4, h5⟩ := h
  exact ⟨fun c hc => by unfold calE; rw [if_pos (h4 c hc)], fun c hc => by unfold calE; rw [if_pos (h5 c hc)]⟩
set_option maxRecDepth 100000 in set_option maxHeartbeats 4000000 in
theorem ref09_Busy (d : V3) (bn bl : Option Addr) (cn cl : Nat) (ns ls : List (List Sl)) (f t : Int) (w : World) (hn : CC w bn ns) (hl : CC w bl ls) :
    Calls Tryz.prog 28 #[.agg #[.int .i64 d.x, .int .i64 d.y, .int .i64 d.z, (.slice bn ns.length cn), (.slice bl ls.length cl)], .agg #[.int .i64 f, .int .i64 t]] w (RU2E w (busyV ⟨d, ns, ls⟩ f t).1 (busyV ⟨d, ns, ls⟩ f t).2 (busyE ⟨d, ns, ls⟩ f t)) := by
  have M1 := Lib.hid (fun W (h : Below w.heap.size w W) => ref09_May d bn bl cn cl ns ls W (hn.keep h) (hl.keep h))
  have M2 := Lib.hid (fun W => ref07_May f t W)
  cases hok : Yd.okB ⟨d, ns, ls⟩ with
  | false =>
    have hE : busyE ⟨d, ns, ls⟩ f t = 8 := by unfold busyE; rw [hok]; rfl
    have hV : busyV ⟨d, ns, ls⟩ f t = ([], []) := by unfold busyV; rw [hE]; rfl
    rw [hE, hV]
    rw [hok] at M1
    clear hE hV hn hl hok
    go_enter Tryz.func28, Tryz.ntmps28
    go_wp2_with (first | ((with_reducible refine (M1.out _ (by (repeat (first | (with_reducible exact Below.refl _ _) | (with_reducible assumption) | (with_reducible refine below_alloc ?_ _) | (with_reducible refine below_drewN ?_ _) | (with_reducible refine Below.drew ?_) | (with_reducible refine below_then ?_ (by with_reducible assumption)) | (with_reducible refine Below.setCell ?_ (by go_size) _))))).mono ?_); rintro e w1 ⟨rfl, hb1⟩; (obtain ⟨hc1, hf1⟩ := bcell hb1; have hz1 := hb1.size; (try simp at hz1); have hB : Below w.heap.size w w1 := (by (repeat (first | (with_reducible exact Below.refl _ _) | (with_reducible assumption) | (with_reducible refine below_alloc ?_ _) | (with_reducible refine below_drewN ?_ _) | (with_reducible refine Below.drew ?_) | (with_reducible refine below_then ?_ (by with_reducible assumption)) | (with_reducible refine Below.setCell ?_ (by go_size) _)))); obtain ⟨hcB, hfB⟩ := bcell hB; (try have z0 : w.heap.size < w1.heap.size := by omega); (try have z1 : w.heap.size + 1 < w1.heap.size := by omega); (try have z2 : w.heap.size + 2 < w1.heap.size := by omega); (try have z3 : w.heap.size + 3 < w1.heap.size := by omega))) | ((with_reducible refine (M2.out _).mono ?_); rintro e w1 ⟨rfl, hb1⟩; (obtain ⟨hc1, hf1⟩ := bcell hb1; have hz1 := hb1.size; (try simp at hz1); have hB : Below w.heap.size w w1 := (by (repeat (first | (with_reducible exact Below.refl _ _) | (with_reducible assumption) | (with_reducible refine below_alloc ?_ _) | (with_reducible refine below_drewN ?_ _) | (with_reducible refine Below.drew ?_) | (with_reducible refine below_then ?_ (by with_reducible assumption)) | (with_reducible refine Below.setCell ?_ (by go_size) _)))); obtain ⟨hcB, hfB⟩ := bcell hB; (try have z0 : w.heap.size < w1.heap.size := by omega); (try have z1 : w.heap.size + 1 < w1.heap.size := by omega); (try have z2 : w.heap.size + 2 < w1.heap.size := by omega); (try have z3 : w.heap.size + 3 < w1.heap.size := by omega))))
    go_returns
    exact RU2E.nil _ _ _ (by (repeat (first | (with_reducible exact Below.refl _ _) | (with_reducible assumption) | (with_reducible refine below_alloc ?_ _) | (with_reducible refine below_drewN ?_ _) | (with_reducible refine Below.drew ?_) | (with_reducible refine below_then ?_ (by with_reducible assumption)) | (with_reducible refine Below.setCell ?_ (by go_size) _))))
  | true =>
    have hm := Yd.ok_many hok
    rw [hok] at M1
    by_cases hs : spMay f t
    · rw [decide_eq_true hs] at M2
      have hE : busyE ⟨d, ns, ls⟩ f t = 0 := by unfold busyE; rw [hok, if_pos rfl, okIf_yes hs]
      have hV : busyV ⟨d, ns, ls⟩ f t = busySets ⟨d, ns, ls⟩ f t := by unfold busyV; rw [if_pos hE]
      rw [hE, hV]
      have M3 := Lib.hid (fun W (h : Below w.heap.size w W) => ref09_Through d bn bl cn cl ns ls f t W (hn.keep h) (hl.keep h) hm.1 hm.2)
      unfold busySets
      simp only
      generalize whS (fun c => !clearB c f t) ns = sn at *
      generalize whS (fun c => !clearB c f t) ls = sl at *
      clear hE hV hn hl hok hm hs
      go_enter Tryz.func28, Tryz.ntmps28
      go_wp2_with (first | ((with_reducible refine (M1.out _ (by (repeat (first | (with_reducible exact Below.refl _ _) | (with_reducible assumption) | (with_reducible refine below_alloc ?_ _) | (with_reducible refine below_drewN ?_ _) | (with_reducible refine Below.drew ?_) | (with_reducible refine below_then ?_ (by with_reducible assumption)) | (with_reducible refine Below.setCell ?_ (by go_size) _))))).mono ?_); rintro e w1 ⟨rfl, hb1⟩; (obtain ⟨hc1, hf1⟩ := bcell hb1; have hz1 := hb1.size; (try simp at hz1); have hB : Below w.heap.size w w1 := (by (repeat (first | (with_reducible exact Below.refl _ _) | (with_reducible assumption) | (with_reducible refine below_alloc ?_ _) | (with_reducible refine below_drewN ?_ _) | (with_reducible refine Below.drew ?_) | (with_reducible refine below_then ?_ (by with_reducible assumption)) | (with_reducible refine Below.setCell ?_ (by go_size) _)))); obtain ⟨hcB, hfB⟩ := bcell hB; (try have z0 : w.heap.size < w1.heap.size := by omega); (try have z1 : w.heap.size + 1 < w1.heap.size := by omega); (try have z2 : w.heap.size + 2 < w1.heap.size := by omega); (try have z3 : w.heap.size + 3 < w1.heap.size := by omega))) | ((with_reducible refine (M2.out _).mono ?_); rintro e w1 ⟨rfl, hb1⟩; (obtain ⟨hc1, hf1⟩ := bcell hb1; have hz1 := hb1.size; (try simp at hz1); have hB : Below w.heap.size w w1 := (by (repeat (first | (with_reducible exact Below.refl _ _) | (with_reducible assumption) | (with_reducible refine below_alloc ?_ _) | (with_reducible refine below_drewN ?_ _) | (with_reducible refine Below.drew ?_) | (with_reducible refine below_then ?_ (by with_reducible assumption)) | (with_reducible refine Below.setCell ?_ (by go_size) _)))); obtain ⟨hcB, hfB⟩ := bcell hB; (try have z0 : w.heap.size < w1.heap.size := by omega); (try have z1 : w.heap.size + 1 < w1.heap.size := by omega); (try have z2 : w.heap.size + 2 < w1.heap.size := by omega); (try have z3 : w.heap.size + 3 < w1.heap.size := by omega))) | ((with_reducible refine (M3.out _ (by (repeat (first | (with_reducible exact Below.refl _ _) | (with_reducible assumption) | (with_reducible refine below_alloc ?_ _) | (with_reducible refine below_drewN ?_ _) | (with_reducible refine Below.drew ?_) | (with_reducible refine below_then ?_ (by with_reducible assumption)) | (with_reducible refine Below.setCell ?_ (by go_size) _))))).mono ?_); rintro e w1 ⟨va, vb, rfl, hoa, hob, hb1⟩; (obtain ⟨hc1, hf1⟩ := bcell hb1; have hz1 := hb1.size; (try simp at hz1); have hB : Below w.heap.size w w1 := (by (repeat (first | (with_reducible exact Below.refl _ _) | (with_reducible assumption) | (with_reducible refine below_alloc ?_ _) | (with_reducible refine below_drewN ?_ _) | (with_reducible refine Below.drew ?_) | (with_reducible refine below_then ?_ (by with_reducible assumption)) | (with_reducible refine Below.setCell ?_ (by go_size) _)))); obtain ⟨hcB, hfB⟩ := bcell hB; (try have z0 : w.heap.size < w1.heap.size := by omega); (try have z1 : w.heap.size + 1 < w1.heap.size := by omega); (try have z2 : w.heap.size + 2 < w1.heap.size := by omega); (try have z3 : w.heap.size + 3 < w1.heap.size := by omega))))
      go_returns
      exact ⟨_, _, rfl, own_mono hoa (by omega), own_mono hob (by omega), by (repeat (first | (with_reducible exact Below.refl _ _) | (with_reducible assumption) | (with_reducible refine below_alloc ?_ _) | (with_reducible refine below_drewN ?_ _) | (with_reducible refine Below.drew ?_) | (with_reducible refine below_then ?_ (by with_reducible assumption)) | (with_reducible refine Below.setCell ?_ (by go_size) _)))⟩
    · rw [decide_eq_false hs] at M2
      have hE : busyE ⟨d, ns, ls⟩ f t = 2 := by unfold busyE; rw [hok, if_pos rfl, okIf_no hs]
      have hV : busyV ⟨d, ns, ls⟩ f t = ([], []) := by unfold busyV; rw [hE]; rfl
      rw [hE, hV]
      clear hE hV hn hl hok hm hs
      go_enter Tryz.func28, Tryz.ntmps28
      go_wp2_with (first | ((with_reducible refine (M1.out _ (by (repeat (first | (with_reducible exact Below.refl _ _) | (with_reducible assumption) | (with_reducible refine below_alloc ?_ _) | (with_reducible refine below_drewN ?_ _) | (with_reducible refine Below.drew ?_) | (with_reducible refine below_then ?_ (by with_reducible assumption)) | (with_reducible refine Below.setCell ?_ (by go_size) _))))).mono ?_); rintro e w1 ⟨rfl, hb1⟩; (obtain ⟨hc1, hf1⟩ := bcell hb1; have hz1 := hb1.size; (try simp at hz1); have hB : Below w.heap.size w w1 := (by (repeat (first | (with_reducible exact Below.refl _ _) | (with_reducible assumption) | (with_reducible refine below_alloc ?_ _) | (with_reducible refine below_drewN ?_ _) | (with_reducible refine Below.drew ?_) | (with_reducible refine below_then ?_ (by with_reducible assumption)) | (with_reducible refine Below.setCell ?_ (by go_size) _)))); obtain ⟨hcB, hfB⟩ := bcell hB; (try have z0 : w.heap.size < w1.heap.size := by omega); (try have z1 : w.heap.size + 1 < w1.heap.size := by omega); (try have z2 : w.heap.size + 2 < w1.heap.size := by omega); (try have z3 : w.heap.size + 3 < w1.heap.size := by omega))) | ((with_reducible refine (M2.out _).mono ?_); rintro e w1 ⟨rfl, hb1⟩; (obtain ⟨hc1, hf1⟩ := bcell hb1; have hz1 := hb1.size; (try simp at hz1); have hB : Below w.heap.size w w1 := (by (repeat (first | (with_reducible exact Below.refl _ _) | (with_reducible assumption) | (with_reducible refine below_alloc ?_ _) | (with_reducible refine below_drewN ?_ _) | (with_reducible refine Below.drew ?_) | (with_reducible refine below_then ?_ (by with_reducible assumption)) | (with_reducible refine Below.setCell ?_ (by go_size) _)))); obtain ⟨hcB, hfB⟩ := bcell hB; (try have z0 : w.heap.size < w1.heap.size := by omega); (try have z1 : w.heap.size + 1 < w1.heap.size := by omega); (try have z2 : w.heap.size + 2 < w1.heap.size := by omega); (try have z3 : w.heap.size + 3 < w1.heap.size := by omega))))
      go_returns
      exact RU2E.nil _ _ _ (by (repeat (first | (with_reducible exact Below.refl _ _) | (with_reducible assumption) | (with_reducible refine below_alloc ?_ _) | (with_reducible refine below_drewN ?_ _) | (with_reducible refine Below.drew ?_) | (with_reducible refine below_then ?_ (by with_reducible assumption)) | (with_reducible refine Below.setCell ?_ (by go_size) _))))
end
end
end Go.Proofs.YtofoenlhbmammaaGreat
