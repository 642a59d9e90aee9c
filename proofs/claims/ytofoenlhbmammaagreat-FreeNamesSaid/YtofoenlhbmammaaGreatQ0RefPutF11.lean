/- CAL: the document's With and Put. -/
import Derived.Test.YtofoenlhbmammaaGreatQ0Put12F11
set_option linter.unusedVariables false
set_option linter.unusedSimpArgs false
namespace Go.Proofs.YtofoenlhbmammaaGreat

section
section
open Go.RowKit Go.Shelf

theorem SlAt.keepN {w W : World} {N B : Nat} {s : Sl} (h : SlAt w B s) (hb : Below N w W) (hB : B < N) : SlAt W B s :=
  ⟨(hb.cell (p := ⟨B, 0, none⟩) hB).trans h.c0, (hb.cell (p := ⟨B, 1, none⟩) hB).trans h.c1, (hb.cell (p := ⟨B, 2, none⟩) hB).trans h.c2, Nat.lt_of_lt_of_le h.lt hb.size⟩
theorem withL_drop {c : List Sl} {k : Nat} (hk : k < c.length) (s : Sl) : withL s (c.drop k) = if s.f < c[k].f then s :: c[k] :: c.drop (k + 1) else c[k] :: withL s (c.drop (k + 1)) := by
  rw [List.drop_eq_getElem_cons hk]; rfl
theorem own_one {w : World} {B : Nat} {v : Value} {l : List Sl} {f t o : Int} (h : w.ownsRow B 68 3 v (l.length + 1) (slc l ++ [.int .i64 f, .int .i64 t, .int .i64 o])) : w.ownsRow B 68 3 v (l ++ [(⟨f, t, o⟩ : Sl)]).length (slc (l ++ [(⟨f, t, o⟩ : Sl)])) := by
  rw [slc_app, List.length_append]; exact h
theorem own_one2 {w : World} {B n : Nat} {v : Value} {l : List Sl} {f t o : Int} (h : w.ownsRow B 68 3 v n (slc l ++ [.int .i64 f, .int .i64 t, .int .i64 o])) (hn : n = l.length + 1) : w.ownsRow B 68 3 v (l ++ [(⟨f, t, o⟩ : Sl)]).length (slc (l ++ [(⟨f, t, o⟩ : Sl)])) := by
  subst hn; exact own_one h
theorem own_dr {w : World} {B : Nat} {e : TypeId} {size n : Nat} {v : Value} {xs : List Value} (h : w.ownsRow B e size v n xs) (q : Nat) : (w.drewN q).ownsRow B e size v n xs := h
/-- What With has laid so far. -/
def WInv (s : Sl) (c : List Sl) (k : Nat) (dn : Bool) (out : List Sl) : Prop := out ++ (if dn then c.drop k else withL s (c.drop k)) = withL s c ∧ out.length = k + (if dn then 1 else 0)
set_option maxRecDepth 100000 in set_option maxHeartbeats 4000000 in
theorem ref08_With (ba : Option Addr) (ca : Nat) (c : List Sl) (s : Sl) (w : World) (hc : CIn w ba c) (hl : c.length ≤ 5000) :
    Calls Tryz.prog 50 #[.slice ba c.length ca, .agg #[.int .i64 s.f, .int .i64 s.t, .int .i64 s.o]] w (RS w (withL s c)) := by
  obtain ⟨i0, hi, iz0, iz1, iz2⟩ := info_parts infoSlot
  have HC := Lib.hid hc
  have HS0 := Lib.hid (SlAt.new w 68 s)
  clear hc
  go_enter Tryz.func50, Tryz.ntmps50
  go_wp2_with fail
  go_loopw [5, 6, 7] (fun v d i wr => ∃ (k : Nat) (dn : Bool) (out : List Sl), k ≤ c.length ∧ i = .int .i64 k ∧ d = .bool dn ∧ WInv s c k dn out ∧ wr.ownsRow (w.heap.size + 1) 68 3 v out.length (slc out) ∧ SlAt wr w.heap.size s ∧ Below w.heap.size w wr) (fun _ _ i _ => c.length - (intOf i).toNat)
  case atStart => exact ⟨0, false, [], Nat.zero_le _, rfl, rfl, ⟨rfl, rfl⟩, ⟨rfl, .inl ⟨rfl, rfl⟩⟩, HS0.out, by (repeat (first | (with_reducible exact Below.refl _ _) | (with_reducible assumption) | (with_reducible refine below_alloc ?_ _) | (with_reducible refine below_drewN ?_ _) | (with_reducible refine Below.drew ?_) | (with_reducible refine below_then ?_ (by with_reducible assumption)) | (with_reducible refine Below.setCell ?_ (by go_size) _)))⟩
  case round =>
    obtain ⟨k, dn, out, hk, rfl, rfl, hinv, hown, hsl, hbel⟩ := hrel
    have HI := Lib.hid hinv
    have HO := Lib.hid hown
    have HS := Lib.hid hsl
    have HB := Lib.hid hbel
    clear hinv hown hsl hbel
    by_cases hlt : k < c.length
    · obtain ⟨b, off, rfl, c0, c1, c2, hbl⟩ := (HC.out.keep HB.out).at hlt
      have hw := Lib.hid (withL_drop hlt s)
      have hd := Lib.hid (List.drop_eq_getElem_cons hlt)
      obtain ⟨x, hx⟩ : ∃ x, x = c[k] := ⟨_, rfl⟩
      rw [← hx] at c0 c1 c2 hw hd
      have hol : out.length ≤ k + 1 := by have := HI.out.2; split at this <;> omega
      have hz0 := HB.out.size
      have hxs := Lib.hid (fun W (h : Below w.heap.size w W) => (HC.out.keep h).at hlt)
      rw [← hx] at hxs
      clear hx
      cases dn with
      | true =>
        have HI2 := Lib.hid (show WInv s c (k + 1) true (out ++ [x]) from ⟨by have := HI.out.1; rw [if_pos rfl, hd.out] at this; rw [if_pos rfl, List.append_assoc]; exact this, by have := HI.out.2; simp at this ⊢; omega⟩)
        clear hw hd
        obtain ⟨s0, s1, s2, sl⟩ := HS.out
        go_wp2_with (first | (at_builtin; refine wpList_append_own _ rfl _ _ 65 rfl (w.heap.size + 1) 68 i0 (.agg #[.int .i64 0, .int .i64 0, .int .i64 0]) 3 24 Tryz.underlying65 hi iz0 iz1 iz2 rfl (by decide) _ _ _ rfl ((own_dr HO.out _).alloc _) ⟨_, 0, none⟩ 1 1 [.int .i64 x.f, .int .i64 x.t, .int .i64 x.o] rfl rfl (cell_new3 _ _ _ _ _ _ (by simp)) (by simp [Value.oneCell']) ?_ ?_ ?_ ?_) | (refine wp_region_quiet_lit (by kernel_rfl) (by kernel_rfl) ?_; (repeat (any_goals (first | go_big_quiet_step (fail) | quiet_step (fail) | (refine wpQuiet_step (fun K hK => ?_); go_simp; split <;> (refine hK _ ?_; clear hK K))))); all_goals (refine wpQuiet_nil ?_; intro _ hw'; obtain ⟨nq, hw''⟩ := hw'; subst hw'')))
        all_goals try (first | omega | (unfold maxLen; omega) | (simp; omega) | (simp; unfold maxLen; omega))
        intro v' w3 o3 hg3 _
        have n3 := own_below ((own_dr HO.out _).alloc _) hg3 (by simp; omega)
        have HB3 := Lib.hid ((below_alloc (below_drewN HB.out _) _).trans (n3.mono (Nat.le_succ _)))
        have HS3 := Lib.hid ((HS.out.keep (by (repeat (first | (with_reducible exact Below.refl _ _) | (with_reducible assumption) | (with_reducible refine below_alloc ?_ _) | (with_reducible refine below_drewN ?_ _) | (with_reducible refine Below.drew ?_) | (with_reducible refine below_then ?_ (by with_reducible assumption)) | (with_reducible refine Below.setCell ?_ (by go_size) _))))).keepN n3 (Nat.lt_succ_self _))
        have HO3 := Lib.hid (own_one o3)
        clear n3 o3 hg3 s0 s1 s2 sl c0 c1 c2
        go_wp2_with fail
        go_roundw
        case rel => exact ⟨k + 1, true, _, by omega, by go_num, rfl, HI2.out, HO3.out, HS3.out, HB3.out⟩
        case measure => (simp [intOf] <;> omega)
      | false =>
        obtain ⟨s0, s1, s2, sl⟩ := HS.out
        by_cases hlf : s.f < x.f
        · have HI2 := Lib.hid (show WInv s c (k + 1) true ((out ++ [s]) ++ [x]) from ⟨by have := HI.out.1; rw [if_neg (by decide), hw.out, if_pos hlf] at this; rw [if_pos rfl, List.append_assoc, List.append_assoc]; exact this, by have := HI.out.2; simp at this ⊢; omega⟩)
          clear hw hd
          go_wp2_with (first | (at_builtin; refine wpList_append_own _ rfl _ _ 65 rfl (w.heap.size + 1) 68 i0 (.agg #[.int .i64 0, .int .i64 0, .int .i64 0]) 3 24 Tryz.underlying65 hi iz0 iz1 iz2 rfl (by decide) _ _ _ rfl ((own_dr HO.out _).alloc _) ⟨_, 0, none⟩ 1 1 [.int .i64 s.f, .int .i64 s.t, .int .i64 s.o] rfl rfl (cell_new3 _ _ _ _ _ _ (by simp)) (by simp [Value.oneCell']) ?_ ?_ ?_ ?_) | (refine wp_region_quiet_lit (by kernel_rfl) (by kernel_rfl) ?_; (repeat (any_goals (first | go_big_quiet_step (fail) | quiet_step (fail) | (refine wpQuiet_step (fun K hK => ?_); go_simp; split <;> (refine hK _ ?_; clear hK K))))); all_goals (refine wpQuiet_nil ?_; intro _ hw'; obtain ⟨nq, hw''⟩ := hw'; subst hw'')))
          all_goals try (first | omega | (unfold maxLen; omega) | (simp; omega) | (simp; unfold maxLen; omega))
          intro v' w3 o3 hg3 _
          have n3 := own_below ((own_dr HO.out _).alloc _) hg3 (by simp; omega)
          have HB3 := Lib.hid ((below_alloc (below_drewN HB.out _) _).trans (n3.mono (Nat.le_succ _)))
          have HS3 := Lib.hid ((HS.out.keep (by (repeat (first | (with_reducible exact Below.refl _ _) | (with_reducible assumption) | (with_reducible refine below_alloc ?_ _) | (with_reducible refine below_drewN ?_ _) | (with_reducible refine Below.drew ?_) | (with_reducible refine below_then ?_ (by with_reducible assumption)) | (with_reducible refine Below.setCell ?_ (by go_size) _))))).keepN n3 (Nat.lt_succ_self _))
          have HO3 := Lib.hid (own_one o3)
          clear n3 o3 hg3 s0 s1 s2 sl c0 c1 c2
          obtain ⟨b', off', e, c0, c1, c2, _⟩ := hxs.out _ HB3.out
          cases e
          have hz3 := HB3.out.size
          go_wp2_with (first | (at_builtin; refine wpList_append_own _ rfl _ _ 65 rfl (w.heap.size + 1) 68 i0 (.agg #[.int .i64 0, .int .i64 0, .int .i64 0]) 3 24 Tryz.underlying65 hi iz0 iz1 iz2 rfl (by decide) _ _ _ rfl ((own_dr HO3.out _).alloc _) ⟨_, 0, none⟩ 1 1 [.int .i64 x.f, .int .i64 x.t, .int .i64 x.o] rfl rfl (cell_new3 _ _ _ _ _ _ (by simp)) (by simp [Value.oneCell']) ?_ ?_ ?_ ?_) | (at_builtin; refine wpList_append_own _ rfl _ _ 65 rfl (w.heap.size + 1) 68 i0 (.agg #[.int .i64 0, .int .i64 0, .int .i64 0]) 3 24 Tryz.underlying65 hi iz0 iz1 iz2 rfl (by decide) _ _ _ rfl (HO3.out.alloc _) ⟨_, 0, none⟩ 1 1 [.int .i64 x.f, .int .i64 x.t, .int .i64 x.o] rfl rfl (cell_new3 _ _ _ _ _ _ (by simp)) (by simp [Value.oneCell']) ?_ ?_ ?_ ?_) | (refine wp_region_quiet_lit (by kernel_rfl) (by kernel_rfl) ?_; (repeat (any_goals (first | go_big_quiet_step (fail) | quiet_step (fail) | (refine wpQuiet_step (fun K hK => ?_); go_simp; split <;> (refine hK _ ?_; clear hK K))))); all_goals (refine wpQuiet_nil ?_; intro _ hw'; obtain ⟨nq, hw''⟩ := hw'; subst hw'')))
          all_goals try (first | omega | (unfold maxLen; omega) | (simp; omega) | (simp; unfold maxLen; omega))
          intro v' w4 o4 hg4 _
          have n4 := own_below (HO3.out.alloc _) hg4 (by simp; omega)
          have HB4 := Lib.hid ((below_alloc HB3.out _).trans (n4.mono (Nat.le_succ _)))
          have HS4 := Lib.hid ((HS3.out.keep (by (repeat (first | (with_reducible exact Below.refl _ _) | (with_reducible assumption) | (with_reducible refine below_alloc ?_ _) | (with_reducible refine below_drewN ?_ _) | (with_reducible refine Below.drew ?_) | (with_reducible refine below_then ?_ (by with_reducible assumption)) | (with_reducible refine Below.setCell ?_ (by go_size) _))))).keepN n4 (Nat.lt_succ_self _))
          have HO4 := Lib.hid (own_one2 o4 (by simp))
          clear n4 o4 hg4 c0 c1 c2
          go_wp2_with fail
          go_roundw
          case rel => exact ⟨k + 1, true, _, by omega, by go_num, rfl, HI2.out, HO4.out, HS4.out, HB4.out⟩
          case measure => (simp [intOf] <;> omega)
        · have HI2 := Lib.hid (show WInv s c (k + 1) false (out ++ [x]) from ⟨by have := HI.out.1; rw [if_neg (by decide), hw.out, if_neg hlf] at this; rw [if_neg (by decide), List.append_assoc]; exact this, by have := HI.out.2; simp at this ⊢; omega⟩)
          have hd0 : decide (s.f < x.f) = false := decide_eq_false hlf
          clear hw hd
          go_wp2_with (first | (at_builtin; refine wpList_append_own _ rfl _ _ 65 rfl (w.heap.size + 1) 68 i0 (.agg #[.int .i64 0, .int .i64 0, .int .i64 0]) 3 24 Tryz.underlying65 hi iz0 iz1 iz2 rfl (by decide) _ _ _ rfl ((own_dr HO.out _).alloc _) ⟨_, 0, none⟩ 1 1 [.int .i64 x.f, .int .i64 x.t, .int .i64 x.o] rfl rfl (cell_new3 _ _ _ _ _ _ (by simp)) (by simp [Value.oneCell']) ?_ ?_ ?_ ?_) | (refine wp_region_quiet_lit (by kernel_rfl) (by kernel_rfl) ?_; (repeat (any_goals (first | go_big_quiet_step (fail) | quiet_step (fail) | (refine wpQuiet_step (fun K hK => ?_); go_simp; split <;> (refine hK _ ?_; clear hK K))))); all_goals (refine wpQuiet_nil ?_; intro _ hw'; obtain ⟨nq, hw''⟩ := hw'; subst hw'')))
          all_goals try (first | omega | (unfold maxLen; omega) | (simp; omega) | (simp; unfold maxLen; omega))
          intro v' w3 o3 hg3 _
          have n3 := own_below ((own_dr HO.out _).alloc _) hg3 (by simp; omega)
          have HB3 := Lib.hid ((below_alloc (below_drewN HB.out _) _).trans (n3.mono (Nat.le_succ _)))
          have HS3 := Lib.hid ((HS.out.keep (by (repeat (first | (with_reducible exact Below.refl _ _) | (with_reducible assumption) | (with_reducible refine below_alloc ?_ _) | (with_reducible refine below_drewN ?_ _) | (with_reducible refine Below.drew ?_) | (with_reducible refine below_then ?_ (by with_reducible assumption)) | (with_reducible refine Below.setCell ?_ (by go_size) _))))).keepN n3 (Nat.lt_succ_self _))
          have HO3 := Lib.hid (own_one o3)
          clear n3 o3 hg3 s0 s1 s2 sl c0 c1 c2
          go_wp2_with fail
          go_roundw
          case rel => exact ⟨k + 1, false, _, by omega, by go_num, rfl, HI2.out, HO3.out, HS3.out, HB3.out⟩
          case measure => (simp [intOf] <;> omega)
    · obtain rfl : k = c.length := by omega
      have hz0 := HB.out.size
      cases dn with
      | true =>
        have HF := Lib.hid (show out = withL s c by have := HI.out.1; rw [if_pos rfl, List.drop_length, List.append_nil] at this; exact this)
        rw [HF.out] at HO
        go_wp2_with fail
        go_returns
        exact ⟨_, rfl, own_mono HO.out (Nat.le_succ _), HB.out⟩
      | false =>
        have hol : out.length = c.length := by have := HI.out.2; simpa using this
        have HF := Lib.hid (show out ++ [s] = withL s c by have := HI.out.1; rw [if_neg (by decide), List.drop_length] at this; exact this)
        obtain ⟨s0, s1, s2, sl⟩ := HS.out
        go_wp2_with (at_builtin; refine wpList_append_own _ rfl _ _ 65 rfl (w.heap.size + 1) 68 i0 (.agg #[.int .i64 0, .int .i64 0, .int .i64 0]) 3 24 Tryz.underlying65 hi iz0 iz1 iz2 rfl (by decide) _ _ _ rfl (HO.out.alloc _) ⟨_, 0, none⟩ 1 1 [.int .i64 s.f, .int .i64 s.t, .int .i64 s.o] rfl rfl (cell_new3 _ _ _ _ _ _ (by simp)) (by simp [Value.oneCell']) ?_ ?_ ?_ ?_)
        all_goals try (first | omega | (unfold maxLen; omega) | (simp; omega) | (simp; unfold maxLen; omega))
        intro v' w3 o3 hg3 _
        have n3 := own_below (HO.out.alloc _) hg3 (by simp; omega)
        have HB3 := Lib.hid ((below_alloc HB.out _).trans (n3.mono (Nat.le_succ _)))
        have HO3 := Lib.hid (own_one2 o3 (by omega))
        rw [show out ++ [(⟨s.f, s.t, s.o⟩ : Sl)] = withL s c from HF.out] at HO3
        clear n3 o3 hg3 s0 s1 s2 sl
        go_wp2_with fail
        go_returns
        exact ⟨_, rfl, own_mono HO3.out (Nat.le_succ _), HB3.out⟩
end

section
open Go.RowKit Go.Shelf

theorem lessL_succ {c : List Sl} {k : Nat} (hk : k < c.length) (ow : Int) : lessL ow (c.take (k + 1)) = lessL ow (c.take k) ++ (if c[k].o ≠ ow then [c[k]] else []) := by
  unfold lessL
  rw [List.take_add_one, List.getElem?_eq_getElem hk, List.filter_append]
  congr 1
  simp only [Option.toList, List.filter_cons, List.filter_nil, decide_eq_true_eq]
theorem lessL_len (ow : Int) (c : List Sl) : (lessL ow c).length ≤ c.length := by unfold lessL; exact List.length_filter_le _ _
theorem endL_succ {c : List Sl} {k : Nat} (hk : k < c.length) (ow tm : Int) : endL ow tm (c.take (k + 1)) = endL ow tm (c.take k) ++ (endO ow tm c[k]).toList := by
  unfold endL
  rw [List.take_add_one, List.getElem?_eq_getElem hk, List.filterMap_append]
  congr 1
theorem endL_len (ow tm : Int) (c : List Sl) : (endL ow tm c).length ≤ c.length := by unfold endL; exact List.length_filterMap_le _ _
/-! ### Put, Take, Cut -/
end
end
end Go.Proofs.YtofoenlhbmammaaGreat
