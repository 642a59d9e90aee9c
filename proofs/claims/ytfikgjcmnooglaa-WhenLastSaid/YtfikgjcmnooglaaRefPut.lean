/- CAL: the document's With and Put. -/
import Derived.Test.YtfikgjcmnooglaaPut12
namespace Go.Proofs.Ytfikgjcmnooglaa

section
open Go.RowKit Go.Shelf

theorem SlAt.keepN {w W : World} {N B : Nat} {s : Sl} (h : SlAt w B s) (hb : Below N w W) (hB : B < N) : SlAt W B s :=
  ⟨(hb.cell (p := ⟨B, 0, none⟩) hB).trans h.c0, (hb.cell (p := ⟨B, 1, none⟩) hB).trans h.c1, (hb.cell (p := ⟨B, 2, none⟩) hB).trans h.c2, Nat.lt_of_lt_of_le h.lt hb.size⟩
theorem withL_drop {c : List Sl} {k : Nat} (hk : k < c.length) (s : Sl) : withL s (c.drop k) = if s.f < c[k].f then s :: c[k] :: c.drop (k + 1) else c[k] :: withL s (c.drop (k + 1)) := by
  rw [List.drop_eq_getElem_cons hk]; rfl
theorem own_one {w : World} {B : Nat} {v : Value} {l : List Sl} {f t o : Int} (h : w.ownsRow B 57 3 v (l.length + 1) (slc l ++ [.int .i64 f, .int .i64 t, .int .i64 o])) : w.ownsRow B 57 3 v (l ++ [(⟨f, t, o⟩ : Sl)]).length (slc (l ++ [(⟨f, t, o⟩ : Sl)])) := by
  rw [slc_app, List.length_append]; exact h
theorem own_one2 {w : World} {B n : Nat} {v : Value} {l : List Sl} {f t o : Int} (h : w.ownsRow B 57 3 v n (slc l ++ [.int .i64 f, .int .i64 t, .int .i64 o])) (hn : n = l.length + 1) : w.ownsRow B 57 3 v (l ++ [(⟨f, t, o⟩ : Sl)]).length (slc (l ++ [(⟨f, t, o⟩ : Sl)])) := by
  subst hn; exact own_one h
theorem own_dr {w : World} {B : Nat} {e : TypeId} {size n : Nat} {v : Value} {xs : List Value} (h : w.ownsRow B e size v n xs) (q : Nat) : (w.drewN q).ownsRow B e size v n xs := h
/-- What With has laid so far. -/
def WInv (s : Sl) (c : List Sl) (k : Nat) (dn : Bool) (out : List Sl) : Prop := out ++ (if dn then c.drop k else withL s (c.drop k)) = withL s c ∧ out.length = k + (if dn then 1 else 0)
set_option maxRecDepth 100000 in set_option maxHeartbeats 4000000 in
theorem ref08_With (ba : Option Addr) (ca : Nat) (c : List Sl) (s : Sl) (w : World) (hc : CIn w ba c) (hl : c.length ≤ 5000) :
    Calls Try.prog 96 #[.slice ba c.length ca, .agg #[.int .i64 s.f, .int .i64 s.t, .int .i64 s.o]] w (RS w (withL s c)) := by
  obtain ⟨i0, hi, iz0, iz1, iz2⟩ := info_parts infoSlot
  have HC := Lib.hid hc
  have HS0 := Lib.hid (SlAt.new w 57 s)
  clear hc
  go_enter Try.func96, Try.ntmps96
  go_wp2_with fail
  go_loopw [5, 6, 7] (fun v d i wr => ∃ (k : Nat) (dn : Bool) (out : List Sl), k ≤ c.length ∧ i = .int .i64 k ∧ d = .bool dn ∧ WInv s c k dn out ∧ wr.ownsRow (w.heap.size + 1) 57 3 v out.length (slc out) ∧ SlAt wr w.heap.size s ∧ Below w.heap.size w wr) (fun _ _ i _ => c.length - (intOf i).toNat)
  case atStart => exact ⟨0, false, [], Nat.zero_le _, rfl, rfl, ⟨rfl, rfl⟩, ⟨rfl, .inl ⟨rfl, rfl⟩⟩, HS0.out, by (repeat (first | (with_reducible exact Below.refl _ _) | (with_reducible assumption) | (with_reducible refine below_alloc ?_ _) | (with_reducible refine below_drewN ?_ _) | (with_reducible refine Below.drew ?_) | (with_reducible refine below_then ?_ (by with_reducible assumption)) | (with_reducible refine Below.setCell ?_ (by go_size) _)))⟩
  case round =>
    obtain ⟨k, dn, out, hk, rfl, rfl, hinv, hown, hsl, hbel⟩ := hrel
    have HI := Lib.hid hinv
    have HO := Lib.hid hown
    have HS := Lib.hid hsl
    have HB := Lib.hid hbel
    clear hinv hown hsl hbel
    by_cases hlt : k < c.length
    · obtain ⟨b, off, rfl, c0, c1, c2, hbl⟩ := (HC.out.keep HB.out).at hlt
      have hw := Lib.hid (withL_drop hlt s)
      have hd := Lib.hid (List.drop_eq_getElem_cons hlt)
      obtain ⟨x, hx⟩ : ∃ x, x = c[k] := ⟨_, rfl⟩
      rw [← hx] at c0 c1 c2 hw hd
      have hol : out.length ≤ k + 1 := by have := HI.out.2; split at this <;> omega
      have hz0 := HB.out.size
      have hxs := Lib.hid (fun W (h : Below w.heap.size w W) => (HC.out.keep h).at hlt)
      rw [← hx] at hxs
      clear hx
      cases dn with
      | true =>
        have HI2 := Lib.hid (show WInv s c (k + 1) true (out ++ [x]) from ⟨by have := HI.out.1; rw [if_pos rfl, hd.out] at this; rw [if_pos rfl, List.append_assoc]; exact this, by have := HI.out.2; simp at this ⊢; omega⟩)
        clear hw hd
        obtain ⟨s0, s1, s2, sl⟩ := HS.out
        go_wp2_with (first | (at_builtin; refine wpList_append_own _ rfl _ _ 22 rfl (w.heap.size + 1) 57 i0 (.agg #[.int .i64 0, .int .i64 0, .int .i64 0]) 3 24 Try.underlying22 hi iz0 iz1 iz2 rfl (by decide) _ _ _ rfl ((own_dr HO.out _).alloc _) ⟨_, 0, none⟩ 1 1 [.int .i64 x.f, .int .i64 x.t, .int .i64 x.o] rfl rfl (cell_new3 _ _ _ _ _ _ (by simp)) (by simp [Value.oneCell']) ?_ ?_ ?_ ?_) | (refine wp_region_quiet_lit (by kernel_rfl) (by kernel_rfl) ?_; (repeat (any_goals (first | go_big_quiet_step (fail) | quiet_step (fail) | (refine wpQuiet_step (fun K hK => ?_); go_simp; split <;> (refine hK _ ?_; clear hK K))))); all_goals (refine wpQuiet_nil ?_; intro _ hw'; obtain ⟨nq, hw''⟩ := hw'; subst hw'')))
        all_goals try (first | omega | (unfold maxLen; omega) | (simp; omega) | (simp; unfold maxLen; omega))
        intro v' w3 o3 hg3 _
        have n3 := own_below ((own_dr HO.out _).alloc _) hg3 (by simp; omega)
        have HB3 := Lib.hid ((below_alloc (below_drewN HB.out _) _).trans (n3.mono (Nat.le_succ _)))
        have HS3 := Lib.hid ((HS.out.keep (by (repeat (first | (with_reducible exact Below.refl _ _) | (with_reducible assumption) | (with_reducible refine below_alloc ?_ _) | (with_reducible refine below_drewN ?_ _) | (with_reducible refine Below.drew ?_) | (with_reducible refine below_then ?_ (by with_reducible assumption)) | (with_reducible refine Below.setCell ?_ (by go_size) _))))).keepN n3 (Nat.lt_succ_self _))
        have HO3 := Lib.hid (own_one o3)
        clear n3 o3 hg3 s0 s1 s2 sl c0 c1 c2
        go_wp2_with fail
        go_roundw
        case rel => exact ⟨k + 1, true, _, by omega, by go_num, rfl, HI2.out, HO3.out, HS3.out, HB3.out⟩
        case measure => (simp [intOf] <;> omega)
      | false =>
        obtain ⟨s0, s1, s2, sl⟩ := HS.out
        by_cases hlf : s.f < x.f
        · have HI2 := Lib.hid (show WInv s c (k + 1) true ((out ++ [s]) ++ [x]) from ⟨by have := HI.out.1; rw [if_neg (by decide), hw.out, if_pos hlf] at this; rw [if_pos rfl, List.append_assoc, List.append_assoc]; exact this, by have := HI.out.2; simp at this ⊢; omega⟩)
          clear hw hd
          go_wp2_with (first | (at_builtin; refine wpList_append_own _ rfl _ _ 22 rfl (w.heap.size + 1) 57 i0 (.agg #[.int .i64 0, .int .i64 0, .int .i64 0]) 3 24 Try.underlying22 hi iz0 iz1 iz2 rfl (by decide) _ _ _ rfl ((own_dr HO.out _).alloc _) ⟨_, 0, none⟩ 1 1 [.int .i64 s.f, .int .i64 s.t, .int .i64 s.o] rfl rfl (cell_new3 _ _ _ _ _ _ (by simp)) (by simp [Value.oneCell']) ?_ ?_ ?_ ?_) | (refine wp_region_quiet_lit (by kernel_rfl) (by kernel_rfl) ?_; (repeat (any_goals (first | go_big_quiet_step (fail) | quiet_step (fail) | (refine wpQuiet_step (fun K hK => ?_); go_simp; split <;> (refine hK _ ?_; clear hK K))))); all_goals (refine wpQuiet_nil ?_; intro _ hw'; obtain ⟨nq, hw''⟩ := hw'; subst hw'')))
          all_goals try (first | omega | (unfold maxLen; omega) | (simp; omega) | (simp; unfold maxLen; omega))
          intro v' w3 o3 hg3 _
          have n3 := own_below ((own_dr HO.out _).alloc _) hg3 (by simp; omega)
          have HB3 := Lib.hid ((below_alloc (below_drewN HB.out _) _).trans (n3.mono (Nat.le_succ _)))
          have HS3 := Lib.hid ((HS.out.keep (by (repeat (first | (with_reducible exact Below.refl _ _) | (with_reducible assumption) | (with_reducible refine below_alloc ?_ _) | (with_reducible refine below_drewN ?_ _) | (with_reducible refine Below.drew ?_) | (with_reducible refine below_then ?_ (by with_reducible assumption)) | (with_reducible refine Below.setCell ?_ (by go_size) _))))).keepN n3 (Nat.lt_succ_self _))
          have HO3 := Lib.hid (own_one o3)
          clear n3 o3 hg3 s0 s1 s2 sl c0 c1 c2
          obtain ⟨b', off', e, c0, c1, c2, _⟩ := hxs.out _ HB3.out
          cases e
          have hz3 := HB3.out.size
          go_wp2_with (first | (at_builtin; refine wpList_append_own _ rfl _ _ 22 rfl (w.heap.size + 1) 57 i0 (.agg #[.int .i64 0, .int .i64 0, .int .i64 0]) 3 24 Try.underlying22 hi iz0 iz1 iz2 rfl (by decide) _ _ _ rfl ((own_dr HO3.out _).alloc _) ⟨_, 0, none⟩ 1 1 [.int .i64 x.f, .int .i64 x.t, .int .i64 x.o] rfl rfl (cell_new3 _ _ _ _ _ _ (by simp)) (by simp [Value.oneCell']) ?_ ?_ ?_ ?_) | (at_builtin; refine wpList_append_own _ rfl _ _ 22 rfl (w.heap.size + 1) 57 i0 (.agg #[.int .i64 0, .int .i64 0, .int .i64 0]) 3 24 Try.underlying22 hi iz0 iz1 iz2 rfl (by decide) _ _ _ rfl (HO3.out.alloc _) ⟨_, 0, none⟩ 1 1 [.int .i64 x.f, .int .i64 x.t, .int .i64 x.o] rfl rfl (cell_new3 _ _ _ _ _ _ (by simp)) (by simp [Value.oneCell']) ?_ ?_ ?_ ?_) | (refine wp_region_quiet_lit (by kernel_rfl) (by kernel_rfl) ?_; (repeat (any_goals (first | go_big_quiet_step (fail) | quiet_step (fail) | (refine wpQuiet_step (fun K hK => ?_); go_simp; split <;> (refine hK _ ?_; clear hK K))))); all_goals (refine wpQuiet_nil ?_; intro _ hw'; obtain ⟨nq, hw''⟩ := hw'; subst hw'')))
          all_goals try (first | omega | (unfold maxLen; omega) | (simp; omega) | (simp; unfold maxLen; omega))
          intro v' w4 o4 hg4 _
          have n4 := own_below (HO3.out.alloc _) hg4 (by simp; omega)
          have HB4 := Lib.hid ((below_alloc HB3.out _).trans (n4.mono (Nat.le_succ _)))
          have HS4 := Lib.hid ((HS3.out.keep (by (repeat (first | (with_reducible exact Below.refl _ _) | (with_reducible assumption) | (with_reducible refine below_alloc ?_ _) | (with_reducible refine below_drewN ?_ _) | (with_reducible refine Below.drew ?_) | (with_reducible refine below_then ?_ (by with_reducible assumption)) | (with_reducible refine Below.setCell ?_ (by go_size) _))))).keepN n4 (Nat.lt_succ_self _))
          have HO4 := Lib.hid (own_one2 o4 (by simp))
          clear n4 o4 hg4 c0 c1 c2
          go_wp2_with fail
          go_roundw
          case rel => exact ⟨k + 1, true, _, by omega, by go_num, rfl, HI2.out, HO4.out, HS4.out, HB4.out⟩
          case measure => (simp [intOf] <;> omega)
        · have HI2 := Lib.hid (show WInv s c (k + 1) false (out ++ [x]) from ⟨by have := HI.out.1; rw [if_neg (by decide), hw.out, if_neg hlf] at this; rw [if_neg (by decide), List.append_assoc]; exact this, by have := HI.out.2; simp at this ⊢; omega⟩)
          have hd0 : decide (s.f < x.f) = false := decide_eq_false hlf
          clear hw hd
          go_wp2_with (first | (at_builtin; refine wpList_append_own _ rfl _ _ 22 rfl (w.heap.size + 1) 57 i0 (.agg #[.int .i64 0, .int .i64 0, .int .i64 0]) 3 24 Try.underlying22 hi iz0 iz1 iz2 rfl (by decide) _ _ _ rfl ((own_dr HO.out _).alloc _) ⟨_, 0, none⟩ 1 1 [.int .i64 x.f, .int .i64 x.t, .int .i64 x.o] rfl rfl (cell_new3 _ _ _ _ _ _ (by simp)) (by simp [Value.oneCell']) ?_ ?_ ?_ ?_) | (refine wp_region_quiet_lit (by kernel_rfl) (by kernel_rfl) ?_; (repeat (any_goals (first | go_big_quiet_step (fail) | quiet_step (fail) | (refine wpQuiet_step (fun K hK => ?_); go_simp; split <;> (refine hK _ ?_; clear hK K))))); all_goals (refine wpQuiet_nil ?_; intro _ hw'; obtain ⟨nq, hw''⟩ := hw'; subst hw'')))
          all_goals try (first | omega | (unfold maxLen; omega) | (simp; omega) | (simp; unfold maxLen; omega))
          intro v' w3 o3 hg3 _
          have n3 := own_below ((own_dr HO.out _).alloc _) hg3 (by simp; omega)
          have HB3 := Lib.hid ((below_alloc (below_drewN HB.out _) _).trans (n3.mono (Nat.le_succ _)))
          have HS3 := Lib.hid ((HS.out.keep (by (repeat (first | (with_reducible exact Below.refl _ _) | (with_reducible assumption) | (with_reducible refine below_alloc ?_ _) | (with_reducible refine below_drewN ?_ _) | (with_reducible refine Below.drew ?_) | (with_reducible refine below_then ?_ (by with_reducible assumption)) | (with_reducible refine Below.setCell ?_ (by go_size) _))))).keepN n3 (Nat.lt_succ_self _))
          have HO3 := Lib.hid (own_one o3)
          clear n3 o3 hg3 s0 s1 s2 sl c0 c1 c2
          go_wp2_with fail
          go_roundw
          case rel => exact ⟨k + 1, false, _, by omega, by go_num, rfl, HI2.out, HO3.out, HS3.out, HB3.out⟩
          case measure => (simp [intOf] <;> omega)
    · obtain rfl : k = c.length := by omega
      have hz0 := HB.out.size
      cases dn with
      | true =>
        have HF := Lib.hid (show out = withL s c by have := HI.out.1; rw [if_pos rfl, List.drop_length, List.append_nil] at this; exact this)
        rw [HF.out] at HO
        go_wp2_with fail
        go_returns
        exact ⟨_, rfl, own_mono HO.out (Nat.le_succ _), HB.out⟩
      | false =>
        have hol : out.length = c.length := by have := HI.out.2; simpa using this
        have HF := Lib.hid (show out ++ [s] = withL s c by have := HI.out.1; rw [if_neg (by decide), List.drop_length] at this; exact this)
        obtain ⟨s0, s1, s2, sl⟩ := HS.out
        go_wp2_with (at_builtin; refine wpList_append_own _ rfl _ _ 22 rfl (w.heap.size + 1) 57 i0 (.agg #[.int .i64 0, .int .i64 0, .int .i64 0]) 3 24 Try.underlying22 hi iz0 iz1 iz2 rfl (by decide) _ _ _ rfl (HO.out.alloc _) ⟨_, 0, none⟩ 1 1 [.int .i64 s.f, .int .i64 s.t, .int .i64 s.o] rfl rfl (cell_new3 _ _ _ _ _ _ (by simp)) (by simp [Value.oneCell']) ?_ ?_ ?_ ?_)
        all_goals try (first | omega | (unfold maxLen; omega) | (simp; omega) | (simp; unfold maxLen; omega))
        intro v' w3 o3 hg3 _
        have n3 := own_below (HO.out.alloc _) hg3 (by simp; omega)
        have HB3 := Lib.hid ((below_alloc HB.out _).trans (n3.mono (Nat.le_succ _)))
        have HO3 := Lib.hid (own_one2 o3 (by omega))
        rw [show out ++ [(⟨s.f, s.t, s.o⟩ : Sl)] = withL s c from HF.out] at HO3
        clear n3 o3 hg3 s0 s1 s2 sl
        go_wp2_with fail
        go_returns
        exact ⟨_, rfl, own_mono HO3.out (Nat.le_succ _), HB3.out⟩
end

section
open Go.RowKit Go.Shelf

theorem lessL_succ {c : List Sl} {k : Nat} (hk : k < c.length) (ow : Int) : lessL ow (c.take (k + 1)) = lessL ow (c.take k) ++ (if c[k].o ≠ ow then [c[k]] else []) := by
  unfold lessL
  rw [List.take_add_one, List.getElem?_eq_getElem hk, List.filter_append]
  congr 1
  simp only [Option.toList, List.filter_cons, List.filter_nil, decide_eq_true_eq]
theorem lessL_len (ow : Int) (c : List Sl) : (lessL ow c).length ≤ c.length := by unfold lessL; exact List.length_filter_le _ _
set_option maxRecDepth 100000 in set_option maxHeartbeats 4000000 in
theorem ref08_Less (ba : Option Addr) (ca : Nat) (c : List Sl) (ow : Int) (w : World) (hc : CIn w ba c) (hl : c.length ≤ 5000) :
    Calls Try.prog 97 #[.slice ba c.length ca, .int .i64 ow] w (RS w (lessL ow c)) := by
  obtain ⟨i0, hi, iz0, iz1, iz2⟩ := info_parts infoSlot
  have HC := Lib.hid hc
  clear hc
  go_enter Try.func97, Try.ntmps97
  go_wp2_with fail
  go_loopw [5, 6] (fun v i wr => ∃ (k : Nat), k ≤ c.length ∧ i = .int .i64 k ∧ wr.ownsRow w.heap.size 57 3 v (lessL ow (c.take k)).length (slc (lessL ow (c.take k))) ∧ Below w.heap.size w wr) (fun _ i _ => c.length - (intOf i).toNat)
  case atStart => exact ⟨0, Nat.zero_le _, rfl, ⟨rfl, .inl ⟨rfl, rfl⟩⟩, Below.refl _ _⟩
  case round =>
    obtain ⟨k, hk, rfl, hown, hbel⟩ := hrel
    have HO := Lib.hid hown
    have HB := Lib.hid hbel
    clear hown hbel
    by_cases hlt : k < c.length
    · obtain ⟨b, off, rfl, c0, c1, c2, hbl⟩ := (HC.out.keep HB.out).at hlt
      have hs := Lib.hid (lessL_succ hlt ow)
      have hlen := lessL_len ow (c.take k)
      have hlk : (c.take k).length = k := by rw [List.length_take]; omega
      obtain ⟨x, hx⟩ : ∃ x, x = c[k] := ⟨_, rfl⟩
      rw [← hx] at c0 c1 c2 hs
      clear hx
      obtain ⟨old, hold⟩ : ∃ old, old = lessL ow (c.take k) := ⟨_, rfl⟩
      rw [← hold] at hs HO hlen
      clear hold
      by_cases ho : x.o = ow
      · have hs2 := Lib.hid (hs.out.trans (by rw [if_neg (by simpa using ho), List.append_nil] : _ = old))
        have hd0 : (x.o == ow) = true := by simpa using ho
        have hd1 : (x.o != ow) = false := by simp [ho]
        clear hs
        go_wp2_with fail
        go_roundw
        case rel => exact ⟨k + 1, by omega, by go_num, by rw [hs2.out]; exact HO.out, HB.out⟩
        case measure => (simp [intOf] <;> omega)
      · have hs2 := Lib.hid (hs.out.trans (by rw [if_pos ho] : _ = old ++ [x]))
        have hd0 : (x.o == ow) = false := by simpa using ho
        have hd1 : (x.o != ow) = true := by simp [ho]
        clear hs
        have hz0 := HB.out.size
        go_wp2_with (at_builtin; refine wpList_append_own _ rfl _ _ 22 rfl (w.heap.size) 57 i0 (.agg #[.int .i64 0, .int .i64 0, .int .i64 0]) 3 24 Try.underlying22 hi iz0 iz1 iz2 rfl (by decide) _ _ _ rfl (HO.out.alloc _) ⟨_, 0, none⟩ 1 1 [.int .i64 x.f, .int .i64 x.t, .int .i64 x.o] rfl rfl (cell_new3 _ _ _ _ _ _ (by simp)) (by simp [Value.oneCell']) ?_ ?_ ?_ ?_)
        (all_goals try (first | omega | (unfold maxLen; omega) | (simp; omega) | (simp; unfold maxLen; omega)))
        intro v' w3 o3 hg3 _
        have n3 := own_below (HO.out.alloc _) hg3 (by simp; omega)
        have HB3 := Lib.hid ((below_alloc HB.out _).trans n3)
        have HO3 := Lib.hid (own_one o3)
        clear n3 o3 hg3
        go_wp2_with fail
        go_roundw
        case rel => exact ⟨k + 1, by omega, by go_num, by rw [hs2.out]; exact HO3.out, HB3.out⟩
        case measure => (simp [intOf] <;> omega)
    · obtain rfl : k = c.length := by omega
      rw [List.take_length] at HO
      go_wp2_with fail
      go_returns
      exact ⟨_, rfl, HO.out, HB.out⟩

theorem endL_succ {c : List Sl} {k : Nat} (hk : k < c.length) (ow tm : Int) : endL ow tm (c.take (k + 1)) = endL ow tm (c.take k) ++ (endO ow tm c[k]).toList := by
  unfold endL
  rw [List.take_add_one, List.getElem?_eq_getElem hk, List.filterMap_append]
  congr 1
theorem endL_len (ow tm : Int) (c : List Sl) : (endL ow tm c).length ≤ c.length := by unfold endL; exact List.length_filterMap_le _ _
set_option maxRecDepth 100000 in set_option maxHeartbeats 4000000 in
theorem ref08_Ended (ba : Option Addr) (ca : Nat) (c : List Sl) (ow tm : Int) (w : World) (hc : CIn w ba c) (hl : c.length ≤ 5000) :
    Calls Try.prog 100 #[.slice ba c.length ca, .int .i64 ow, .int .i64 tm] w (RS w (endL ow tm c)) := by
  obtain ⟨i0, hi, iz0, iz1, iz2⟩ := info_parts infoSlot
  have HC := Lib.hid hc
  clear hc
  go_enter Try.func100, Try.ntmps100
  go_wp2_with fail
  go_loopw [7, 8] (fun v i wr => ∃ (k : Nat), k ≤ c.length ∧ i = .int .i64 k ∧ wr.ownsRow w.heap.size 57 3 v (endL ow tm (c.take k)).length (slc (endL ow tm (c.take k))) ∧ Below w.heap.size w wr) (fun _ i _ => c.length - (intOf i).toNat)
  case atStart => exact ⟨0, Nat.zero_le _, rfl, ⟨rfl, .inl ⟨rfl, rfl⟩⟩, Below.refl _ _⟩
  case round =>
    obtain ⟨k, hk, rfl, hown, hbel⟩ := hrel
    have HO := Lib.hid hown
    have HB := Lib.hid hbel
    clear hown hbel
    by_cases hlt : k < c.length
    · obtain ⟨b, off, rfl, c0, c1, c2, hbl⟩ := (HC.out.keep HB.out).at hlt
      have hs := Lib.hid (endL_succ hlt ow tm)
      have hlen := endL_len ow tm (c.take k)
      have hlk : (c.take k).length = k := by rw [List.length_take]; omega
      obtain ⟨x, hx⟩ : ∃ x, x = c[k] := ⟨_, rfl⟩
      rw [← hx] at c0 c1 c2 hs
      clear hx
      obtain ⟨old, hold⟩ : ∃ old, old = endL ow tm (c.take k) := ⟨_, rfl⟩
      rw [← hold] at hs HO hlen
      clear hold
      have he := Lib.hid (show endO ow tm x = if x.o = ow then (if tm ≤ x.f then none else if tm < x.t then some ⟨x.f, tm, x.o⟩ else some x) else some x from rfl)
      have hz0 := HB.out.size
      by_cases ho : x.o = ow
      · have hd0 : (x.o == ow) = true := by simpa using ho
        by_cases h2 : tm ≤ x.f
        · have hs2 := Lib.hid (hs.out.trans (by rw [he.out, if_pos ho, if_pos h2]; exact List.append_nil _ : _ = old))
          have hd1 : decide (tm ≤ x.f) = true := decide_eq_true h2
          clear hs he ho
          go_wp2_with fail
          go_roundw
          case rel => exact ⟨k + 1, by omega, by go_num, by rw [hs2.out]; exact HO.out.alloc _, below_alloc HB.out _⟩
          case measure => (simp [intOf] <;> omega)
        · have hd1 : decide (tm ≤ x.f) = false := decide_eq_false h2
          by_cases h3 : tm < x.t
          · have hs2 := Lib.hid (hs.out.trans (by rw [he.out, if_pos ho, if_neg h2, if_pos h3]; rfl : _ = old ++ [(⟨x.f, tm, x.o⟩ : Sl)]))
            have hd2 : decide (tm < x.t) = true := decide_eq_true h3
            clear hs he ho
            go_wp2_with (at_builtin; refine wpList_append_own _ rfl _ _ 22 rfl (w.heap.size) 57 i0 (.agg #[.int .i64 0, .int .i64 0, .int .i64 0]) 3 24 Try.underlying22 hi iz0 iz1 iz2 rfl (by decide) _ _ _ rfl ((HO.out.alloc _).alloc _) ⟨_, 0, none⟩ 1 1 [.int .i64 x.f, .int .i64 tm, .int .i64 x.o] rfl rfl (cell_new3 _ _ _ _ _ _ (by simp)) (by simp [Value.oneCell']) ?_ ?_ ?_ ?_)
            (all_goals try (first | omega | (unfold maxLen; omega) | (simp; omega) | (simp; unfold maxLen; omega)))
            intro v' w3 o3 hg3 _
            have n3 := own_below ((HO.out.alloc _).alloc _) hg3 (by simp; omega)
            have HB3 := Lib.hid ((below_alloc (below_alloc HB.out _) _).trans n3)
            have HO3 := Lib.hid (own_one o3)
            clear n3 o3 hg3
            go_wp2_with fail
            go_roundw
            case rel => exact ⟨k + 1, by omega, by go_num, by rw [hs2.out]; exact HO3.out, HB3.out⟩
            case measure => (simp [intOf] <;> omega)
          · have hs2 := Lib.hid (hs.out.trans (by rw [he.out, if_pos ho, if_neg h2, if_neg h3]; rfl : _ = old ++ [x]))
            have hd2 : decide (tm < x.t) = false := decide_eq_false h3
            clear hs he ho
            go_wp2_with (at_builtin; refine wpList_append_own _ rfl _ _ 22 rfl (w.heap.size) 57 i0 (.agg #[.int .i64 0, .int .i64 0, .int .i64 0]) 3 24 Try.underlying22 hi iz0 iz1 iz2 rfl (by decide) _ _ _ rfl ((HO.out.alloc _).alloc _) ⟨_, 0, none⟩ 1 1 [.int .i64 x.f, .int .i64 x.t, .int .i64 x.o] rfl rfl (cell_new3 _ _ _ _ _ _ (by simp)) (by simp [Value.oneCell']) ?_ ?_ ?_ ?_)
            (all_goals try (first | omega | (unfold maxLen; omega) | (simp; omega) | (simp; unfold maxLen; omega)))
            intro v' w3 o3 hg3 _
            have n3 := own_below ((HO.out.alloc _).alloc _) hg3 (by simp; omega)
            have HB3 := Lib.hid ((below_alloc (below_alloc HB.out _) _).trans n3)
            have HO3 := Lib.hid (own_one o3)
            clear n3 o3 hg3
            go_wp2_with fail
            go_roundw
            case rel => exact ⟨k + 1, by omega, by go_num, by rw [hs2.out]; exact HO3.out, HB3.out⟩
            case measure => (simp [intOf] <;> omega)
      · have hd0 : (x.o == ow) = false := by simpa using ho
        have hs2 := Lib.hid (hs.out.trans (by rw [he.out, if_neg ho]; rfl : _ = old ++ [x]))
        clear hs he ho
        go_wp2_with (at_builtin; refine wpList_append_own _ rfl _ _ 22 rfl (w.heap.size) 57 i0 (.agg #[.int .i64 0, .int .i64 0, .int .i64 0]) 3 24 Try.underlying22 hi iz0 iz1 iz2 rfl (by decide) _ _ _ rfl ((HO.out.alloc _).alloc _) ⟨_, 0, none⟩ 1 1 [.int .i64 x.f, .int .i64 x.t, .int .i64 x.o] rfl rfl (cell_new3 _ _ _ _ _ _ (by simp)) (by simp [Value.oneCell']) ?_ ?_ ?_ ?_)
        (all_goals try (first | omega | (unfold maxLen; omega) | (simp; omega) | (simp; unfold maxLen; omega)))
        intro v' w3 o3 hg3 _
        have n3 := own_below ((HO.out.alloc _).alloc _) hg3 (by simp; omega)
        have HB3 := Lib.hid ((below_alloc (below_alloc HB.out _) _).trans n3)
        have HO3 := Lib.hid (own_one o3)
        clear n3 o3 hg3
        go_wp2_with fail
        go_roundw
        case rel => exact ⟨k + 1, by omega, by go_num, by rw [hs2.out]; exact HO3.out, HB3.out⟩
        case measure => (simp [intOf] <;> omega)
    · obtain rfl : k = c.length := by omega
      rw [List.take_length] at HO
      go_wp2_with fail
      go_returns
      exact ⟨_, rfl, HO.out, HB.out⟩

/-! ### Put, Take, Cut -/
set_option maxRecDepth 100000 in set_option maxHeartbeats 4000000 in
theorem ref08_Cut (ba : Option Addr) (ca : Nat) (c : List Sl) (ow tm : Int) (w : World) (hc : CIn w ba c) :
    Calls Try.prog 39 #[.slice ba c.length ca, .int .i64 ow, .int .i64 tm] w (RSE w (cutV ow tm c) (calE c)) := by
  have H1 := Lib.hid (ref08_May ba ca c w hc)
  cases hy : calOk c
  · have h0 : calE c = 8 := by unfold calE; rw [hy]; rfl
    rw [show cutV ow tm c = [] from if_neg (by omega), h0]
    have H1 := Lib.hid (Calls.rb_eq H1.out (congrArg Value.bool hy))
    clear hy h0 hc
    go_enter Try.func39, Try.ntmps39
    go_wp2_with fail
    refine H1.out.mono ?_
    rintro e w1 ⟨rfl, hb1⟩
    go_wp2_with fail
    go_returns
    exact rse_nil _ hb1
  · have h0 : calE c = 0 := by unfold calE; rw [hy]; rfl
    obtain ⟨hch, hl⟩ := calE_ok h0
    rw [show cutV ow tm c = cutL ow tm c from if_pos h0, h0, ← endL_eq ow tm (chain0_iff.1 hch).1]
    have H1 := Lib.hid (Calls.rb_eq H1.out (congrArg Value.bool hy))
    have H2 := Lib.hid (fun W (h : Below w.heap.size w W) => ref08_Ended ba ca c ow tm W (hc.keep h) (by omega))
    clear hy h0 hc hch
    generalize endL ow tm c = l at *
    go_enter Try.func39, Try.ntmps39
    go_wp2_with fail
    refine H1.out.mono ?_
    rintro e w1 ⟨rfl, hb1⟩
    go_wp2_with fail
    refine (H2.out _ hb1).mono ?_
    rintro e w2 ⟨v, rfl, ho, hb2⟩
    have HO := Lib.hid ho
    clear ho
    go_wp2_with fail
    go_returns
    exact ⟨_, rfl, own_mono HO.out hb1.size, below_then hb1 hb2⟩
set_option maxRecDepth 100000 in set_option maxHeartbeats 4000000 in
theorem ref08_Take (ba : Option Addr) (ca : Nat) (c : List Sl) (ow : Int) (w : World) (hc : CIn w ba c) :
    Calls Try.prog 37 #[.slice ba c.length ca, .int .i64 ow] w (RSE w (cutV ow 0 c) (calE c)) := by
  have H1 := Lib.hid (ref08_May ba ca c w hc)
  cases hy : calOk c
  · have h0 : calE c = 8 := by unfold calE; rw [hy]; rfl
    rw [show cutV ow 0 c = [] from if_neg (by omega), h0]
    have H1 := Lib.hid (Calls.rb_eq H1.out (congrArg Value.bool hy))
    clear hy h0 hc
    go_enter Try.func37, Try.ntmps37
    go_wp2_with fail
    refine H1.out.mono ?_
    rintro e w1 ⟨rfl, hb1⟩
    go_wp2_with fail
    go_returns
    exact rse_nil _ hb1
  · have h0 : calE c = 0 := by unfold calE; rw [hy]; rfl
    obtain ⟨hch, hl⟩ := calE_ok h0
    rw [show cutV ow 0 c = cutL ow 0 c from if_pos h0, h0, ← lessL_eq ow (chain0_iff.1 hch).1]
    have H1 := Lib.hid (Calls.rb_eq H1.out (congrArg Value.bool hy))
    have H2 := Lib.hid (fun W (h : Below w.heap.size w W) => ref08_Less ba ca c ow W (hc.keep h) (by omega))
    clear hy h0 hc hch
    generalize lessL ow c = l at *
    go_enter Try.func37, Try.ntmps37
    go_wp2_with fail
    refine H1.out.mono ?_
    rintro e w1 ⟨rfl, hb1⟩
    go_wp2_with fail
    refine (H2.out _ hb1).mono ?_
    rintro e w2 ⟨v, rfl, ho, hb2⟩
    have HO := Lib.hid ho
    clear ho
    go_wp2_with fail
    go_returns
    exact ⟨_, rfl, own_mono HO.out hb1.size, below_then hb1 hb2⟩
set_option maxRecDepth 100000 in set_option maxHeartbeats 4000000 in
theorem ref08_Put (ba : Option Addr) (ca : Nat) (c : List Sl) (s : Sl) (w : World) (hc : CIn w ba c) :
    Calls Try.prog 35 #[.slice ba c.length ca, .agg #[.int .i64 s.f, .int .i64 s.t, .int .i64 s.o]] w (RSE w (putV c s) (putE c s)) := by
  have H1 := Lib.hid (fun W (h : Below w.heap.size w W) => ref08_May ba ca c W (hc.keep h))
  have H2 := Lib.hid (fun W => ref08_MaySlot s W)
  have H3 := Lib.hid (fun W (h : Below w.heap.size w W) => ref08_Clear ba ca c s.f s.t W (hc.keep h))
  have H4 := Lib.hid (fun W (h : Below w.heap.size w W) hl => ref08_With ba ca c s W (hc.keep h) hl)
  have HE := Lib.hid (show putE c s = if calOk c then if s.may then if clearB c s.f s.t then if 4096 ≤ c.length then 4 else 0 else 80 else 2 else 8 from (putRE_eq c s).symm)
  have HV := Lib.hid (show putV c s = if putE c s = 0 then withL s c else [] by rw [← putRV_eq, putRV, putRE_eq])
  clear hc
  cases hy : calOk c
  · have e0 : putE c s = 8 := by rw [HE.out, hy]; rfl
    rw [HV.out, e0, if_neg (by decide)]
    have H1 := Lib.hid (fun W h => Calls.rb_eq (H1.out W h) (congrArg Value.bool hy))
    clear hy e0 HE HV
    go_enter Try.func35, Try.ntmps35
    go_wp2_with fail
    refine (H1.out _ (by (repeat (first | (with_reducible exact Below.refl _ _) | (with_reducible assumption) | (with_reducible refine below_alloc ?_ _) | (with_reducible refine below_drewN ?_ _) | (with_reducible refine Below.drew ?_) | (with_reducible refine below_then ?_ (by with_reducible assumption)) | (with_reducible refine Below.setCell ?_ (by go_size) _))))).mono ?_
    rintro e w1 ⟨rfl, hb1⟩
    go_wp2_with fail
    go_returns
    exact rse_nil _ (below_then (by (repeat (first | (with_reducible exact Below.refl _ _) | (with_reducible assumption) | (with_reducible refine below_alloc ?_ _) | (with_reducible refine below_drewN ?_ _) | (with_reducible refine Below.drew ?_) | (with_reducible refine below_then ?_ (by with_reducible assumption)) | (with_reducible refine Below.setCell ?_ (by go_size) _)))) hb1)
  have H1 := Lib.hid (fun W h => Calls.rb_eq (H1.out W h) (congrArg Value.bool hy))
  by_cases hm : s.may
  · have H2 := Lib.hid (fun W => Calls.rb_eq (H2.out W) (congrArg Value.bool (decide_eq_true hm)))
    cases hf : clearB c s.f s.t
    · have e0 : putE c s = 80 := by rw [HE.out, hy, if_pos rfl, if_pos hm, hf]; rfl
      rw [HV.out, e0, if_neg (by decide)]
      have H3 := Lib.hid (fun W h => Calls.rb_eq (H3.out W h) (congrArg Value.bool hf))
      clear hy e0 HE HV hf hm
      go_enter Try.func35, Try.ntmps35
      go_wp2_with fail
      refine (H1.out _ (by (repeat (first | (with_reducible exact Below.refl _ _) | (with_reducible assumption) | (with_reducible refine below_alloc ?_ _) | (with_reducible refine below_drewN ?_ _) | (with_reducible refine Below.drew ?_) | (with_reducible refine below_then ?_ (by with_reducible assumption)) | (with_reducible refine Below.setCell ?_ (by go_size) _))))).mono ?_
      rintro e w1 ⟨rfl, hb1⟩
      have HS := Lib.hid ((SlAt.new w 57 s).keep hb1)
      have HB := Lib.hid (below_then (show Below w.heap.size w (w.alloc (.cells #[.int .i64 s.f, .int .i64 s.t, .int .i64 s.o] 57)) by (repeat (first | (with_reducible exact Below.refl _ _) | (with_reducible assumption) | (with_reducible refine below_alloc ?_ _) | (with_reducible refine below_drewN ?_ _) | (with_reducible refine Below.drew ?_) | (with_reducible refine below_then ?_ (by with_reducible assumption)) | (with_reducible refine Below.setCell ?_ (by go_size) _)))) hb1)
      clear hb1
      (obtain ⟨s0, s1, s2, sl⟩ := HS.out; go_wp2_with fail; clear s0 s1 s2 sl)
      refine (H2.out _).mono ?_
      rintro e w2 ⟨rfl, hb1⟩
      (have HS := Lib.hid (HS.out.keep hb1); have HB := Lib.hid (below_then HB.out hb1))
      clear hb1
      (obtain ⟨s0, s1, s2, sl⟩ := HS.out; go_wp2_with fail; clear s0 s1 s2 sl)
      refine (H3.out _ HB.out).mono ?_
      rintro e w3 ⟨rfl, hb1⟩
      (have HS := Lib.hid (HS.out.keep hb1); have HB := Lib.hid (below_then HB.out hb1))
      clear hb1
      (obtain ⟨s0, s1, s2, sl⟩ := HS.out; go_wp2_with fail; clear s0 s1 s2 sl)
      go_returns
      exact rse_nil _ HB.out
    · have H3 := Lib.hid (fun W h => Calls.rb_eq (H3.out W h) (congrArg Value.bool hf))
      by_cases hl : 4096 ≤ c.length
      · have e0 : putE c s = 4 := by rw [HE.out, hy, if_pos rfl, if_pos hm, hf, if_pos rfl, if_pos hl]
        rw [HV.out, e0, if_neg (by decide)]
        have hl2 : decide (4096 ≤ c.length) = true := decide_eq_true hl
        have hl3 : (4096 : Int) ≤ (c.length : Int) := by omega
        clear hy e0 HE HV hf hm
        go_enter Try.func35, Try.ntmps35
        go_wp2_with fail
        refine (H1.out _ (by (repeat (first | (with_reducible exact Below.refl _ _) | (with_reducible assumption) | (with_reducible refine below_alloc ?_ _) | (with_reducible refine below_drewN ?_ _) | (with_reducible refine Below.drew ?_) | (with_reducible refine below_then ?_ (by with_reducible assumption)) | (with_reducible refine Below.setCell ?_ (by go_size) _))))).mono ?_
        rintro e w1 ⟨rfl, hb1⟩
        have HS := Lib.hid ((SlAt.new w 57 s).keep hb1)
        have HB := Lib.hid (below_then (show Below w.heap.size w (w.alloc (.cells #[.int .i64 s.f, .int .i64 s.t, .int .i64 s.o] 57)) by (repeat (first | (with_reducible exact Below.refl _ _) | (with_reducible assumption) | (with_reducible refine below_alloc ?_ _) | (with_reducible refine below_drewN ?_ _) | (with_reducible refine Below.drew ?_) | (with_reducible refine below_then ?_ (by with_reducible assumption)) | (with_reducible refine Below.setCell ?_ (by go_size) _)))) hb1)
        clear hb1
        (obtain ⟨s0, s1, s2, sl⟩ := HS.out; go_wp2_with fail; clear s0 s1 s2 sl)
        refine (H2.out _).mono ?_
        rintro e w2 ⟨rfl, hb1⟩
        (have HS := Lib.hid (HS.out.keep hb1); have HB := Lib.hid (below_then HB.out hb1))
        clear hb1
        (obtain ⟨s0, s1, s2, sl⟩ := HS.out; go_wp2_with fail; clear s0 s1 s2 sl)
        refine (H3.out _ HB.out).mono ?_
        rintro e w3 ⟨rfl, hb1⟩
        (have HS := Lib.hid (HS.out.keep hb1); have HB := Lib.hid (below_then HB.out hb1))
        clear hb1
        (obtain ⟨s0, s1, s2, sl⟩ := HS.out; go_wp2_with fail; clear s0 s1 s2 sl)
        go_returns
        exact rse_nil _ HB.out
      · have e0 : putE c s = 0 := by rw [HE.out, hy, if_pos rfl, if_pos hm, hf, if_pos rfl, if_neg hl]
        rw [HV.out, e0, if_pos rfl]
        have hl2 : decide (4096 ≤ c.length) = false := decide_eq_false hl
        clear hy e0 HE HV hf hm
        generalize withL s c = l at *
        go_enter Try.func35, Try.ntmps35
        go_wp2_with fail
        refine (H1.out _ (by (repeat (first | (with_reducible exact Below.refl _ _) | (with_reducible assumption) | (with_reducible refine below_alloc ?_ _) | (with_reducible refine below_drewN ?_ _) | (with_reducible refine Below.drew ?_) | (with_reducible refine below_then ?_ (by with_reducible assumption)) | (with_reducible refine Below.setCell ?_ (by go_size) _))))).mono ?_
        rintro e w1 ⟨rfl, hb1⟩
        have HS := Lib.hid ((SlAt.new w 57 s).keep hb1)
        have HB := Lib.hid (below_then (show Below w.heap.size w (w.alloc (.cells #[.int .i64 s.f, .int .i64 s.t, .int .i64 s.o] 57)) by (repeat (first | (with_reducible exact Below.refl _ _) | (with_reducible assumption) | (with_reducible refine below_alloc ?_ _) | (with_reducible refine below_drewN ?_ _) | (with_reducible refine Below.drew ?_) | (with_reducible refine below_then ?_ (by with_reducible assumption)) | (with_reducible refine Below.setCell ?_ (by go_size) _)))) hb1)
        clear hb1
        (obtain ⟨s0, s1, s2, sl⟩ := HS.out; go_wp2_with fail; clear s0 s1 s2 sl)
        refine (H2.out _).mono ?_
        rintro e w2 ⟨rfl, hb1⟩
        (have HS := Lib.hid (HS.out.keep hb1); have HB := Lib.hid (below_then HB.out hb1))
        clear hb1
        (obtain ⟨s0, s1, s2, sl⟩ := HS.out; go_wp2_with fail; clear s0 s1 s2 sl)
        refine (H3.out _ HB.out).mono ?_
        rintro e w3 ⟨rfl, hb1⟩
        (have HS := Lib.hid (HS.out.keep hb1); have HB := Lib.hid (below_then HB.out hb1))
        clear hb1
        (obtain ⟨s0, s1, s2, sl⟩ := HS.out; go_wp2_with fail; clear s0 s1 s2 sl)
        refine (H4.out _ HB.out (by omega)).mono ?_
        rintro e w4 ⟨v, rfl, ho, hb4⟩
        have HO := Lib.hid ho
        clear ho
        go_wp2_with fail
        go_returns
        exact ⟨_, rfl, own_mono HO.out HB.out.size, below_then HB.out hb4⟩
  · have H2 := Lib.hid (fun W => Calls.rb_eq (H2.out W) (congrArg Value.bool (decide_eq_false hm)))
    have e0 : putE c s = 2 := by rw [HE.out, hy, if_pos rfl, if_neg hm]
    rw [HV.out, e0, if_neg (by decide)]
    clear hy e0 HE HV hm
    go_enter Try.func35, Try.ntmps35
    go_wp2_with fail
    refine (H1.out _ (by (repeat (first | (with_reducible exact Below.refl _ _) | (with_reducible assumption) | (with_reducible refine below_alloc ?_ _) | (with_reducible refine below_drewN ?_ _) | (with_reducible refine Below.drew ?_) | (with_reducible refine below_then ?_ (by with_reducible assumption)) | (with_reducible refine Below.setCell ?_ (by go_size) _))))).mono ?_
    rintro e w1 ⟨rfl, hb1⟩
    have HS := Lib.hid ((SlAt.new w 57 s).keep hb1)
    have HB := Lib.hid (below_then (show Below w.heap.size w (w.alloc (.cells #[.int .i64 s.f, .int .i64 s.t, .int .i64 s.o] 57)) by (repeat (first | (with_reducible exact Below.refl _ _) | (with_reducible assumption) | (with_reducible refine below_alloc ?_ _) | (with_reducible refine below_drewN ?_ _) | (with_reducible refine Below.drew ?_) | (with_reducible refine below_then ?_ (by with_reducible assumption)) | (with_reducible refine Below.setCell ?_ (by go_size) _)))) hb1)
    clear hb1
    (obtain ⟨s0, s1, s2, sl⟩ := HS.out; go_wp2_with fail; clear s0 s1 s2 sl)
    refine (H2.out _).mono ?_
    rintro e w2 ⟨rfl, hb1⟩
    (have HS := Lib.hid (HS.out.keep hb1); have HB := Lib.hid (below_then HB.out hb1))
    clear hb1
    (obtain ⟨s0, s1, s2, sl⟩ := HS.out; go_wp2_with fail; clear s0 s1 s2 sl)
    go_returns
    exact rse_nil _ HB.out
end
end Go.Proofs.Ytfikgjcmnooglaa
