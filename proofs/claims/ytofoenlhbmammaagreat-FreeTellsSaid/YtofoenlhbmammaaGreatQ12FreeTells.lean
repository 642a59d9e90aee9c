/- CAL: calendars of the call's own; Next whole; spans of a length; the chapter's C; the chapter's first examples. -/
import Derived.Laws.StructEq
import Derived.ChangeKeysEq
import Derived.Test.YtofoenlhbmammaaGreatQ0CalA
import Derived.Test.YtofoenlhbmammaaGreatQ0Put12
namespace Go.Proofs.YtofoenlhbmammaaGreat

section
section
open Go.RowKit Go.Shelf

theorem SlAt.keepN {w W : World} {N B : Nat} {s : Sl} (h : SlAt w B s) (hb : Below N w W) (hB : B < N) : SlAt W B s :=
  ⟨(hb.cell (p := ⟨B, 0, none⟩) hB).trans h.c0, (hb.cell (p := ⟨B, 1, none⟩) hB).trans h.c1, (hb.cell (p := ⟨B, 2, none⟩) hB).trans h.c2, Nat.lt_of_lt_of_le h.lt hb.size⟩
theorem withL_drop {c : List Sl} {k : Nat} (hk : k < c.length) (s : Sl) : withL s (c.drop k) = if s.f < c[k].f then s :: c[k] :: c.drop (k + 1) else c[k] :: withL s (c.drop (k + 1)) := by
  rw [List.drop_eq_getElem_cons hk]; rfl
theorem own_one {w : World} {B : Nat} {v : Value} {l : List Sl} {f t o : Int} (h : w.ownsRow B 68 3 v (l.length + 1) (slc l ++ [.int .i64 f, .int .i64 t, .int .i64 o])) : w.ownsRow B 68 3 v (l ++ [(⟨f, t, o⟩ : Sl)]).length (slc (l ++ [(⟨f, t, o⟩ : Sl)])) := by
  rw [slc_app, List.length_append]; exact h
theorem own_one2 {w : World} {B n : Nat} {v : Value} {l : List Sl} {f t o : Int} (h : w.ownsRow B 68 3 v n (slc l ++ [.int .i64 f, .int .i64 t, .int .i64 o])) (hn : n = l.length + 1) : w.ownsRow B 68 3 v (l ++ [(⟨f, t, o⟩ : Sl)]).length (slc (l ++ [(⟨f, t, o⟩ : Sl)])) := by
  subst hn; exact own_one h
theorem own_dr {w : World} {B : Nat} {e : TypeId} {size n : Nat} {v : Value} {xs : List Value} (h : w.ownsRow B e size v n xs) (q : Nat) : (w.drewN q).ownsRow B e size v n xs := h
/-- What With has laid so far. -/
def WInv (s : Sl) (c : List Sl) (k : Nat) (dn : Bool) (out : List Sl) : Prop := out ++ (if dn then c.drop k else withL s (c.drop k)) = withL s c ∧ out.length = k + (if dn then 1 else 0)
set_option maxRecDepth 100000 in set_option maxHeartbeats 4000000 in
theorem ref08_With (ba : Option Addr) (ca : Nat) (c : List Sl) (s : Sl) (w : World) (hc : CIn w ba c) (hl : c.length ≤ 5000) :
    Calls Tryz.prog 50 #[.slice ba c.length ca, .agg #[.int .i64 s.f, .int .i64 s.t, .int .i64 s.o]] w (RS w (withL s c)) := by
  obtain ⟨i0, hi, iz0, iz1, iz2⟩ := info_parts infoSlot
  have HC := Lib.hid hc
  have HS0 := Lib.hid (SlAt.new w 68 s)
  clear hc
  go_enter Tryz.func50, Tryz.ntmps50
  go_wp2_with fail
  go_loopw [5, 6, 7] (fun v d i wr => ∃ (k : Nat) (dn : Bool) (out : List Sl), k ≤ c.length ∧ i = .int .i64 k ∧ d = .bool dn ∧ WInv s c k dn out ∧ wr.ownsRow (w.heap.size + 1) 68 3 v out.length (slc out) ∧ SlAt wr w.heap.size s ∧ Below w.heap.size w wr) (fun _ _ i _ => c.length - (intOf i).toNat)
  case atStart => exact ⟨0, false, [], Nat.zero_le _, rfl, rfl, ⟨rfl, rfl⟩, ⟨rfl, .inl ⟨rfl, rfl⟩⟩, HS0.out, by (repeat (first | (with_reducible exact Below.refl _ _) | (with_reducible assumption) | (with_reducible refine below_alloc ?_ _) | (with_reducible refine below_drewN ?_ _) | (with_reducible refine Below.drew ?_) | (with_reducible refine below_then ?_ (by with_reducible assumption)) | (with_reducible refine Below.setCell ?_ (by go_size) _)))⟩
  case round =>
    obtain ⟨k, dn, out, hk, rfl, rfl, hinv, hown, hsl, hbel⟩ := hrel
    have HI := Lib.hid hinv
    have HO := Lib.hid hown
    have HS := Lib.hid hsl
    have HB := Lib.hid hbel
    clear hinv hown hsl hbel
    by_cases hlt : k < c.length
    · obtain ⟨b, off, rfl, c0, c1, c2, hbl⟩ := (HC.out.keep HB.out).at hlt
      have hw := Lib.hid (withL_drop hlt s)
      have hd := Lib.hid (List.drop_eq_getElem_cons hlt)
      obtain ⟨x, hx⟩ : ∃ x, x = c[k] := ⟨_, rfl⟩
      rw [← hx] at c0 c1 c2 hw hd
      have hol : out.length ≤ k + 1 := by have := HI.out.2; split at this <;> omega
      have hz0 := HB.out.size
      have hxs := Lib.hid (fun W (h : Below w.heap.size w W) => (HC.out.keep h).at hlt)
      rw [← hx] at hxs
      clear hx
      cases dn with
      | true =>
        have HI2 := Lib.hid (show WInv s c (k + 1) true (out ++ [x]) from ⟨by have := HI.out.1; rw [if_pos rfl, hd.out] at this; rw [if_pos rfl, List.append_assoc]; exact this, by have := HI.out.2; simp at this ⊢; omega⟩)
        clear hw hd
        obtain ⟨s0, s1, s2, sl⟩ := HS.out
        go_wp2_with (first | (at_builtin; refine wpList_append_own _ rfl _ _ 65 rfl (w.heap.size + 1) 68 i0 (.agg #[.int .i64 0, .int .i64 0, .int .i64 0]) 3 24 Tryz.underlying65 hi iz0 iz1 iz2 rfl (by decide) _ _ _ rfl ((own_dr HO.out _).alloc _) ⟨_, 0, none⟩ 1 1 [.int .i64 x.f, .int .i64 x.t, .int .i64 x.o] rfl rfl (cell_new3 _ _ _ _ _ _ (by simp)) (by simp [Value.oneCell']) ?_ ?_ ?_ ?_) | (refine wp_region_quiet_lit (by kernel_rfl) (by kernel_rfl) ?_; (repeat (any_goals (first | go_big_quiet_step (fail) | quiet_step (fail) | (refine wpQuiet_step (fun K hK => ?_); go_simp; split <;> (refine hK _ ?_; clear hK K))))); all_goals (refine wpQuiet_nil ?_; intro _ hw'; obtain ⟨nq, hw''⟩ := hw'; subst hw'')))
        all_goals try (first | omega | (unfold maxLen; omega) | (simp; omega) | (simp; unfold maxLen; omega))
        intro v' w3 o3 hg3 _
        have n3 := own_below ((own_dr HO.out _).alloc _) hg3 (by simp; omega)
        have HB3 := Lib.hid ((below_alloc (below_drewN HB.out _) _).trans (n3.mono (Nat.le_succ _)))
        have HS3 := Lib.hid ((HS.out.keep (by (repeat (first | (with_reducible exact Below.refl _ _) | (with_reducible assumption) | (with_reducible refine below_alloc ?_ _) | (with_reducible refine below_drewN ?_ _) | (with_reducible refine Below.drew ?_) | (with_reducible refine below_then ?_ (by with_reducible assumption)) | (with_reducible refine Below.setCell ?_ (by go_size) _))))).keepN n3 (Nat.lt_succ_self _))
        have HO3 := Lib.hid (own_one o3)
        clear n3 o3 hg3 s0 s1 s2 sl c0 c1 c2
        go_wp2_with fail
        go_roundw
        case rel => exact ⟨k + 1, true, _, by omega, by go_num, rfl, HI2.out, HO3.out, HS3.out, HB3.out⟩
        case measure => (simp [intOf] <;> omega)
      | false =>
        obtain ⟨s0, s1, s2, sl⟩ := HS.out
        by_cases hlf : s.f < x.f
        · have HI2 := Lib.hid (show WInv s c (k + 1) true ((out ++ [s]) ++ [x]) from ⟨by have := HI.out.1; rw [if_neg (by decide), hw.out, if_pos hlf] at this; rw [if_pos rfl, List.append_assoc, List.append_assoc]; exact this, by have := HI.out.2; simp at this ⊢; omega⟩)
          clear hw hd
          go_wp2_with (first | (at_builtin; refine wpList_append_own _ rfl _ _ 65 rfl (w.heap.size + 1) 68 i0 (.agg #[.int .i64 0, .int .i64 0, .int .i64 0]) 3 24 Tryz.underlying65 hi iz0 iz1 iz2 rfl (by decide) _ _ _ rfl ((own_dr HO.out _).alloc _) ⟨_, 0, none⟩ 1 1 [.int .i64 s.f, .int .i64 s.t, .int .i64 s.o] rfl rfl (cell_new3 _ _ _ _ _ _ (by simp)) (by simp [Value.oneCell']) ?_ ?_ ?_ ?_) | (refine wp_region_quiet_lit (by kernel_rfl) (by kernel_rfl) ?_; (repeat (any_goals (first | go_big_quiet_step (fail) | quiet_step (fail) | (refine wpQuiet_step (fun K hK => ?_); go_simp; split <;> (refine hK _ ?_; clear hK K))))); all_goals (refine wpQuiet_nil ?_; intro _ hw'; obtain ⟨nq, hw''⟩ := hw'; subst hw'')))
          all_goals try (first | omega | (unfold maxLen; omega) | (simp; omega) | (simp; unfold maxLen; omega))
          intro v' w3 o3 hg3 _
          have n3 := own_below ((own_dr HO.out _).alloc _) hg3 (by simp; omega)
          have HB3 := Lib.hid ((below_alloc (below_drewN HB.out _) _).trans (n3.mono (Nat.le_succ _)))
          have HS3 := Lib.hid ((HS.out.keep (by (repeat (first | (with_reducible exact Below.refl _ _) | (with_reducible assumption) | (with_reducible refine below_alloc ?_ _) | (with_reducible refine below_drewN ?_ _) | (with_reducible refine Below.drew ?_) | (with_reducible refine below_then ?_ (by with_reducible assumption)) | (with_reducible refine Below.setCell ?_ (by go_size) _))))).keepN n3 (Nat.lt_succ_self _))
          have HO3 := Lib.hid (own_one o3)
          clear n3 o3 hg3 s0 s1 s2 sl c0 c1 c2
          obtain ⟨b', off', e, c0, c1, c2, _⟩ := hxs.out _ HB3.out
          cases e
          have hz3 := HB3.out.size
          go_wp2_with (first | (at_builtin; refine wpList_append_own _ rfl _ _ 65 rfl (w.heap.size + 1) 68 i0 (.agg #[.int .i64 0, .int .i64 0, .int .i64 0]) 3 24 Tryz.underlying65 hi iz0 iz1 iz2 rfl (by decide) _ _ _ rfl ((own_dr HO3.out _).alloc _) ⟨_, 0, none⟩ 1 1 [.int .i64 x.f, .int .i64 x.t, .int .i64 x.o] rfl rfl (cell_new3 _ _ _ _ _ _ (by simp)) (by simp [Value.oneCell']) ?_ ?_ ?_ ?_) | (at_builtin; refine wpList_append_own _ rfl _ _ 65 rfl (w.heap.size + 1) 68 i0 (.agg #[.int .i64 0, .int .i64 0, .int .i64 0]) 3 24 Tryz.underlying65 hi iz0 iz1 iz2 rfl (by decide) _ _ _ rfl (HO3.out.alloc _) ⟨_, 0, none⟩ 1 1 [.int .i64 x.f, .int .i64 x.t, .int .i64 x.o] rfl rfl (cell_new3 _ _ _ _ _ _ (by simp)) (by simp [Value.oneCell']) ?_ ?_ ?_ ?_) | (refine wp_region_quiet_lit (by kernel_rfl) (by kernel_rfl) ?_; (repeat (any_goals (first | go_big_quiet_step (fail) | quiet_step (fail) | (refine wpQuiet_step (fun K hK => ?_); go_simp; split <;> (refine hK _ ?_; clear hK K))))); all_goals (refine wpQuiet_nil ?_; intro _ hw'; obtain ⟨nq, hw''⟩ := hw'; subst hw'')))
          all_goals try (first | omega | (unfold maxLen; omega) | (simp; omega) | (simp; unfold maxLen; omega))
          intro v' w4 o4 hg4 _
          have n4 := own_below (HO3.out.alloc _) hg4 (by simp; omega)
          have HB4 := Lib.hid ((below_alloc HB3.out _).trans (n4.mono (Nat.le_succ _)))
          have HS4 := Lib.hid ((HS3.out.keep (by (repeat (first | (with_reducible exact Below.refl _ _) | (with_reducible assumption) | (with_reducible refine below_alloc ?_ _) | (with_reducible refine below_drewN ?_ _) | (with_reducible refine Below.drew ?_) | (with_reducible refine below_then ?_ (by with_reducible assumption)) | (with_reducible refine Below.setCell ?_ (by go_size) _))))).keepN n4 (Nat.lt_succ_self _))
          have HO4 := Lib.hid (own_one2 o4 (by simp))
          clear n4 o4 hg4 c0 c1 c2
          go_wp2_with fail
          go_roundw
          case rel => exact ⟨k + 1, true, _, by omega, by go_num, rfl, HI2.out, HO4.out, HS4.out, HB4.out⟩
          case measure => (simp [intOf] <;> omega)
        · have HI2 := Lib.hid (show WInv s c (k + 1) false (out ++ [x]) from ⟨by have := HI.out.1; rw [if_neg (by decide), hw.out, if_neg hlf] at this; rw [if_neg (by decide), List.append_assoc]; exact this, by have := HI.out.2; simp at this ⊢; omega⟩)
          have hd0 : decide (s.f < x.f) = false := decide_eq_false hlf
          clear hw hd
          go_wp2_with (first | (at_builtin; refine wpList_append_own _ rfl _ _ 65 rfl (w.heap.size + 1) 68 i0 (.agg #[.int .i64 0, .int .i64 0, .int .i64 0]) 3 24 Tryz.underlying65 hi iz0 iz1 iz2 rfl (by decide) _ _ _ rfl ((own_dr HO.out _).alloc _) ⟨_, 0, none⟩ 1 1 [.int .i64 x.f, .int .i64 x.t, .int .i64 x.o] rfl rfl (cell_new3 _ _ _ _ _ _ (by simp)) (by simp [Value.oneCell']) ?_ ?_ ?_ ?_) | (refine wp_region_quiet_lit (by kernel_rfl) (by kernel_rfl) ?_; (repeat (any_goals (first | go_big_quiet_step (fail) | quiet_step (fail) | (refine wpQuiet_step (fun K hK => ?_); go_simp; split <;> (refine hK _ ?_; clear hK K))))); all_goals (refine wpQuiet_nil ?_; intro _ hw'; obtain ⟨nq, hw''⟩ := hw'; subst hw'')))
          all_goals try (first | omega | (unfold maxLen; omega) | (simp; omega) | (simp; unfold maxLen; omega))
          intro v' w3 o3 hg3 _
          have n3 := own_below ((own_dr HO.out _).alloc _) hg3 (by simp; omega)
          have HB3 := Lib.hid ((below_alloc (below_drewN HB.out _) _).trans (n3.mono (Nat.le_succ _)))
          have HS3 := Lib.hid ((HS.out.keep (by (repeat (first | (with_reducible exact Below.refl _ _) | (with_reducible assumption) | (with_reducible refine below_alloc ?_ _) | (with_reducible refine below_drewN ?_ _) | (with_reducible refine Below.drew ?_) | (with_reducible refine below_then ?_ (by with_reducible assumption)) | (with_reducible refine Below.setCell ?_ (by go_size) _))))).keepN n3 (Nat.lt_succ_self _))
          have HO3 := Lib.hid (own_one o3)
          clear n3 o3 hg3 s0 s1 s2 sl c0 c1 c2
          go_wp2_with fail
          go_roundw
          case rel => exact ⟨k + 1, false, _, by omega, by go_num, rfl, HI2.out, HO3.out, HS3.out, HB3.out⟩
          case measure => (simp [intOf] <;> omega)
    · obtain rfl : k = c.length := by omega
      have hz0 := HB.out.size
      cases dn with
      | true =>
        have HF := Lib.hid (show out = withL s c by have := HI.out.1; rw [if_pos rfl, List.drop_length, List.append_nil] at this; exact this)
        rw [HF.out] at HO
        go_wp2_with fail
        go_returns
        exact ⟨_, rfl, own_mono HO.out (Nat.le_succ _), HB.out⟩
      | false =>
        have hol : out.length = c.length := by have := HI.out.2; simpa using this
        have HF := Lib.hid (show out ++ [s] = withL s c by have := HI.out.1; rw [if_neg (by decide), List.drop_length] at this; exact this)
        obtain ⟨s0, s1, s2, sl⟩ := HS.out
        go_wp2_with (at_builtin; refine wpList_append_own _ rfl _ _ 65 rfl (w.heap.size + 1) 68 i0 (.agg #[.int .i64 0, .int .i64 0, .int .i64 0]) 3 24 Tryz.underlying65 hi iz0 iz1 iz2 rfl (by decide) _ _ _ rfl (HO.out.alloc _) ⟨_, 0, none⟩ 1 1 [.int .i64 s.f, .int .i64 s.t, .int .i64 s.o] rfl rfl (cell_new3 _ _ _ _ _ _ (by simp)) (by simp [Value.oneCell']) ?_ ?_ ?_ ?_)
        all_goals try (first | omega | (unfold maxLen; omega) | (simp; omega) | (simp; unfold maxLen; omega))
        intro v' w3 o3 hg3 _
        have n3 := own_below (HO.out.alloc _) hg3 (by simp; omega)
        have HB3 := Lib.hid ((below_alloc HB.out _).trans (n3.mono (Nat.le_succ _)))
        have HO3 := Lib.hid (own_one2 o3 (by omega))
        rw [show out ++ [(⟨s.f, s.t, s.o⟩ : Sl)] = withL s c from HF.out] at HO3
        clear n3 o3 hg3 s0 s1 s2 sl
        go_wp2_with fail
        go_returns
        exact ⟨_, rfl, own_mono HO3.out (Nat.le_succ _), HB3.out⟩
end

section
open Go.RowKit Go.Shelf

theorem lessL_succ {c : List Sl} {k : Nat} (hk : k < c.length) (ow : Int) : lessL ow (c.take (k + 1)) = lessL ow (c.take k) ++ (if c[k].o ≠ ow then [c[k]] else []) := by
  unfold lessL
  rw [List.take_add_one, List.getElem?_eq_getElem hk, List.filter_append]
  congr 1
  simp only [Option.toList, List.filter_cons, List.filter_nil, decide_eq_true_eq]
theorem lessL_len (ow : Int) (c : List Sl) : (lessL ow c).length ≤ c.length := by unfold lessL; exact List.length_filter_le _ _
theorem endL_succ {c : List Sl} {k : Nat} (hk : k < c.length) (ow tm : Int) : endL ow tm (c.take (k + 1)) = endL ow tm (c.take k) ++ (endO ow tm c[k]).toList := by
  unfold endL
  rw [List.take_add_one, List.getElem?_eq_getElem hk, List.filterMap_append]
  congr 1
theorem endL_len (ow tm : Int) (c : List Sl) : (endL ow tm c).length ≤ c.length := by unfold endL; exact List.length_filterMap_le _ _
/-! ### Put, Take, Cut -/
end
end

section
open Go.RowKit Go.Shelf

set_option maxRecDepth 100000 in set_option maxHeartbeats 4000000 in
theorem run_equal_slot (x y : Sl) (w : World) : (Op.equalIn 10000 68 (.agg #[.int .i64 x.f, .int .i64 x.t, .int .i64 x.o]) (.agg #[.int .i64 y.f, .int .i64 y.t, .int .i64 y.o])).run Tryz.prog w = .ok (decide (x = y)) w := by
  have u3 := Tryz.underlying3
  have a3 := Tryz.isAgg3
  have z3 := Tryz.sizeOf3
  have a4 := Tryz.isAgg35
  have z4 := Tryz.sizeOf35
  have hS : Tryz.prog.underlying 68 = some (.struct (Tryz.prog.fieldsOf 68)) := by kernel_rfl
  have hp : Tryz.prog.stoodInHeld 68 = false := by kernel_rfl
  have hS2 : Tryz.prog.underlying 35 = some (.struct (Tryz.prog.fieldsOf 35)) := by kernel_rfl
  have hp2 : Tryz.prog.stoodInHeld 35 = false := by kernel_rfl
  have hin : ∀ (f t g u : Int) (w : World), (Op.equalIn 9999 35 (.agg #[.int .i64 f, .int .i64 t]) (.agg #[.int .i64 g, .int .i64 u])).run Tryz.prog w = .ok (decide (f = g ∧ t = u)) w := by
    intro f t g u w
    rw [show (9999 : Nat) = 9998 + 1 from rfl, run_equalIn_agg w 9998 35 _ _ hS2 hp2]
    simp only [Program.fieldsOf, Tryz.underlying35]
    go_simp
    by_cases h1 : f = g <;> by_cases h2 : t = u <;> simp [h1, h2]
  rw [show (10000 : Nat) = 9999 + 1 from rfl, run_equalIn_agg w 9999 68 _ _ hS hp]
  simp only [Program.fieldsOf, Tryz.underlying68]
  go_simp
  obtain ⟨f, t, o⟩ := x
  obtain ⟨g, u, p⟩ := y
  by_cases h1 : f = g <;> by_cases h2 : t = u <;> by_cases h3 : o = p <;> simp [h1, h2, h3]
theorem run_eql_slot (x y : Sl) (w : World) : (binOp .eql 68 (.agg #[.int .i64 x.f, .int .i64 x.t, .int .i64 x.o]) (.agg #[.int .i64 y.f, .int .i64 y.t, .int .i64 y.o])).run Tryz.prog w = .ok (.bool (decide (x = y))) w := by
  rw [run_eql_struct, run_equal_slot]; rfl
theorem run_neq_slot (x y : Sl) (w : World) : (binOp .neq 68 (.agg #[.int .i64 x.f, .int .i64 x.t, .int .i64 x.o]) (.agg #[.int .i64 y.f, .int .i64 y.t, .int .i64 y.o])).run Tryz.prog w = .ok (.bool (!decide (x = y))) w := by
  rw [run_neq_struct, run_equal_slot]; rfl
end

section
open Go.RowKit Go.Shelf

set_option maxRecDepth 100000 in set_option maxHeartbeats 4000000 in
theorem ref08_Same (ba bb : Option Addr) (ca cb : Nat) (a b : List Sl) (w : World) (ha : CIn w ba a) (hb : CIn w bb b) :
    Calls Tryz.prog 79 #[.slice ba a.length ca, .slice bb b.length cb] w (RB w (.bool (decide (a = b)))) := by
  have HA := Lib.hid ha
  have HB := Lib.hid hb
  have hla := ha.len
  have hlb := hb.len
  have hgd : Tryz.prog.eqGuardType Tryz.prog.depth 68 = false := by kernel_rfl
  clear ha hb
  by_cases hl : a.length = b.length
  · have HL := Lib.hid hl
    have HX := Lib.hid (fun h => List.ext_getElem (l₁ := a) (l₂ := b) hl h)
    have hll : (a.length == b.length) = true := by simpa using hl
    have hln : (a.length != b.length) = false := by simpa using hl
    clear hl
    go_enter Tryz.func79, Tryz.ntmps79
    go_wp2_with fail
    go_loopw [5] (fun i wr => ∃ k : Nat, k ≤ a.length ∧ i = .int .i64 k ∧ (∀ j (h1 : j < a.length) (h2 : j < b.length), j < k → a[j] = b[j]) ∧ Below w.heap.size w wr) (fun i _ => a.length - (intOf i).toNat)
    case atStart => exact ⟨0, Nat.zero_le _, rfl, fun j _ _ h => absurd h (by omega), Below.refl _ _⟩
    case round =>
      obtain ⟨k, hk, rfl, hall, hbel⟩ := hrel
      have HW := Lib.hid hbel
      have HF := Lib.hid hall
      clear hbel hall
      by_cases hlt : k < a.length
      · have hlt2 : k < b.length := by have := HL.out; omega
        obtain ⟨b1, o1, rfl, c0, c1, c2, hbl1⟩ := (HA.out.keep HW.out).at hlt
        obtain ⟨b2, o2, rfl, d0, d1, d2, hbl2⟩ := (HB.out.keep HW.out).at hlt2
        have hnx := Lib.hid (fun (h : a[k] = b[k]) (j : Nat) (h1 : j < a.length) (h2 : j < b.length) (hjk : j < k + 1) => show a[j] = b[j] by
          rcases Nat.lt_or_ge j k with h5 | h5
          · exact HF.out j h1 h2 h5
          · have : j = k := by omega
            subst this; exact h)
        have hno := Lib.hid (fun (h : a[k] ≠ b[k]) => show decide (a = b) = false by
          rw [decide_eq_false_iff_not]; intro e; subst e; exact h rfl)
        obtain ⟨x, hx⟩ : ∃ x, x = a[k] := ⟨_, rfl⟩
        obtain ⟨y, hy⟩ : ∃ y, y = b[k] := ⟨_, rfl⟩
        rw [← hx] at c0 c1 c2 hnx hno
        rw [← hy] at d0 d1 d2 hnx hno
        clear hx hy
        by_cases hr : x = y
        · have heq : ∀ w, (binOp .neq 68 (.agg #[.int .i64 x.f, .int .i64 x.t, .int .i64 x.o]) (.agg #[.int .i64 y.f, .int .i64 y.t, .int .i64 y.o])).run Tryz.prog w = .ok (.bool false) w := fun w => by rw [run_neq_slot, decide_eq_true hr]; rfl
          have hyes := Lib.hid (hnx.out hr)
          clear hnx hno hr
          go_wp2_with (refine wp_region_quiet_lit (by kernel_rfl) (by kernel_rfl) ?_; (repeat (any_goals (first | go_big_quiet_step (fail) | quiet_step (fail) | (refine wpQuiet_step (fun K hK => ?_); go_simp; split <;> (refine hK _ ?_; clear hK K))))); all_goals (refine wpQuiet_nil ?_; intro _ hw'; obtain ⟨nq, hw''⟩ := hw'; subst hw''))
          all_goals
            go_roundw
            case rel => exact ⟨k + 1, by omega, by go_num, hyes.out, by first | exact HW.out | exact below_drewN HW.out _⟩
            case measure => (simp [intOf] <;> omega)
        · have heq : ∀ w, (binOp .neq 68 (.agg #[.int .i64 x.f, .int .i64 x.t, .int .i64 x.o]) (.agg #[.int .i64 y.f, .int .i64 y.t, .int .i64 y.o])).run Tryz.prog w = .ok (.bool true) w := fun w => by rw [run_neq_slot, decide_eq_false hr]; rfl
          have hyes := Lib.hid (hno.out hr)
          clear hnx hno hr
          go_wp2_with (refine wp_region_quiet_lit (by kernel_rfl) (by kernel_rfl) ?_; (repeat (any_goals (first | go_big_quiet_step (fail) | quiet_step (fail) | (refine wpQuiet_step (fun K hK => ?_); go_simp; split <;> (refine hK _ ?_; clear hK K))))); all_goals (refine wpQuiet_nil ?_; intro _ hw'; obtain ⟨nq, hw''⟩ := hw'; subst hw''))
          all_goals
            go_returns
            exact ⟨by rw [hyes.out]; rfl, by first | exact HW.out | exact below_drewN HW.out _⟩
      · obtain rfl : k = a.length := by omega
        have hq := Lib.hid (show decide (a = b) = true by rw [decide_eq_true_iff]; exact HX.out (fun j h1 h2 => HF.out j h1 h2 h1))
        go_wp2_with fail
        go_returns
        exact ⟨by rw [hq.out]; rfl, HW.out⟩
  · have hq := Lib.hid (show decide (a = b) = false by rw [decide_eq_false_iff_not]; intro e; subst e; exact hl rfl)
    have hll : (a.length == b.length) = false := by simpa using hl
    have hln : (a.length != b.length) = true := by simpa using hl
    clear hl
    go_enter Tryz.func79, Tryz.ntmps79
    go_wp2_with fail
    go_returns
    exact ⟨by rw [hq.out]; rfl, by (repeat (first | (with_reducible exact Below.refl _ _) | (with_reducible assumption) | (with_reducible refine below_alloc ?_ _) | (with_reducible refine below_drewN ?_ _) | (with_reducible refine Below.drew ?_) | (with_reducible refine below_then ?_ (by with_reducible assumption)) | (with_reducible refine Below.setCell ?_ (by go_size) _)))⟩
end

section
open Go.RowKit Go.Shelf

/-- A calendar's slice, whole. -/
structure CS (W : World) (v : Value) (c : List Sl) : Prop where
  ex : ∃ base cap, v = .slice base c.length cap ∧ CIn W base c ∧ c.length ≤ cap ∧ (base = none → cap = 0)
theorem CS.keep {w W : World} {v : Value} {c : List Sl} (h : CS w v c) (hb : Below w.heap.size w W) : CS W v c := by
  obtain ⟨base, cap, e, h1, h2⟩ := h.ex
  exact ⟨base, cap, e, h1.keep hb, h2⟩
theorem cal_of_own {W : World} {B : Nat} {v : Value} {c : List Sl} (h : W.ownsRow B 68 3 v c.length (slc c)) (hl : c.length ≤ 1000000) : CS W v c := by
  have h' := h
  rcases h.2 with ⟨rfl, hz⟩ | ⟨g, cap, cur, rfl, _⟩
  · obtain ⟨base, cap, e, rd, hc⟩ := own_rd h'
    obtain rfl : c = [] := List.eq_nil_of_length_eq_zero hz
    cases e
    exact ⟨none, 0, rfl, ⟨rd, hl⟩, Nat.le_refl _, fun _ => rfl⟩
  · obtain ⟨base, cap', e, rd, hc⟩ := own_rd h'
    cases e
    exact ⟨_, cap, rfl, ⟨rd, hl⟩, hc, fun h => by cases h⟩
theorem CS.mk1 {W : World} {ba : Option Addr} {c : List Sl} {ca : Nat} (hr : CIn W ba c) (hca : c.length ≤ ca) (hna : ba = none → c.length = 0 ∧ ca = 0) : CS W (.slice ba c.length ca) c := ⟨ba, ca, rfl, hr, hca, fun h => (hna h).2⟩

/-! ### every function at a calendar's slice -/
section
variable {w : World} {v u : Value} {c d : List Sl} (h : CS w v c) (hd : CS w u d)
include h
theorem s_Put (s : Sl) : Calls Tryz.prog 80 #[v, .agg #[.int .i64 s.f, .int .i64 s.t, .int .i64 s.o]] w (RSE w (putV c s) (putE c s)) := by
  obtain ⟨base, cap, rfl, h1, h2, h3⟩ := h.ex
  exact cal_Put base cap c s w h1 (fun e => by have := h3 e; omega)
theorem s_Check : Calls Tryz.prog 72 #[v] w (RB w (.int .i64 (calE c))) := by
  obtain ⟨base, cap, rfl, h1, h2, h3⟩ := h.ex
  exact cal_Check base cap c w h1
theorem s_Free (f t : Int) : Calls Tryz.prog 54 #[v, .agg #[.int .i64 f, .int .i64 t]] w (RB w (.tuple #[.bool (freeV c f t), .int .i64 (freeE c f t)])) := by
  obtain ⟨base, cap, rfl, h1, h2, h3⟩ := h.ex
  exact cal_Free base cap c f t w h1
include hd
theorem s_Same : Calls Tryz.prog 79 #[v, u] w (RB w (.bool (decide (c = d)))) := by
  obtain ⟨base, cap, rfl, h1, h2, h3⟩ := h.ex
  obtain ⟨base', cap', rfl, h1', h2', h3'⟩ := hd.ex
  exact ref08_Same base base' cap cap' c d w h1 h1'
end
theorem putV_len (c : List Sl) (s : Sl) : (putV c s).length ≤ c.length + 1 := by
  unfold putV
  split
  · rw [putL_len]; exact Nat.le_refl _
  · exact Nat.zero_le _
theorem cutV_len (ow tm : Int) (c : List Sl) : (cutV ow tm c).length ≤ c.length := by
  unfold cutV
  split
  · exact cutL_len ow tm c
  · exact Nat.zero_le _

/-! ### spans of a length -/
def plusT (a b : Int) : Int := min (min (max a 0) 1099511627776 + min (max b 0) 1099511627776) 1099511627776
end
end Go.Proofs.YtofoenlhbmammaaGreat
