/- FAULT, the document: With, Without, Mark, Clear. -/
import Derived.Test.YtpooieghlceefaaRef17a
import Derived.Test.YtpooieghlceefaaFault3
namespace Go.Proofs.Ytpooieghlceefaa
open Go.RowKit Go.Shelf

theorem wl_drop {c : List Int} {k : Nat} (hk : k < c.length) (s : Int) : wl s (c.drop k) = if s < c[k] then s :: c[k] :: c.drop (k + 1) else c[k] :: wl s (c.drop (k + 1)) := by
  rw [List.drop_eq_getElem_cons hk]; rfl
theorem own_onei {w : World} {B n : Nat} {v : Value} {l : List Int} {x : Int} (h : w.ownsRow B 3 1 v n (ic l ++ [.int .i64 x])) (hn : n = l.length + 1) : w.ownsRow B 3 1 v (l ++ [x]).length (ic (l ++ [x])) := by
  subst hn
  rw [ic_app, List.length_append]; exact h
theorem own_dri {w : World} {B : Nat} {e : TypeId} {size n : Nat} {v : Value} {xs : List Value} (h : w.ownsRow B e size v n xs) (q : Nat) : (w.drewN q).ownsRow B e size v n xs := h
/-- What With has laid so far. -/
def WInvI (s : Int) (c : List Int) (k : Nat) (dn : Bool) (out : List Int) : Prop := out ++ (if dn then c.drop k else wl s (c.drop k)) = wl s c ∧ out.length = k + (if dn then 1 else 0)
set_option maxRecDepth 100000 in set_option maxHeartbeats 4000000 in
theorem ref17_With (ba : Option Addr) (ca : Nat) (c : List Int) (s : Int) (w : World) (hc : IIn w ba c) :
    Calls Try.prog 55 #[.slice ba c.length ca, .int .i64 s] w (RL w (wl s c)) := by
  obtain ⟨i0, hi, iz0, iz1, iz2⟩ := info_parts infoInt
  have HC := Lib.hid hc
  have hlc := hc.len
  clear hc
  go_enter Try.func55, Try.ntmps55
  go_wp2_with fail
  go_loopw [5, 6, 7] (fun v d i wr => ∃ (k : Nat) (dn : Bool) (out : List Int), k ≤ c.length ∧ i = .int .i64 k ∧ d = .bool dn ∧ WInvI s c k dn out ∧ wr.ownsRow w.heap.size 3 1 v out.length (ic out) ∧ Below w.heap.size w wr) (fun _ _ i _ => c.length - (intOf i).toNat)
  case atStart => exact ⟨0, false, [], Nat.zero_le _, rfl, rfl, ⟨rfl, rfl⟩, ⟨rfl, .inl ⟨rfl, rfl⟩⟩, Below.refl _ _⟩
  case round =>
    obtain ⟨k, dn, out, hk, rfl, rfl, hinv, hown, hbel⟩ := hrel
    have HI := Lib.hid hinv
    have HO := Lib.hid hown
    have HB := Lib.hid hbel
    clear hinv hown hbel
    have hol : out.length ≤ k + 1 := by have := HI.out.2; split at this <;> omega
    have hz0 := HB.out.size
    by_cases hlt : k < c.length
    · obtain ⟨b, off, rfl, c0, hbl⟩ := (HC.out.keep HB.out).at hlt
      have hw := Lib.hid (wl_drop hlt s)
      have hd := Lib.hid (List.drop_eq_getElem_cons hlt)
      have hxs := Lib.hid (fun W (h : Below w.heap.size w W) => (HC.out.keep h).at hlt)
      obtain ⟨x, hx⟩ : ∃ x, x = c[k] := ⟨_, rfl⟩
      rw [← hx] at c0 hw hd hxs
      clear hx
      cases dn with
      | true =>
        have HI2 := Lib.hid (show WInvI s c (k + 1) true (out ++ [x]) from ⟨by have := HI.out.1; rw [if_pos rfl, hd.out] at this; rw [if_pos rfl, List.append_assoc]; exact this, by have := HI.out.2; simp at this ⊢; omega⟩)
        clear hw hd
        go_wp2_with (first | (at_builtin; refine wpList_append_own _ rfl _ _ 32 rfl (w.heap.size) 3 i0 (.int .i64 0) 1 8 Try.underlying32 hi iz0 iz1 iz2 rfl (by decide) _ _ _ rfl (HO.out.alloc _) ⟨_, 0, none⟩ 1 1 [.int .i64 x] rfl rfl (cell_new1 _ _ _) (by simp [Value.oneCell']) ?_ ?_ ?_ ?_) | (at_builtin; refine wpList_append_own _ rfl _ _ 32 rfl (w.heap.size) 3 i0 (.int .i64 0) 1 8 Try.underlying32 hi iz0 iz1 iz2 rfl (by decide) _ _ _ rfl ((own_dri HO.out _).alloc _) ⟨_, 0, none⟩ 1 1 [.int .i64 x] rfl rfl (cell_new1 _ _ _) (by simp [Value.oneCell']) ?_ ?_ ?_ ?_) | (refine wp_region_quiet_lit (by kernel_rfl) (by kernel_rfl) ?_; (repeat (any_goals (first | go_big_quiet_step (fail) | quiet_step (fail) | (refine wpQuiet_step (fun K hK => ?_); go_simp; split <;> (refine hK _ ?_; clear hK K))))); all_goals (refine wpQuiet_nil ?_; intro _ hw'; obtain ⟨nq, hw''⟩ := hw'; subst hw'')))
        (all_goals try (first | omega | (unfold maxLen; omega) | (simp; omega) | (simp; unfold maxLen; omega)))
        intro v' w3 o3 hg3 _
        have n3 := own_below (HO.out.alloc _) hg3 (by simp; omega)
        have HB3 := Lib.hid ((below_alloc HB.out _).trans n3)
        have HO3 := Lib.hid (own_onei o3 rfl)
        clear n3 o3 hg3 c0
        go_wp2_with fail
        go_roundw
        case rel => exact ⟨k + 1, true, _, by omega, by go_num, rfl, HI2.out, HO3.out, HB3.out⟩
        case measure => (simp [intOf] <;> omega)
      | false =>
        by_cases hlf : s < x
        · have HI2 := Lib.hid (show WInvI s c (k + 1) true ((out ++ [s]) ++ [x]) from ⟨by have := HI.out.1; rw [if_neg (by decide), hw.out, if_pos hlf] at this; rw [if_pos rfl, List.append_assoc, List.append_assoc]; exact this, by have := HI.out.2; simp at this ⊢; omega⟩)
          have hd0 : decide (s < x) = true := decide_eq_true hlf
          clear hw hd
          go_wp2_with (first | (at_builtin; refine wpList_append_own _ rfl _ _ 32 rfl (w.heap.size) 3 i0 (.int .i64 0) 1 8 Try.underlying32 hi iz0 iz1 iz2 rfl (by decide) _ _ _ rfl (HO.out.alloc _) ⟨_, 0, none⟩ 1 1 [.int .i64 s] rfl rfl (cell_new1 _ _ _) (by simp [Value.oneCell']) ?_ ?_ ?_ ?_) | (at_builtin; refine wpList_append_own _ rfl _ _ 32 rfl (w.heap.size) 3 i0 (.int .i64 0) 1 8 Try.underlying32 hi iz0 iz1 iz2 rfl (by decide) _ _ _ rfl ((own_dri HO.out _).alloc _) ⟨_, 0, none⟩ 1 1 [.int .i64 s] rfl rfl (cell_new1 _ _ _) (by simp [Value.oneCell']) ?_ ?_ ?_ ?_) | (refine wp_region_quiet_lit (by kernel_rfl) (by kernel_rfl) ?_; (repeat (any_goals (first | go_big_quiet_step (fail) | quiet_step (fail) | (refine wpQuiet_step (fun K hK => ?_); go_simp; split <;> (refine hK _ ?_; clear hK K))))); all_goals (refine wpQuiet_nil ?_; intro _ hw'; obtain ⟨nq, hw''⟩ := hw'; subst hw'')))
          (all_goals try (first | omega | (unfold maxLen; omega) | (simp; omega) | (simp; unfold maxLen; omega)))
          intro v' w3 o3 hg3 _
          have n3 := own_below (HO.out.alloc _) hg3 (by simp; omega)
          have HB3 := Lib.hid ((below_alloc HB.out _).trans n3)
          have HO3 := Lib.hid (own_onei o3 rfl)
          clear n3 o3 hg3 c0
          obtain ⟨b', off', e, c0, _⟩ := hxs.out _ HB3.out
          cases e
          have hz3 := HB3.out.size
          go_wp2_with (first | (at_builtin; refine wpList_append_own _ rfl _ _ 32 rfl (w.heap.size) 3 i0 (.int .i64 0) 1 8 Try.underlying32 hi iz0 iz1 iz2 rfl (by decide) _ _ _ rfl (HO3.out.alloc _) ⟨_, 0, none⟩ 1 1 [.int .i64 x] rfl rfl (cell_new1 _ _ _) (by simp [Value.oneCell']) ?_ ?_ ?_ ?_) | (refine wp_region_quiet_lit (by kernel_rfl) (by kernel_rfl) ?_; (repeat (any_goals (first | go_big_quiet_step (fail) | quiet_step (fail) | (refine wpQuiet_step (fun K hK => ?_); go_simp; split <;> (refine hK _ ?_; clear hK K))))); all_goals (refine wpQuiet_nil ?_; intro _ hw'; obtain ⟨nq, hw''⟩ := hw'; subst hw'')))
          (all_goals try (first | omega | (unfold maxLen; omega) | (simp; omega) | (simp; unfold maxLen; omega)))
          intro v' w4 o4 hg4 _
          have n4 := own_below (HO3.out.alloc _) hg4 (by simp; omega)
          have HB4 := Lib.hid ((below_alloc HB3.out _).trans n4)
          have HO4 := Lib.hid (own_onei o4 (by simp))
          clear n4 o4 hg4 c0
          go_wp2_with fail
          go_roundw
          case rel => exact ⟨k + 1, true, _, by omega, by go_num, rfl, HI2.out, HO4.out, HB4.out⟩
          case measure => (simp [intOf] <;> omega)
        · have HI2 := Lib.hid (show WInvI s c (k + 1) false (out ++ [x]) from ⟨by have := HI.out.1; rw [if_neg (by decide), hw.out, if_neg hlf] at this; rw [if_neg (by decide), List.append_assoc]; exact this, by have := HI.out.2; simp at this ⊢; omega⟩)
          have hd0 : decide (s < x) = false := decide_eq_false hlf
          clear hw hd
          go_wp2_with (first | (at_builtin; refine wpList_append_own _ rfl _ _ 32 rfl (w.heap.size) 3 i0 (.int .i64 0) 1 8 Try.underlying32 hi iz0 iz1 iz2 rfl (by decide) _ _ _ rfl (HO.out.alloc _) ⟨_, 0, none⟩ 1 1 [.int .i64 x] rfl rfl (cell_new1 _ _ _) (by simp [Value.oneCell']) ?_ ?_ ?_ ?_) | (at_builtin; refine wpList_append_own _ rfl _ _ 32 rfl (w.heap.size) 3 i0 (.int .i64 0) 1 8 Try.underlying32 hi iz0 iz1 iz2 rfl (by decide) _ _ _ rfl ((own_dri HO.out _).alloc _) ⟨_, 0, none⟩ 1 1 [.int .i64 x] rfl rfl (cell_new1 _ _ _) (by simp [Value.oneCell']) ?_ ?_ ?_ ?_) | (refine wp_region_quiet_lit (by kernel_rfl) (by kernel_rfl) ?_; (repeat (any_goals (first | go_big_quiet_step (fail) | quiet_step (fail) | (refine wpQuiet_step (fun K hK => ?_); go_simp; split <;> (refine hK _ ?_; clear hK K))))); all_goals (refine wpQuiet_nil ?_; intro _ hw'; obtain ⟨nq, hw''⟩ := hw'; subst hw'')))
          (all_goals try (first | omega | (unfold maxLen; omega) | (simp; omega) | (simp; unfold maxLen; omega)))
          intro v' w3 o3 hg3 _
          have n3 := own_below (HO.out.alloc _) hg3 (by simp; omega)
          have HB3 := Lib.hid ((below_alloc HB.out _).trans n3)
          have HO3 := Lib.hid (own_onei o3 rfl)
          clear n3 o3 hg3 c0
          go_wp2_with fail
          go_roundw
          case rel => exact ⟨k + 1, false, _, by omega, by go_num, rfl, HI2.out, HO3.out, HB3.out⟩
          case measure => (simp [intOf] <;> omega)
    · obtain rfl : k = c.length := by omega
      cases dn with
      | true =>
        have HF := Lib.hid (show out = wl s c by have := HI.out.1; rw [if_pos rfl, List.drop_length, List.append_nil] at this; exact this)
        rw [HF.out] at HO
        go_wp2_with fail
        go_returns
        exact ⟨_, rfl, HO.out, HB.out⟩
      | false =>
        have hol2 : out.length = c.length := by have := HI.out.2; simpa using this
        have HF := Lib.hid (show out ++ [s] = wl s c by have := HI.out.1; rw [if_neg (by decide), List.drop_length] at this; exact this)
        have HLO := Lib.hid hol2
        clear hol2
        go_wp2_with (at_builtin; refine wpList_append_own _ rfl _ _ 32 rfl (w.heap.size) 3 i0 (.int .i64 0) 1 8 Try.underlying32 hi iz0 iz1 iz2 rfl (by decide) _ _ _ rfl (HO.out.alloc _) ⟨_, 0, none⟩ 1 1 [.int .i64 s] rfl rfl (cell_new1 _ _ _) (by simp [Value.oneCell']) ?_ ?_ ?_ ?_)
        (all_goals try (first | omega | (unfold maxLen; omega) | (simp; omega) | (simp; unfold maxLen; omega)))
        intro v' w3 o3 hg3 _
        have n3 := own_below (HO.out.alloc _) hg3 (by simp; omega)
        have HB3 := Lib.hid ((below_alloc HB.out _).trans n3)
        have HO3 := Lib.hid (own_onei o3 rfl)
        rw [HF.out] at HO3
        clear n3 o3 hg3
        go_wp2_with fail
        go_returns
        exact ⟨_, rfl, HO3.out, HB3.out⟩

def outL (a : Int) (c : List Int) : List Int := c.filter (fun x => decide (x ≠ a))
theorem outL_succ {c : List Int} {k : Nat} (hk : k < c.length) (a : Int) : outL a (c.take (k + 1)) = outL a (c.take k) ++ (if c[k] ≠ a then [c[k]] else []) := by
  unfold outL
  rw [List.take_add_one, List.getElem?_eq_getElem hk, List.filter_append]
  congr 1
  simp only [Option.toList, List.filter_cons, List.filter_nil, decide_eq_true_eq]
theorem outL_len (a : Int) (c : List Int) : (outL a c).length ≤ c.length := by unfold outL; exact List.length_filter_le _ _
set_option maxRecDepth 100000 in set_option maxHeartbeats 4000000 in
theorem ref17_Without (ba : Option Addr) (ca : Nat) (c : List Int) (a : Int) (w : World) (hc : IIn w ba c) :
    Calls Try.prog 56 #[.slice ba c.length ca, .int .i64 a] w (RL w (outL a c)) := by
  obtain ⟨i0, hi, iz0, iz1, iz2⟩ := info_parts infoInt
  have HC := Lib.hid hc
  have hlc := hc.len
  clear hc
  go_enter Try.func56, Try.ntmps56
  go_wp2_with fail
  go_loopw [5, 6] (fun v i wr => ∃ (k : Nat), k ≤ c.length ∧ i = .int .i64 k ∧ wr.ownsRow w.heap.size 3 1 v (outL a (c.take k)).length (ic (outL a (c.take k))) ∧ Below w.heap.size w wr) (fun _ i _ => c.length - (intOf i).toNat)
  case atStart => exact ⟨0, Nat.zero_le _, rfl, ⟨rfl, .inl ⟨rfl, rfl⟩⟩, Below.refl _ _⟩
  case round =>
    obtain ⟨k, hk, rfl, hown, hbel⟩ := hrel
    have HO := Lib.hid hown
    have HB := Lib.hid hbel
    clear hown hbel
    by_cases hlt : k < c.length
    · obtain ⟨b, off, rfl, c0, hbl⟩ := (HC.out.keep HB.out).at hlt
      have hs := Lib.hid (outL_succ hlt a)
      have hlen := outL_len a (c.take k)
      have hlk : (c.take k).length = k := by rw [List.length_take]; omega
      obtain ⟨x, hx⟩ : ∃ x, x = c[k] := ⟨_, rfl⟩
      rw [← hx] at c0 hs
      clear hx
      obtain ⟨old, hold⟩ : ∃ old, old = outL a (c.take k) := ⟨_, rfl⟩
      rw [← hold] at hs HO hlen
      clear hold
      have hlen2 : old.length ≤ k := by omega
      clear hlen hlk
      by_cases ho : x = a
      · have hs2 := Lib.hid (hs.out.trans (by rw [if_neg (by simpa using ho), List.append_nil] : _ = old))
        have hd0 : (x == a) = true := by simpa using ho
        have hd1 : (x != a) = false := by simp [ho]
        clear hs ho
        go_wp2_with fail
        go_roundw
        case rel => exact ⟨k + 1, by omega, by go_num, by rw [hs2.out]; exact HO.out, HB.out⟩
        case measure => (simp [intOf] <;> omega)
      · have hs2 := Lib.hid (hs.out.trans (by rw [if_pos ho] : _ = old ++ [x]))
        have hd0 : (x == a) = false := by simpa using ho
        have hd1 : (x != a) = true := by simp [ho]
        clear hs ho
        have hz0 := HB.out.size
        go_wp2_with (at_builtin; refine wpList_append_own _ rfl _ _ 32 rfl (w.heap.size) 3 i0 (.int .i64 0) 1 8 Try.underlying32 hi iz0 iz1 iz2 rfl (by decide) _ _ _ rfl (HO.out.alloc _) ⟨_, 0, none⟩ 1 1 [.int .i64 x] rfl rfl (cell_new1 _ _ _) (by simp [Value.oneCell']) ?_ ?_ ?_ ?_)
        (all_goals try (first | omega | (unfold maxLen; omega) | (simp; omega) | (simp; unfold maxLen; omega)))
        intro v' w3 o3 hg3 _
        have n3 := own_below (HO.out.alloc _) hg3 (by simp; omega)
        have HB3 := Lib.hid ((below_alloc HB.out _).trans n3)
        have HO3 := Lib.hid (own_onei o3 rfl)
        clear n3 o3 hg3
        go_wp2_with fail
        go_roundw
        case rel => exact ⟨k + 1, by omega, by go_num, by rw [hs2.out]; exact HO3.out, HB3.out⟩
        case measure => (simp [intOf] <;> omega)
    · obtain rfl : k = c.length := by omega
      rw [List.take_length] at HO
      go_wp2_with fail
      go_returns
      exact ⟨_, rfl, HO.out, HB.out⟩

set_option maxRecDepth 100000 in set_option maxHeartbeats 4000000 in
theorem ref17_Mark (n : Int) (ba : Option Addr) (ca : Nat) (l : List Int) (k : Int) (w : World) (hl : IIn w ba l) :
    Calls Try.prog 31 #[.int .i64 n, .slice ba l.length ca, .int .i64 k] w (RLE w (markV n l k) (markE n l k)) := by
  have H1 := Lib.hid (ref17_asked n ba ca l k w hl)
  have H2 := Lib.hid (fun W (h : Below w.heap.size w W) => ref17_At ba ca l k W (hl.keep h))
  have H3 := Lib.hid (fun W (h : Below w.heap.size w W) => ref17_With ba ca l k W (hl.keep h))
  clear hl
  rcases mark_cases n l k with ⟨c1, c2, c3, _⟩ | ⟨c1, c2, c3, c4, _⟩ | ⟨c1, c2, c3, c4, _⟩
  · rw [c2, c3]
    have g1 : (askM n l k == 0) = false := by simpa using c1
    have g2 : (askM n l k != 0) = true := by simpa using c1
    clear c1 c2 c3
    generalize askM n l k = E at *
    go_enter Try.func31, Try.ntmps31
    go_wp2_with fail
    (refine H1.out.mono ?_; rintro e w1 ⟨rfl, hb1⟩; go_wp2_with fail)
    go_returns
    exact rle_nil _ hb1
  · rw [c3, c4]
    rw [c1] at H1
    have hin := Lib.hid c2
    clear c1 c2 c3 c4
    go_enter Try.func31, Try.ntmps31
    go_wp2_with fail
    (refine H1.out.mono ?_; rintro e w1 ⟨rfl, hb1⟩; go_wp2_with fail)
    (refine (H2.out _ hb1).mono ?_; rintro e w2 ⟨⟨r, rfl, hr1, hr2⟩, hb2⟩; have hB2 := below_then hb1 hb2)
    have hr := hr1 hin.out
    clear hr1 hr2
    go_wp2_with fail
    go_returns
    exact rle_nil _ hB2
  · rw [c3, c4]
    rw [c1] at H1
    have hs := (mk_iff.1 (askM_0.1 c1).2).2
    have H3 := Lib.hid (fun W h => by have := H3.out W h; rw [wl_eq hs c2] at this; exact this)
    have hin := Lib.hid c2
    clear c1 c2 c3 c4 hs
    generalize insL l k = R at *
    go_enter Try.func31, Try.ntmps31
    go_wp2_with fail
    (refine H1.out.mono ?_; rintro e w1 ⟨rfl, hb1⟩; go_wp2_with fail)
    (refine (H2.out _ hb1).mono ?_; rintro e w2 ⟨⟨r, rfl, hr1, hr2⟩, hb2⟩; have hB2 := below_then hb1 hb2)
    obtain rfl := hr2 hin.out
    clear hr1 hr2
    go_wp2_with fail
    refine (H3.out _ hB2).mono ?_
    rintro e w3 ⟨v, rfl, ho, hb3⟩
    have HO := Lib.hid (own_mono ho hB2.size)
    clear ho
    go_wp2_with fail
    go_returns
    exact ⟨_, rfl, HO.out, below_then hB2 hb3⟩
set_option maxRecDepth 100000 in set_option maxHeartbeats 4000000 in
theorem ref17_Clear (n : Int) (ba : Option Addr) (ca : Nat) (l : List Int) (k : Int) (w : World) (hl : IIn w ba l) :
    Calls Try.prog 32 #[.int .i64 n, .slice ba l.length ca, .int .i64 k] w (RLE w (clearV n l k) (clearE n l k)) := by
  have H1 := Lib.hid (ref17_asked n ba ca l k w hl)
  have H2 := Lib.hid (fun W (h : Below w.heap.size w W) => ref17_At ba ca l k W (hl.keep h))
  have H3 := Lib.hid (fun W (h : Below w.heap.size w W) => ref17_Without ba ca l k W (hl.keep h))
  clear hl
  rcases mark_cases n l k with ⟨c1, _, _, c2, c3⟩ | ⟨c1, c2, _, _, c3, c4⟩ | ⟨c1, c2, _, _, c3, c4⟩
  · rw [c2, c3]
    have g1 : (askM n l k == 0) = false := by simpa using c1
    have g2 : (askM n l k != 0) = true := by simpa using c1
    clear c1 c2 c3
    generalize askM n l k = E at *
    go_enter Try.func32, Try.ntmps32
    go_wp2_with fail
    (refine H1.out.mono ?_; rintro e w1 ⟨rfl, hb1⟩; go_wp2_with fail)
    go_returns
    exact rle_nil _ hb1
  · rw [c3, c4]
    rw [c1] at H1
    have hs := (mk_iff.1 (askM_0.1 c1).2).2
    have H3 := Lib.hid (fun W h => by have := H3.out W h; rw [show outL k l = delL l k from (delL_eq hs c2).symm] at this; exact this)
    have hin := Lib.hid c2
    clear c1 c2 c3 c4 hs
    generalize delL l k = R at *
    go_enter Try.func32, Try.ntmps32
    go_wp2_with fail
    (refine H1.out.mono ?_; rintro e w1 ⟨rfl, hb1⟩; go_wp2_with fail)
    (refine (H2.out _ hb1).mono ?_; rintro e w2 ⟨⟨r, rfl, hr1, hr2⟩, hb2⟩; have hB2 := below_then hb1 hb2)
    have hr := hr1 hin.out
    clear hr1 hr2
    go_wp2_with fail
    refine (H3.out _ hB2).mono ?_
    rintro e w3 ⟨v, rfl, ho, hb3⟩
    have HO := Lib.hid (own_mono ho hB2.size)
    clear ho
    go_wp2_with fail
    go_returns
    exact ⟨_, rfl, HO.out, below_then hB2 hb3⟩
  · rw [c3, c4]
    rw [c1] at H1
    have hin := Lib.hid c2
    clear c1 c2 c3 c4
    go_enter Try.func32, Try.ntmps32
    go_wp2_with fail
    (refine H1.out.mono ?_; rintro e w1 ⟨rfl, hb1⟩; go_wp2_with fail)
    (refine (H2.out _ hb1).mono ?_; rintro e w2 ⟨⟨r, rfl, hr1, hr2⟩, hb2⟩; have hB2 := below_then hb1 hb2)
    obtain rfl := hr2 hin.out
    clear hr1 hr2
    go_wp2_with fail
    go_returns
    exact rle_nil _ hB2
end Go.Proofs.Ytpooieghlceefaa
