/- YARDS: calendars in new memory. -/
import Derived.Test.YtofoenlhbmammaaGreatQ2F11
import Derived.Test.YtofoenlhbmammaaGreatQ0RefPutF11
import Derived.Test.YtofoenlhbmammaaGreatQ11F11
import Derived.Test.YtofoenlhbmammaaGreatQ0YardIF11
set_option linter.unusedVariables false
set_option linter.unusedSimpArgs false
namespace Go.Proofs.YtofoenlhbmammaaGreat

section
section
open Go.RowKit Go.Shelf

theorem infoCal : (Tryz.prog.info? 65).map (fun i => (i.zero, i.size, i.bytes)) = some (some (.slice none 0 0), 1, 24) := by kernel_rfl
theorem own_other {w w' : World} {B B' : Nat} {e e' : TypeId} {s s' n n' : Nat} {u v : Value} {xs ys : List Value} (h : w.ownsRow B e s u n xs) (o : w.ownsRow B' e' s' v n' ys) (hne : e ≠ e') (hg : w.grownBy w' v.ownBlock) : w'.ownsRow B e s u n xs := by
  refine h.kept hg ?_
  rcases h.2 with ⟨rfl, _⟩ | ⟨g, cap, cur, rfl, hb, hgg, _⟩
  · exact .inl rfl
  · refine .inr fun hh => ?_
    rcases o.2 with ⟨rfl, _⟩ | ⟨g2, cap2, cur2, rfl, hb2, hgg2, _⟩
    · cases hh
    · simp only [Value.ownBlock, Option.some.injEq] at hh
      subst hh
      rw [hgg] at hgg2
      have := Option.some.inj hgg2
      simp only [Obj.cells.injEq] at this
      exact hne this.2.1
/-- A new list of new calendars. -/
structure LO (W : World) (B : Nat) (v : Value) (ns : List (List Sl)) : Prop where
  ex : ∃ vs : List Value, W.ownsRow B 65 1 v ns.length vs ∧ ∀ (i : Nat) (c : List Sl), ns[i]? = some c → ∃ u, vs[i]? = some u ∧ W.ownsRow B 68 3 u c.length (slc c)
theorem LO.nil (W : World) (B : Nat) : LO W B (.slice none 0 0) [] := ⟨[], World.ownsRow_nil _ _ _ _, fun i c h => by simp at h⟩
theorem LO.keep {w W : World} {B : Nat} {v : Value} {ns : List (List Sl)} (h : LO w B v ns) (hb : Below w.heap.size w W) : LO W B v ns := by
  obtain ⟨vs, h1, h2⟩ := h.ex
  exact ⟨vs, own_keep h1 hb, fun i c hc => by obtain ⟨u, h3, h4⟩ := h2 i c hc; exact ⟨u, h3, own_keep h4 hb⟩⟩
theorem LO.mono {w : World} {B B' : Nat} {v : Value} {ns : List (List Sl)} (h : LO w B v ns) (hb : B' ≤ B) : LO w B' v ns := by
  obtain ⟨vs, h1, h2⟩ := h.ex
  exact ⟨vs, own_mono h1 hb, fun i c hc => by obtain ⟨u, h3, h4⟩ := h2 i c hc; exact ⟨u, h3, own_mono h4 hb⟩⟩
theorem LO.cc {w : World} {B : Nat} {v : Value} {ns : List (List Sl)} (h : LO w B v ns) (h1 : ns.length ≤ 1000) (h2 : ∀ c ∈ ns, c.length ≤ 10000) : ∃ base cap, v = .slice base ns.length cap ∧ ns.length ≤ cap ∧ CC w base ns := by
  obtain ⟨vs, h3, h4⟩ := h.ex
  obtain ⟨base, cap, e, hr, hc⟩ := own_rd h3
  refine ⟨base, cap, e, hc, ⟨⟨vs, hr, fun i c hic => ?_⟩, h1, h2⟩⟩
  obtain ⟨u, h5, h6⟩ := h4 i c hic
  obtain ⟨b, cp, e2, h7, h8, h9⟩ := (cal_of_own h6 (by have := h2 c (List.mem_of_getElem? hic); omega)).ex
  exact ⟨b, cp, by rw [h5, e2], h7.rd, h8, h9⟩
/-- A new list of new calendars is handed back. -/
def RLL (w : World) (ns : List (List Sl)) : Ending → World → Prop := fun e w' => ∃ v, e = .returned v ∧ LO w' w.heap.size v ns ∧ Below w.heap.size w w'
/-- Calendars, those that a set has with a slot. -/
def putAt (a : List Nat) (s : Sl) (k : Nat) (c : List Sl) : List Sl := if there a k then withL s c else c
def putTo (a : List Nat) (s : Sl) (ns : List (List Sl)) : Nat → List (List Sl)
  | 0 => []
  | k + 1 => putTo a s ns k ++ [putAt a s k (ns[k]?.getD [])]
theorem putTo_len (a : List Nat) (s : Sl) (ns : List (List Sl)) : ∀ k, (putTo a s ns k).length = k
  | 0 => rfl
  | k + 1 => by rw [putTo, List.length_append, putTo_len a s ns k]; rfl
theorem there_none (k : Nat) : there [] k = false := by unfold there bitOf; simp
theorem putTo_none (s : Sl) (ns : List (List Sl)) : ∀ k, k ≤ ns.length → putTo [] s ns k = ns.take k
  | 0, _ => by simp [putTo]
  | k + 1, h => by
    have hc : ns[k]? = some ns[k] := List.getElem?_eq_getElem (by omega)
    rw [putTo, putTo_none s ns k (by omega), List.take_add_one, hc]
    unfold putAt
    rw [there_none]
    rfl
theorem LO.snoc {w w' : World} {B n : Nat} {v v' u : Value} {ns : List (List Sl)} {c : List Sl} {vs : List Value} (h1 : w.ownsRow B 65 1 v ns.length vs)
    (h2 : ∀ (i : Nat) (c : List Sl), ns[i]? = some c → ∃ u, vs[i]? = some u ∧ w.ownsRow B 68 3 u c.length (slc c)) (hu : w.ownsRow B 68 3 u c.length (slc c))
    (h3 : w'.ownsRow B 65 1 v' n (vs ++ [u])) (hn : n = ns.length + 1) (hg : w.grownBy w' v.ownBlock) : LO w' B v' (ns ++ [c]) := by
  subst hn
  have hl : vs.length = ns.length := by have := h1.1; omega
  refine ⟨vs ++ [u], by rw [List.length_append]; exact h3, fun i x hx => ?_⟩
  rcases Nat.lt_or_ge i ns.length with hi | hi
  · rw [List.getElem?_append_left hi] at hx
    obtain ⟨y, h4, h5⟩ := h2 i x hx
    exact ⟨y, by rw [List.getElem?_append_left (by omega)]; exact h4, own_other h5 h1 (by decide) hg⟩
  · rw [List.getElem?_append_right hi] at hx
    have hi2 : i - ns.length = 0 := by
      have := (List.getElem?_eq_some_iff.1 hx).1
      simp at this
      omega
    rw [hi2] at hx
    simp at hx
    subst hx
    exact ⟨u, by rw [List.getElem?_append_right (by omega), show i - vs.length = 0 by omega]; rfl, own_other hu h1 (by decide) hg⟩
set_option maxRecDepth 100000 in set_option maxHeartbeats 4000000 in
theorem ref09_puts (bn : Option Addr) (cn : Nat) (ns : List (List Sl)) (ba : Option Addr) (ca : Nat) (a : List Nat) (s : Sl) (w : World) (hn : CC w bn ns) (ha : SetIn w ba a) (hs : ∀ (i : Nat) (c : List Sl), ns[i]? = some c → there a i = true → c.length ≤ 5000) :
    Calls Tryz.prog 24 #[.slice bn ns.length cn, .slice ba a.length ca, .agg #[.int .i64 s.f, .int .i64 s.t, .int .i64 s.o]] w (RLL w (putTo a s ns ns.length)) := by
  obtain ⟨i0, hi, iz0, iz1, iz2⟩ := info_parts infoSlot
  obtain ⟨j0, hj, jz0, jz1, jz2⟩ := info_parts infoCal
  have HN := Lib.hid hn
  have HA := Lib.hid ha
  have HS5 := Lib.hid hs
  have h9 := hn.many
  have HS0 := Lib.hid (SlAt.new w 68 s)
  have HL := Lib.hid (fun k => putTo_len a s ns k)
  clear hn ha hs
  go_enter Tryz.func24, Tryz.ntmps24
  go_wp2_with fail
  go_loopw [7, 8] (fun v i wr => ∃ k : Nat, k ≤ ns.length ∧ i = .int .i64 k ∧ LO wr (w.heap.size + 1) v (putTo a s ns k) ∧ SlAt wr w.heap.size s ∧ Below w.heap.size w wr) (fun _ i _ => ns.length - (intOf i).toNat)
  case atStart => exact ⟨0, Nat.zero_le _, rfl, LO.nil _ _, HS0.out, by (repeat (first | (with_reducible exact Below.refl _ _) | (with_reducible assumption) | (with_reducible refine below_alloc ?_ _) | (with_reducible refine below_drewN ?_ _) | (with_reducible refine Below.drew ?_) | (with_reducible refine below_then ?_ (by with_reducible assumption)) | (with_reducible refine Below.setCell ?_ (by go_size) _)))⟩
  case round =>
    clear HS0
    obtain ⟨k, hk, rfl, hown, hsl, hbel⟩ := hrel
    have HO := Lib.hid hown
    have HB := Lib.hid hbel
    have HSl := Lib.hid hsl
    have hsz := hbel.size
    have hlt0 := hsl.lt
    have hul := HL.out k
    clear hown hbel hsl
    by_cases hlt : k < ns.length
    · obtain ⟨c, hc⟩ : ∃ c, ns[k]? = some c := ⟨_, List.getElem?_eq_getElem hlt⟩
      have hcl := HN.out.small c (List.mem_of_getElem? hc)
      have HP := Lib.hid (show putTo a s ns (k + 1) = putTo a s ns k ++ [putAt a s k c] by rw [putTo, hc]; rfl)
      have H5 := Lib.hid (HS5.out k c hc)
      obtain ⟨g, o, b, cap, e, hcell, hgl, hcs, hle, hnn⟩ := (HN.out.keep HB.out).at hc
      subst e
      have HC := Lib.hid hcs
      have HNN := Lib.hid (show b = none → c.length = 0 ∧ cap = 0 from fun e => by have := hnn e; omega)
      clear hc hcs hnn hle
      go_wp2_with (at_builtin; refine wpList_copyE _ rfl _ _ 65 rfl 68 i0 (.agg #[.int .i64 0, .int .i64 0, .int .i64 0]) 3 24 Tryz.underlying65 hi iz0 iz1 iz2 rfl (by decide) (by decide) wr.heap.size (Nat.le_refl _) _ rfl (World.ownsRow_nil _ _ _ _) b c.length cap (slc c) rfl (slc_len c) HNN.out HC.out.rd (slc_one c) (by omega) ?_)
      intro u w1 o1 hb1
      have HU := Lib.hid (own_mono o1 (show w.heap.size + 1 ≤ wr.heap.size by omega))
      obtain ⟨ub, uc, rfl, hu, _⟩ := (cal_of_own o1 (by omega)).ex
      have HUC := Lib.hid hu
      have HO := Lib.hid (HO.out.keep hb1)
      have HB := Lib.hid (below_then HB.out hb1)
      have HSl := Lib.hid (HSl.out.keep hb1)
      have hsz := HB.out.size
      have hlt0 := HSl.out.lt
      have HTh := Lib.hid (ref03_There ba ca a k w1 (HA.out.keep HB.out) (by omega))
      clear o1 hu hb1 HC HNN hcell hgl
      cases hth : there a k with
      | false =>
        rw [hth] at HTh
        have HP := Lib.hid (HP.out.trans (by unfold putAt; rw [hth]; rfl) : putTo a s ns (k + 1) = putTo a s ns k ++ [c])
        clear hth
        obtain ⟨vs, hv1, hv2⟩ := HO.out.ex
        go_upto_region 8 with ((with_reducible refine HTh.out.mono ?_); rintro e w2 ⟨rfl, hw2⟩; have hw2 := hw2.symm; subst hw2)
        go_wp2_with (at_builtin; refine wpList_append_own _ rfl _ _ 24 rfl (w.heap.size + 1) 65 j0 (.slice none 0 0) 1 24 Tryz.underlying24 hj jz0 jz1 jz2 rfl (by decide) _ _ _ rfl ((hv1).alloc _) ⟨_, 0, none⟩ 1 1 [.slice ub c.length uc] rfl rfl (cell_new1 _ _ _) (by simp [Value.oneCell']) ?_ ?_ ?_ ?_)
        all_goals try (first | omega | (unfold maxLen; omega) | (simp; omega) | (simp; unfold maxLen; omega))
        intro v' w3 o3 hg3 _
        have n3 := own_below (hv1.alloc _) hg3 (by simp; omega)
        have m3 := ((Below.refl w1.heap.size w1).alloc (Nat.le_refl _) _).mono (show w.heap.size + 1 ≤ w1.heap.size by omega) |>.trans n3
        have HO := Lib.hid (LO.snoc (hv1.alloc _) (fun i x hx => by obtain ⟨u, h4, h5⟩ := hv2 i x hx; exact ⟨u, h4, h5.alloc _⟩) (HU.out.alloc _) o3 (by omega) hg3)
        rw [← HP.out] at HO
        have HB := Lib.hid (HB.out.trans (m3.mono (Nat.le_succ _)))
        have HSl := Lib.hid (HSl.out.keepN m3 (Nat.lt_succ_self _))
        clear m3 n3 o3 hg3 hv1 hv2
        go_wp2_with fail
        go_roundw
        case rel => exact ⟨k + 1, by omega, by go_num, HO.out, HSl.out, HB.out⟩
        case measure => (simp [intOf] <;> omega)
      | true =>
        rw [hth] at HTh
        have HP := Lib.hid (HP.out.trans (by unfold putAt; rw [hth]; rfl) : putTo a s ns (k + 1) = putTo a s ns k ++ [withL s c])
        have h5 := H5.out hth
        have HWi := Lib.hid (ref08_With ub uc c s w1 HUC.out h5)
        clear hth
        obtain ⟨s0, s1, s2, _⟩ := HSl.out
        go_upto_region 8 with (first | ((with_reducible refine HTh.out.mono ?_); rintro e w2 ⟨rfl, hw2⟩; have hw2 := hw2.symm; subst hw2) | ((with_reducible refine HWi.out.mono ?_); rintro e w2 ⟨u2, rfl, ho2, hb2⟩))
        have HU := Lib.hid (own_mono ho2 (show w.heap.size + 1 ≤ w1.heap.size by omega))
        obtain ⟨ub2, uc2, rfl, _⟩ := own_rd ho2
        have HO := Lib.hid (HO.out.keep hb2)
        have HB := Lib.hid (below_then HB.out hb2)
        have HSl := Lib.hid (HSl.out.keep hb2)
        have hsz := HB.out.size
        have hlt0 := HSl.out.lt
        have hz2 := hb2.size
        clear ho2 hb2 s0 s1 s2
        obtain ⟨vs, hv1, hv2⟩ := HO.out.ex
        go_wp2_with (at_builtin; refine wpList_append_own _ rfl _ _ 24 rfl (w.heap.size + 1) 65 j0 (.slice none 0 0) 1 24 Tryz.underlying24 hj jz0 jz1 jz2 rfl (by decide) _ _ _ rfl ((hv1).alloc _) ⟨_, 0, none⟩ 1 1 [.slice ub2 (withL s c).length uc2] rfl rfl (cell_new1 _ _ _) (by simp [Value.oneCell']) ?_ ?_ ?_ ?_)
        all_goals try (first | omega | (unfold maxLen; omega) | (simp; omega) | (simp; unfold maxLen; omega))
        intro v' w3 o3 hg3 _
        have n3 := own_below (hv1.alloc _) hg3 (by simp; omega)
        have m3 := ((Below.refl w2.heap.size w2).alloc (Nat.le_refl _) _).mono (show w.heap.size + 1 ≤ w2.heap.size by omega) |>.trans n3
        have HO := Lib.hid (LO.snoc (hv1.alloc _) (fun i x hx => by obtain ⟨u, h4, h5⟩ := hv2 i x hx; exact ⟨u, h4, h5.alloc _⟩) (HU.out.alloc _) o3 (by omega) hg3)
        rw [← HP.out] at HO
        have HB := Lib.hid (HB.out.trans (m3.mono (Nat.le_succ _)))
        have HSl := Lib.hid (HSl.out.keepN m3 (Nat.lt_succ_self _))
        clear m3 n3 o3 hg3 hv1 hv2
        go_wp2_with fail
        go_roundw
        case rel => exact ⟨k + 1, by omega, by go_num, HO.out, HSl.out, HB.out⟩
        case measure => (simp [intOf] <;> omega)
    · obtain rfl : k = ns.length := by omega
      go_wp2_with fail
      go_returns
      exact ⟨_, rfl, HO.out.mono (Nat.le_succ _), HB.out⟩
end

section
open Go.RowKit Go.Shelf

/-- New calendars of a machine are handed back. -/
def RY (w : World) (y : Yd) : Ending → World → Prop := fun e w' => ∃ u v, e = .returned (.agg #[.int .i64 y.d.x, .int .i64 y.d.y, .int .i64 y.d.z, u, v]) ∧ LO w' w.heap.size u y.ns ∧ LO w' w.heap.size v y.ls ∧ Below w.heap.size w w'
theorem LO.slice {W : World} {B : Nat} {v : Value} {ns : List (List Sl)} (h : LO W B v ns) : ∃ base cap, v = .slice base ns.length cap := by
  obtain ⟨vs, h1, _⟩ := h.ex
  obtain ⟨base, cap, e, _⟩ := own_rd h1
  exact ⟨base, cap, e⟩
theorem own_set {W : World} {B n : Nat} {e : TypeId} {s : Nat} {u : Value} {xs : List Value} (h : W.ownsRow B e s u n xs) (b k : Nat) (x : Value) (hb : b < B) : (W.setCell ⟨b, k, none⟩ x).ownsRow B e s u n xs := by
  refine ⟨h.1, ?_⟩
  rcases h.2 with hn | ⟨g, cap, cur, rfl, hbg, hg, rest⟩
  · exact .inl hn
  · exact .inr ⟨g, cap, cur, rfl, hbg, (Below.heap_setCell W ⟨b, k, none⟩ x g (by simp; omega)).trans hg, rest⟩
theorem LO.set {W : World} {B : Nat} {v : Value} {ns : List (List Sl)} (h : LO W B v ns) (b k : Nat) (x : Value) (hb : b < B) : LO (W.setCell ⟨b, k, none⟩ x) B v ns := by
  obtain ⟨vs, h1, h2⟩ := h.ex
  exact ⟨vs, own_set h1 b k x hb, fun i c hc => by obtain ⟨u, h3, h4⟩ := h2 i c hc; exact ⟨u, h3, own_set h4 b k x hb⟩⟩
theorem LO.five {W : World} {B B' : Nat} {v x0 x1 x2 x3 x4 : Value} {ns : List (List Sl)} {b : Nat} (h : LO W B v ns) (hb : b < B) (hB : B' ≤ B) :
    LO (((((W.setCell ⟨b, 0, none⟩ x0).setCell ⟨b, 1, none⟩ x1).setCell ⟨b, 2, none⟩ x2).setCell ⟨b, 3, none⟩ x3).setCell ⟨b, 4, none⟩ x4) B' v ns :=
  (((((h.set b 0 x0 hb).set b 1 x1 hb).set b 2 x2 hb).set b 3 x3 hb).set b 4 x4 hb).mono hB
set_option maxRecDepth 100000 in set_option maxHeartbeats 4000000 in
theorem ref09_Twin (d : V3) (bn bl : Option Addr) (cn cl : Nat) (ns ls : List (List Sl)) (w : World) (hn : CC w bn ns) (hl : CC w bl ls) :
    Calls Tryz.prog 9 #[.agg #[.int .i64 d.x, .int .i64 d.y, .int .i64 d.z, (.slice bn ns.length cn), (.slice bl ls.length cl)]] w (RY w ⟨d, ns, ls⟩) := by
  obtain ⟨W0, hW0⟩ : ∃ W0, W0 = (w.alloc (.cells #[.int .i64 d.x, .int .i64 d.y, .int .i64 d.z, (.slice bn ns.length cn), (.slice bl ls.length cl)] 26)).alloc (.cells #[.int .i64 0, .int .i64 0, .int .i64 0, .slice none 0 0, .slice none 0 0] 26) := ⟨_, rfl⟩
  have hb0 : Below w.heap.size w W0 := by rw [hW0]; (repeat (first | (with_reducible exact Below.refl _ _) | (with_reducible assumption) | (with_reducible refine below_alloc ?_ _) | (with_reducible refine below_drewN ?_ _) | (with_reducible refine Below.drew ?_) | (with_reducible refine below_then ?_ (by with_reducible assumption)) | (with_reducible refine Below.setCell ?_ (by go_size) _)))
  have YB := Lib.hid (show Blk W0 w.heap.size 26 #[.int .i64 d.x, .int .i64 d.y, .int .i64 d.z, (.slice bn ns.length cn), (.slice bl ls.length cl)] by rw [hW0]; exact (Blk.new ..).alloc _)
  have RB0 := Lib.hid (show Blk W0 (w.heap.size + 1) 26 #[.int .i64 0, .int .i64 0, .int .i64 0, .slice none 0 0, .slice none 0 0] by rw [hW0, show w.heap.size + 1 = (w.alloc (.cells #[.int .i64 d.x, .int .i64 d.y, .int .i64 d.z, (.slice bn ns.length cn), (.slice bl ls.length cl)] 26)).heap.size by simp]; exact Blk.new ..)
  have M1 := Lib.hid (fun W (h : Below W0.heap.size W0 W) => by have := ref09_puts bn cn ns none 0 [] ⟨0, 0, 0⟩ W (hn.keep (below_then hb0 h)) ⟨Rd.nil _ _, by simp, fun x hx => by cases hx⟩ (fun i c _ ht => by rw [there_none] at ht; cases ht); rw [putTo_none _ _ _ (Nat.le_refl _), List.take_length, List.length_nil] at this; exact this)
  have M2 := Lib.hid (fun W (h : Below W0.heap.size W0 W) => by have := ref09_puts bl cl ls none 0 [] ⟨0, 0, 0⟩ W (hl.keep (below_then hb0 h)) ⟨Rd.nil _ _, by simp, fun x hx => by cases hx⟩ (fun i c _ ht => by rw [there_none] at ht; cases ht); rw [putTo_none _ _ _ (Nat.le_refl _), List.take_length, List.length_nil] at this; exact this)
  have HB := Lib.hid hb0
  have HW := Lib.hid hW0
  have hz0 := hb0.size
  have hz1 : w.heap.size + 1 < W0.heap.size := RB0.out.lt
  clear hn hl hb0 hW0
  go_enter Tryz.func9, Tryz.ntmps9
  go_wp2_with fail
  rw [← HW.out]
  (have p0 := (YB.out.below (Below.refl _ _)).cell 0 _ rfl; have p1 := (YB.out.below (Below.refl _ _)).cell 1 _ rfl; have p2 := (YB.out.below (Below.refl _ _)).cell 2 _ rfl; have p3 := (YB.out.below (Below.refl _ _)).cell 3 _ rfl; have p4 := (YB.out.below (Below.refl _ _)).cell 4 _ rfl; have q0 := (RB0.out.below (Below.refl _ _)).cell 0 _ rfl; have q1 := (RB0.out.below (Below.refl _ _)).cell 1 _ rfl; have q2 := (RB0.out.below (Below.refl _ _)).cell 2 _ rfl; have q3 := (RB0.out.below (Below.refl _ _)).cell 3 _ rfl; have q4 := (RB0.out.below (Below.refl _ _)).cell 4 _ rfl; have f0 := (RB0.out.below (Below.refl _ _)).frozen 0; have f1 := (RB0.out.below (Below.refl _ _)).frozen 1; have f2 := (RB0.out.below (Below.refl _ _)).frozen 2; have f3 := (RB0.out.below (Below.refl _ _)).frozen 3; have f4 := (RB0.out.below (Below.refl _ _)).frozen 4; simp at p0 p1 p2 p3 p4 q0 q1 q2 q3 q4)
  have mixed : Tryz.prog.follows .mixedOrders = true := by kernel_rfl
  go_region_held3 (fun W => (W.cell? ⟨w.heap.size, 0, none⟩ = some (.int .i64 d.x) ∧ W.cell? ⟨w.heap.size, 1, none⟩ = some (.int .i64 d.y) ∧ W.cell? ⟨w.heap.size, 2, none⟩ = some (.int .i64 d.z) ∧ W.cell? ⟨w.heap.size, 3, none⟩ = some (.slice bn ns.length cn) ∧ W.cell? ⟨w.heap.size, 4, none⟩ = some (.slice bl ls.length cl))) (go_keep)
    (first
      | ((with_reducible refine (M1.out _ (by (repeat (first | (with_reducible exact Below.refl _ _) | (with_reducible assumption) | (with_reducible refine below_alloc ?_ _) | (with_reducible refine below_drewN ?_ _) | (with_reducible refine Below.drew ?_) | (with_reducible refine below_then ?_ (by with_reducible assumption)) | (with_reducible refine Below.setCell ?_ (by go_size) _))))).mono ?_); rintro e wa ⟨va, rfl, hoa, hba⟩; obtain ⟨xa, ya, rfl⟩ := hoa.slice; have hza := hba.size; (try simp at hza); have HBa := below_then (show Below W0.heap.size W0 _ by (repeat (first | (with_reducible exact Below.refl _ _) | (with_reducible assumption) | (with_reducible refine below_alloc ?_ _) | (with_reducible refine below_drewN ?_ _) | (with_reducible refine Below.drew ?_) | (with_reducible refine below_then ?_ (by with_reducible assumption)) | (with_reducible refine Below.setCell ?_ (by go_size) _)))) hba; (have p0 := (YB.out.below (HBa)).cell 0 _ rfl; have p1 := (YB.out.below (HBa)).cell 1 _ rfl; have p2 := (YB.out.below (HBa)).cell 2 _ rfl; have p3 := (YB.out.below (HBa)).cell 3 _ rfl; have p4 := (YB.out.below (HBa)).cell 4 _ rfl; have q0 := (RB0.out.below (HBa)).cell 0 _ rfl; have q1 := (RB0.out.below (HBa)).cell 1 _ rfl; have q2 := (RB0.out.below (HBa)).cell 2 _ rfl; have q3 := (RB0.out.below (HBa)).cell 3 _ rfl; have q4 := (RB0.out.below (HBa)).cell 4 _ rfl; have f0 := (RB0.out.below (HBa)).frozen 0; have f1 := (RB0.out.below (HBa)).frozen 1; have f2 := (RB0.out.below (HBa)).frozen 2; have f3 := (RB0.out.below (HBa)).frozen 3; have f4 := (RB0.out.below (HBa)).frozen 4; simp at p0 p1 p2 p3 p4 q0 q1 q2 q3 q4))
      | ((with_reducible refine (M2.out _ (by (repeat (first | (with_reducible exact Below.refl _ _) | (with_reducible assumption) | (with_reducible refine below_alloc ?_ _) | (with_reducible refine below_drewN ?_ _) | (with_reducible refine Below.drew ?_) | (with_reducible refine below_then ?_ (by with_reducible assumption)) | (with_reducible refine Below.setCell ?_ (by go_size) _))))).mono ?_); rintro e wb ⟨vb, rfl, hob, hbb⟩; obtain ⟨xb, yb, rfl⟩ := hob.slice; have hzb := hbb.size; (try simp at hzb); have HBb := below_then (show Below W0.heap.size W0 _ by (repeat (first | (with_reducible exact Below.refl _ _) | (with_reducible assumption) | (with_reducible refine below_alloc ?_ _) | (with_reducible refine below_drewN ?_ _) | (with_reducible refine Below.drew ?_) | (with_reducible refine below_then ?_ (by with_reducible assumption)) | (with_reducible refine Below.setCell ?_ (by go_size) _)))) hbb; (have p0 := (YB.out.below (HBb)).cell 0 _ rfl; have p1 := (YB.out.below (HBb)).cell 1 _ rfl; have p2 := (YB.out.below (HBb)).cell 2 _ rfl; have p3 := (YB.out.below (HBb)).cell 3 _ rfl; have p4 := (YB.out.below (HBb)).cell 4 _ rfl; have q0 := (RB0.out.below (HBb)).cell 0 _ rfl; have q1 := (RB0.out.below (HBb)).cell 1 _ rfl; have q2 := (RB0.out.below (HBb)).cell 2 _ rfl; have q3 := (RB0.out.below (HBb)).cell 3 _ rfl; have q4 := (RB0.out.below (HBb)).cell 4 _ rfl; have f0 := (RB0.out.below (HBb)).frozen 0; have f1 := (RB0.out.below (HBb)).frozen 1; have f2 := (RB0.out.below (HBb)).frozen 2; have f3 := (RB0.out.below (HBb)).frozen 3; have f4 := (RB0.out.below (HBb)).frozen 4; simp at p0 p1 p2 p3 p4 q0 q1 q2 q3 q4)))
  · have R0 := (RB0.out.below HBb).set 0 (.int .i64 d.x)
    have R1 := R0.set 1 (.int .i64 d.y)
    have R2 := R1.set 2 (.int .i64 d.z)
    have R3 := R2.set 3 (.slice xa ns.length ya)
    have R4 := R3.set 4 (.slice xb ls.length yb)
    have r0 := R0.cell 0 (.int .i64 d.x) rfl
    have r1 := R1.cell 1 (.int .i64 d.y) rfl
    have r2 := R2.cell 2 (.int .i64 d.z) rfl
    have r3 := R3.cell 3 (.slice xa ns.length ya) rfl
    have r4 := R4.cell 4 (.slice xb ls.length yb) rfl
    clear R0 R1 R2 R3 R4
    go_wp2_with fail
    refine bodyPost_ret (by simp [results, Tryz.results9, go_sem, r0, r1, r2, r3, r4]; try rfl) rfl ?_
    exact ⟨_, _, rfl, LO.five (hoa.keep hbb) (by first | exact hz1 | omega) (by first | exact HB.out.size | omega), LO.five hob (by first | exact hz1 | omega) (by first | exact HB.out.size | omega), by have hbF := below_then HB.out HBb; (repeat (first | (with_reducible exact Below.refl _ _) | (with_reducible assumption) | (with_reducible refine below_alloc ?_ _) | (with_reducible refine below_drewN ?_ _) | (with_reducible refine Below.drew ?_) | (with_reducible refine below_then ?_ (by with_reducible assumption)) | (with_reducible refine Below.setCell ?_ (by go_size) _)))⟩
end
end
end Go.Proofs.YtofoenlhbmammaaGreat
