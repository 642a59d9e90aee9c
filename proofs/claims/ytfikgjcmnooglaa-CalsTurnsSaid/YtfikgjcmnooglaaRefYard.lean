/- REF 09: Check, blocked, ended, Cut, Take, New, Put. -/
import Derived.Test.YtfikgjcmnooglaaYardX
import Derived.Test.YtfikgjcmnooglaaYardC
import Derived.Test.YtfikgjcmnooglaaYardK
namespace Go.Proofs.Ytfikgjcmnooglaa

section
open Go.RowKit Go.Shelf

set_option maxRecDepth 100000 in set_option maxHeartbeats 4000000 in
theorem ref09_Check (d : V3) (bn bl : Option Addr) (cn cl : Nat) (ns ls : List (List Sl)) (w : World) (hn : CC w bn ns) (hl : CC w bl ls) :
    Calls Try.prog 58 #[.agg #[.int .i64 d.x, .int .i64 d.y, .int .i64 d.z, (.slice bn ns.length cn), (.slice bl ls.length cl)]] w (RB w (.int .i64 (Yd.chk ⟨d, ns, ls⟩))) := by
  have M1 := Lib.hid (fun W (h : Below w.heap.size w W) => ref09_May d bn bl cn cl ns ls W (hn.keep h) (hl.keep h))
  clear hn hl
  cases hok : Yd.okB ⟨d, ns, ls⟩ with
  | true =>
    rw [hok] at M1
    have HR := Lib.hid (show Yd.chk ⟨d, ns, ls⟩ = 0 by unfold Yd.chk; rw [hok]; rfl)
    clear hok
    go_enter Try.func58, Try.ntmps58
    go_wp2_with ((with_reducible refine (M1.out _ (by (repeat (first | (with_reducible exact Below.refl _ _) | (with_reducible assumption) | (with_reducible refine below_alloc ?_ _) | (with_reducible refine below_drewN ?_ _) | (with_reducible refine Below.drew ?_) | (with_reducible refine below_then ?_ (by with_reducible assumption)) | (with_reducible refine Below.setCell ?_ (by go_size) _))))).mono ?_); rintro e w1 ⟨rfl, hb1⟩; (obtain ⟨hc1, hf1⟩ := bcell hb1; have hz1 := hb1.size; (try simp at hz1); have hB : Below w.heap.size w w1 := (by (repeat (first | (with_reducible exact Below.refl _ _) | (with_reducible assumption) | (with_reducible refine below_alloc ?_ _) | (with_reducible refine below_drewN ?_ _) | (with_reducible refine Below.drew ?_) | (with_reducible refine below_then ?_ (by with_reducible assumption)) | (with_reducible refine Below.setCell ?_ (by go_size) _)))); obtain ⟨hcB, hfB⟩ := bcell hB; (try have z0 : w.heap.size < w1.heap.size := by omega); (try have z1 : w.heap.size + 1 < w1.heap.size := by omega); (try have z2 : w.heap.size + 2 < w1.heap.size := by omega); (try have z3 : w.heap.size + 3 < w1.heap.size := by omega)))
    go_returns
    exact ⟨by (first | (rw [HR.out]; done) | (rw [HR.out]; rfl) | (rw [HR.out]; simp; done)), by (repeat (first | (with_reducible exact Below.refl _ _) | (with_reducible assumption) | (with_reducible refine below_alloc ?_ _) | (with_reducible refine below_drewN ?_ _) | (with_reducible refine Below.drew ?_) | (with_reducible refine below_then ?_ (by with_reducible assumption)) | (with_reducible refine Below.setCell ?_ (by go_size) _)))⟩
  | false =>
    rw [hok] at M1
    have HR := Lib.hid (show Yd.chk ⟨d, ns, ls⟩ = 8 by unfold Yd.chk; rw [hok]; rfl)
    clear hok
    go_enter Try.func58, Try.ntmps58
    go_wp2_with ((with_reducible refine (M1.out _ (by (repeat (first | (with_reducible exact Below.refl _ _) | (with_reducible assumption) | (with_reducible refine below_alloc ?_ _) | (with_reducible refine below_drewN ?_ _) | (with_reducible refine Below.drew ?_) | (with_reducible refine below_then ?_ (by with_reducible assumption)) | (with_reducible refine Below.setCell ?_ (by go_size) _))))).mono ?_); rintro e w1 ⟨rfl, hb1⟩; (obtain ⟨hc1, hf1⟩ := bcell hb1; have hz1 := hb1.size; (try simp at hz1); have hB : Below w.heap.size w w1 := (by (repeat (first | (with_reducible exact Below.refl _ _) | (with_reducible assumption) | (with_reducible refine below_alloc ?_ _) | (with_reducible refine below_drewN ?_ _) | (with_reducible refine Below.drew ?_) | (with_reducible refine below_then ?_ (by with_reducible assumption)) | (with_reducible refine Below.setCell ?_ (by go_size) _)))); obtain ⟨hcB, hfB⟩ := bcell hB; (try have z0 : w.heap.size < w1.heap.size := by omega); (try have z1 : w.heap.size + 1 < w1.heap.size := by omega); (try have z2 : w.heap.size + 2 < w1.heap.size := by omega); (try have z3 : w.heap.size + 3 < w1.heap.size := by omega)))
    go_returns
    exact ⟨by (first | (rw [HR.out]; done) | (rw [HR.out]; rfl) | (rw [HR.out]; simp; done)), by (repeat (first | (with_reducible exact Below.refl _ _) | (with_reducible assumption) | (with_reducible refine below_alloc ?_ _) | (with_reducible refine below_drewN ?_ _) | (with_reducible refine Below.drew ?_) | (with_reducible refine below_then ?_ (by with_reducible assumption)) | (with_reducible refine Below.setCell ?_ (by go_size) _)))⟩
/-! ### what blocks -/
def tkT (a : List Nat) (f t : Int) (ns : List (List Sl)) : Nat → Bool
  | 0 => false
  | k + 1 => if there a k then tkT a f t ns k || !clearB (ns[k]?.getD []) f t else tkT a f t ns k
def mnT (a : List Nat) (ns : List (List Sl)) : Nat → Bool
  | 0 => false
  | k + 1 => if there a k then mnT a ns k || decide ((4096 : Int) ≤ ((ns[k]?.getD []).length : Nat)) else mnT a ns k
set_option maxRecDepth 100000 in set_option maxHeartbeats 4000000 in
theorem ref09_blocked (bn : Option Addr) (cn : Nat) (ns : List (List Sl)) (ba : Option Addr) (ca : Nat) (a : List Nat) (f t : Int) (w : World) (hn : CC w bn ns) (ha : SetIn w ba a) :
    Calls Try.prog 110 #[.slice bn ns.length cn, .slice ba a.length ca, .agg #[.int .i64 f, .int .i64 t]] w (RB w (.tuple #[.bool (tkT a f t ns ns.length), .bool (mnT a ns ns.length)])) := by
  have HN := Lib.hid hn
  have HA := Lib.hid ha
  have h9 := hn.many
  clear hn ha
  obtain ⟨W0, hW0⟩ : ∃ W0, W0 = w.alloc (.cells #[.int .i64 f, .int .i64 t] 24) := ⟨_, rfl⟩
  have SB0 := Lib.hid (show Blk W0 w.heap.size 24 #[.int .i64 f, .int .i64 t] by rw [hW0]; exact Blk.new ..)
  have HB0 := Lib.hid (show Below w.heap.size w W0 by rw [hW0]; (repeat (first | (with_reducible exact Below.refl _ _) | (with_reducible assumption) | (with_reducible refine below_alloc ?_ _) | (with_reducible refine below_drewN ?_ _) | (with_reducible refine Below.drew ?_) | (with_reducible refine below_then ?_ (by with_reducible assumption)) | (with_reducible refine Below.setCell ?_ (by go_size) _))))
  have HW := Lib.hid hW0
  clear hW0
  go_enter Try.func110, Try.ntmps110
  go_wp2_with fail
  rw [← HW.out]
  go_loopw [8, 9, 10] (fun x y i wr => ∃ k : Nat, k ≤ ns.length ∧ i = .int .i64 k ∧ x = .bool (tkT a f t ns k) ∧ y = .bool (mnT a ns k) ∧ Blk wr w.heap.size 24 #[.int .i64 f, .int .i64 t] ∧ Below w.heap.size w wr) (fun _ _ i _ => ns.length - (intOf i).toNat)
  case atStart => exact ⟨0, Nat.zero_le _, rfl, rfl, rfl, SB0.out, HB0.out⟩
  case round =>
    clear SB0 HB0
    obtain ⟨k, hk, rfl, rfl, rfl, hs, hbel⟩ := hrel
    have SB := Lib.hid hs
    have HB := Lib.hid hbel
    clear hs hbel
    by_cases hlt : k < ns.length
    · obtain ⟨c, hc⟩ : ∃ c, ns[k]? = some c := ⟨_, List.getElem?_eq_getElem hlt⟩
      obtain ⟨g, o, b, cap, e, hcell, hgl, hcs, _⟩ := (HN.out.keep HB.out).at hc
      subst e
      have HT := Lib.hid (ref03_There ba ca a k wr (HA.out.keep HB.out) (by omega))
      have HX := Lib.hid (show tkT a f t ns (k + 1) = (if there a k then tkT a f t ns k || !clearB c f t else tkT a f t ns k) by rw [tkT, hc]; rfl)
      have HY := Lib.hid (show mnT a ns (k + 1) = (if there a k then mnT a ns k || decide ((4096 : Int) ≤ (c.length : Nat)) else mnT a ns k) by rw [mnT, hc]; rfl)
      have HM := Lib.hid (fun (x : Aft wr) => Calls.aft_of (x := x) (ref08_Clear b cap c f t x.to (hcs.keep x.h)))
      have s0 := SB.out.cell 0 _ rfl
      have s1 := SB.out.cell 1 _ rfl
      have hSl := SB.out.lt
      obtain ⟨x', hx'⟩ : ∃ x', x' = tkT a f t ns (k + 1) := ⟨_, rfl⟩
      obtain ⟨y', hy'⟩ : ∃ y', y' = mnT a ns (k + 1) := ⟨_, rfl⟩
      rw [← hx'] at HX
      rw [← hy'] at HY
      have HE := Lib.hid (And.intro hx' hy')
      clear hx' hy'
      generalize tkT a f t ns k = x at *
      generalize mnT a ns k = y at *
      generalize clearB c f t = z at *
      clear hc hcs
      cases hth : there a k with
      | false =>
        rw [hth] at HT HX HY
        have HXY := Lib.hid (show x' = x ∧ y' = y from ⟨HX.out, HY.out⟩)
        clear HX HY hth
        go_wp2_with ((with_reducible refine HT.out.mono ?_); rintro e w2 ⟨rfl, hw2⟩; have hw2 := hw2.symm; subst hw2)
        go_roundw
        case rel => exact ⟨k + 1, by omega, by go_num, by rw [← HE.out.1, HXY.out.1], by rw [← HE.out.2, HXY.out.2], SB.out, HB.out⟩
        case measure => (simp [intOf] <;> omega)
      | true =>
        rw [hth] at HT HX HY
        have HX := Lib.hid (show x' = (x || !z) from HX.out)
        have HY := Lib.hid (show y' = (y || decide ((4096 : Int) ≤ (c.length : Nat))) from HY.out)
        clear hth
        cases x <;> cases y
        all_goals
          go_upto_region 8 with (first | ((with_reducible refine HT.out.mono ?_); rintro e w2 ⟨rfl, hw2⟩; have hw2 := hw2.symm; subst hw2) | (refine wp_region_aft (by kernel_rfl) (by kernel_rfl) ?_; (repeat (any_goals (first | go_big_quiet_step (with_reducible exact HM.out _) | quiet_step (with_reducible exact HM.out _) | (refine wpQuiet_step (fun K hK => ?_); go_simp; split <;> (refine hK _ ?_; clear hK K))))); all_goals (refine wpQuiet_nil ?_; intro wq hw'; obtain ⟨x1, hx1⟩ := hw'; have hbq := x1.h; rw [← hx1] at hbq; clear hx1 x1)))
          have hcq := (hbq.cell (p := ⟨g, o + k, none⟩) hgl).trans hcell
          have SB := Lib.hid (SB.out.below hbq)
          have HB := Lib.hid (below_then HB.out hbq)
          clear hbq
          go_wp2_with fail
          go_roundw
          case rel => exact ⟨k + 1, by omega, by go_num, by rw [← HE.out.1, HX.out]; first | done | rfl | simp, by rw [← HE.out.2, HY.out]; first | done | rfl | simp, SB.out, HB.out⟩
          case measure => (simp [intOf] <;> omega)
    · obtain rfl : k = ns.length := by omega
      go_wp2_with fail
      go_returns
      exact ⟨rfl, HB.out⟩
end

section
open Go.RowKit Go.Shelf

def mapTo (f : List Sl → List Sl) (ns : List (List Sl)) (k : Nat) : List (List Sl) := (ns.take k).map f
theorem mapTo_succ {f : List Sl → List Sl} {ns : List (List Sl)} {k : Nat} {c : List Sl} (hc : ns[k]? = some c) : mapTo f ns (k + 1) = mapTo f ns k ++ [f c] := by
  unfold mapTo
  rw [List.take_add_one, hc, List.map_append]
  rfl
theorem mapTo_len {f : List Sl → List Sl} {ns : List (List Sl)} {k : Nat} (h : k ≤ ns.length) : (mapTo f ns k).length = k := by unfold mapTo; rw [List.length_map, List.length_take]; omega
theorem end_cut {c : List Sl} (h : calE c = 0) {ow tm : Int} : endL ow tm c = cutV ow tm c := by
  rw [cutV, if_pos h]
  exact endL_eq ow tm (chain0_iff.1 (calE_ok h).1).1
set_option maxRecDepth 100000 in set_option maxHeartbeats 4000000 in
theorem ref09_ended (bn : Option Addr) (cn : Nat) (ns : List (List Sl)) (ow tm : Int) (w : World) (hn : CC w bn ns) (hok : ∀ c ∈ ns, calE c = 0) :
    Calls Try.prog 112 #[.slice bn ns.length cn, .int .i64 ow, .int .i64 tm] w (RLL w (ns.map (cutV ow tm))) := by
  obtain ⟨j0, hj, jz0, jz1, jz2⟩ := info_parts infoCal
  have HN := Lib.hid hn
  have HOK := Lib.hid hok
  have h9 := hn.many
  clear hn hok
  go_enter Try.func112, Try.ntmps112
  go_wp2_with fail
  go_loopw [7, 8] (fun v i wr => ∃ k : Nat, k ≤ ns.length ∧ i = .int .i64 k ∧ LO wr w.heap.size v (mapTo (cutV ow tm) ns k) ∧ Below w.heap.size w wr) (fun _ i _ => ns.length - (intOf i).toNat)
  case atStart => exact ⟨0, Nat.zero_le _, rfl, LO.nil _ _, by (repeat (first | (with_reducible exact Below.refl _ _) | (with_reducible assumption) | (with_reducible refine below_alloc ?_ _) | (with_reducible refine below_drewN ?_ _) | (with_reducible refine Below.drew ?_) | (with_reducible refine below_then ?_ (by with_reducible assumption)) | (with_reducible refine Below.setCell ?_ (by go_size) _)))⟩
  case round =>
    obtain ⟨k, hk, rfl, hown, hbel⟩ := hrel
    have HO := Lib.hid hown
    have HB := Lib.hid hbel
    have hsz := hbel.size
    have hul := mapTo_len (f := cutV ow tm) hk
    clear hown hbel
    by_cases hlt : k < ns.length
    · obtain ⟨c, hc⟩ : ∃ c, ns[k]? = some c := ⟨_, List.getElem?_eq_getElem hlt⟩
      have hc0 := HOK.out c (List.mem_of_getElem? hc)
      have hc5 := (calE_ok hc0).2
      have HP := Lib.hid (mapTo_succ (f := cutV ow tm) hc)
      obtain ⟨g, o, b, cap, e, hcell, hgl, hcs, hle, hnn⟩ := (HN.out.keep HB.out).at hc
      subst e
      have HE := Lib.hid (by have := ref08_Ended b cap c ow tm wr hcs (by omega); rw [show endL ow tm c = cutV ow tm c from end_cut hc0] at this; exact this)
      have hvl := cutV_len ow tm c
      generalize cutV ow tm c = cv at *
      clear hc hcs hc0 hle hnn
      go_wp2_with fail
      refine HE.out.mono ?_
      rintro e w2 ⟨u2, rfl, ho2, hb2⟩
      have HU := Lib.hid (own_mono ho2 (show w.heap.size ≤ wr.heap.size by omega))
      obtain ⟨ub2, uc2, rfl, _⟩ := own_rd ho2
      have HO := Lib.hid (HO.out.keep hb2)
      have HB := Lib.hid (below_then HB.out hb2)
      have hz2 := hb2.size
      clear ho2 hb2 hcell hgl HE
      obtain ⟨vs, hv1, hv2⟩ := HO.out.ex
      go_wp2_with (at_builtin; refine wpList_append_own _ rfl _ _ 40 rfl (w.heap.size) 22 j0 (.slice none 0 0) 1 24 Try.underlying40 hj jz0 jz1 jz2 rfl (by decide) _ _ _ rfl ((hv1).alloc _) ⟨_, 0, none⟩ 1 1 [.slice ub2 cv.length uc2] rfl rfl (cell_new1 _ _ _) (by simp [Value.oneCell']) ?_ ?_ ?_ ?_)
      all_goals try (first | omega | (unfold maxLen; omega) | (simp; omega) | (simp; unfold maxLen; omega))
      intro v' w3 o3 hg3 _
      have n3 := own_below (hv1.alloc _) hg3 (by simp; omega)
      have m3 := ((Below.refl w2.heap.size w2).alloc (Nat.le_refl _) _).mono (show w.heap.size ≤ w2.heap.size by omega) |>.trans n3
      have HO := Lib.hid (LO.snoc (hv1.alloc _) (fun i x hx => by obtain ⟨u, h4, h5⟩ := hv2 i x hx; exact ⟨u, h4, h5.alloc _⟩) (HU.out.alloc _) o3 (by omega) hg3)
      rw [← HP.out] at HO
      have HB := Lib.hid (HB.out.trans m3)
      clear m3 n3 o3 hg3 hv1 hv2
      go_wp2_with fail
      go_roundw
      case rel => exact ⟨k + 1, by omega, by go_num, HO.out, HB.out⟩
      case measure => (simp [intOf] <;> omega)
    · obtain rfl : k = ns.length := by omega
      have HF := Lib.hid (show mapTo (cutV ow tm) ns ns.length = ns.map (cutV ow tm) by unfold mapTo; rw [List.take_length])
      rw [HF.out] at HO
      go_wp2_with fail
      go_returns
      exact ⟨_, rfl, HO.out, HB.out⟩
set_option maxRecDepth 100000 in set_option maxHeartbeats 4000000 in
theorem ref09_Cut (d : V3) (bn bl : Option Addr) (cn cl : Nat) (ns ls : List (List Sl)) (ow tm : Int) (w : World) (hn : CC w bn ns) (hl : CC w bl ls) :
    Calls Try.prog 53 #[.agg #[.int .i64 d.x, .int .i64 d.y, .int .i64 d.z, (.slice bn ns.length cn), (.slice bl ls.length cl)], .int .i64 ow, .int .i64 tm] w (RYE w (yCutV ow tm ⟨d, ns, ls⟩) (Yd.chk ⟨d, ns, ls⟩)) := by
  obtain ⟨W0, hW0⟩ : ∃ W0, W0 = (w.alloc (.cells #[.int .i64 d.x, .int .i64 d.y, .int .i64 d.z, (.slice bn ns.length cn), (.slice bl ls.length cl)] 42)).alloc (.cells #[.int .i64 0, .int .i64 0, .int .i64 0, .slice none 0 0, .slice none 0 0] 42) := ⟨_, rfl⟩
  have YB := Lib.hid (show Blk W0 w.heap.size 42 #[.int .i64 d.x, .int .i64 d.y, .int .i64 d.z, (.slice bn ns.length cn), (.slice bl ls.length cl)] by rw [hW0]; exact (Blk.new ..).alloc _)
  have RB := Lib.hid (show Blk W0 (w.heap.size + 1) 42 #[.int .i64 0, .int .i64 0, .int .i64 0, .slice none 0 0, .slice none 0 0] by rw [hW0, show w.heap.size + 1 = (w.alloc (.cells #[.int .i64 d.x, .int .i64 d.y, .int .i64 d.z, (.slice bn ns.length cn), (.slice bl ls.length cl)] 42)).heap.size by simp]; exact Blk.new ..)
  have HB := Lib.hid (show Below w.heap.size w W0 by rw [hW0]; (repeat (first | (with_reducible exact Below.refl _ _) | (with_reducible assumption) | (with_reducible refine below_alloc ?_ _) | (with_reducible refine below_drewN ?_ _) | (with_reducible refine Below.drew ?_) | (with_reducible refine below_then ?_ (by with_reducible assumption)) | (with_reducible refine Below.setCell ?_ (by go_size) _))))
  have M1 := Lib.hid (fun W (h : Below w.heap.size w W) => ref09_May d bn bl cn cl ns ls W (hn.keep h) (hl.keep h))
  have HN := Lib.hid hn
  have HL := Lib.hid hl
  have HW := Lib.hid hW0
  clear hn hl hW0
  cases hok : Yd.okB ⟨d, ns, ls⟩ with
  | false =>
    have hE : Yd.chk ⟨d, ns, ls⟩ = 8 := by unfold Yd.chk; rw [hok]; rfl
    have hV : yCutV ow tm ⟨d, ns, ls⟩ = Yd.zero := by unfold yCutV; rw [hok]; rfl
    rw [hE, hV]
    rw [hok] at M1
    clear hE hV hok
    go_enter Try.func53, Try.ntmps53
    go_upto_region 1 with fail
    rw [← HW.out]
    (have p0 := (YB.out.below (Below.refl _ _)).cell 0 _ rfl; have p1 := (YB.out.below (Below.refl _ _)).cell 1 _ rfl; have p2 := (YB.out.below (Below.refl _ _)).cell 2 _ rfl; have p3 := (YB.out.below (Below.refl _ _)).cell 3 _ rfl; have p4 := (YB.out.below (Below.refl _ _)).cell 4 _ rfl; have q0 := (RB.out.below (Below.refl _ _)).cell 0 _ rfl; have q1 := (RB.out.below (Below.refl _ _)).cell 1 _ rfl; have q2 := (RB.out.below (Below.refl _ _)).cell 2 _ rfl; have q3 := (RB.out.below (Below.refl _ _)).cell 3 _ rfl; have q4 := (RB.out.below (Below.refl _ _)).cell 4 _ rfl; have f0 := (RB.out.below (Below.refl _ _)).frozen 0; have f1 := (RB.out.below (Below.refl _ _)).frozen 1; have f2 := (RB.out.below (Below.refl _ _)).frozen 2; have f3 := (RB.out.below (Below.refl _ _)).frozen 3; have f4 := (RB.out.below (Below.refl _ _)).frozen 4; simp at p0 p1 p2 p3 p4 q0 q1 q2 q3 q4)
    go_wp2_with fail
    refine (M1.out _ HB.out).mono ?_
    rintro e w1 ⟨rfl, hb1⟩
    have YB := Lib.hid (YB.out.below hb1)
    have RB := Lib.hid (RB.out.below hb1)
    have HB := Lib.hid (below_then HB.out hb1)
    clear hb1 p0 p1 p2 p3 p4 q0 q1 q2 q3 q4 f0 f1 f2 f3 f4
    (have p0 := (YB.out.below (Below.refl _ _)).cell 0 _ rfl; have p1 := (YB.out.below (Below.refl _ _)).cell 1 _ rfl; have p2 := (YB.out.below (Below.refl _ _)).cell 2 _ rfl; have p3 := (YB.out.below (Below.refl _ _)).cell 3 _ rfl; have p4 := (YB.out.below (Below.refl _ _)).cell 4 _ rfl; have q0 := (RB.out.below (Below.refl _ _)).cell 0 _ rfl; have q1 := (RB.out.below (Below.refl _ _)).cell 1 _ rfl; have q2 := (RB.out.below (Below.refl _ _)).cell 2 _ rfl; have q3 := (RB.out.below (Below.refl _ _)).cell 3 _ rfl; have q4 := (RB.out.below (Below.refl _ _)).cell 4 _ rfl; have f0 := (RB.out.below (Below.refl _ _)).frozen 0; have f1 := (RB.out.below (Below.refl _ _)).frozen 1; have f2 := (RB.out.below (Below.refl _ _)).frozen 2; have f3 := (RB.out.below (Below.refl _ _)).frozen 3; have f4 := (RB.out.below (Below.refl _ _)).frozen 4; simp at p0 p1 p2 p3 p4 q0 q1 q2 q3 q4)
    go_wp2_with fail
    (have R0 := (RB.out).set 0 (.int .i64 0); have R1 := R0.set 1 (.int .i64 0); have R2 := R1.set 2 (.int .i64 0); have R3 := R2.set 3 (.slice none 0 0); have R4 := R3.set 4 (.slice none 0 0); have r0 := R0.cell 0 (.int .i64 0) rfl; have r1 := R1.cell 1 (.int .i64 0) rfl; have r2 := R2.cell 2 (.int .i64 0) rfl; have r3 := R3.cell 3 (.slice none 0 0) rfl; have r4 := R4.cell 4 (.slice none 0 0) rfl; clear R0 R1 R2 R3 R4; refine bodyPost_ret (by simp [results, Try.results53, go_sem, r0, r1, r2, r3, r4]; try rfl) rfl ?_)
    exact RYE.zero _ _ _ (by have hbF := HB.out; (repeat (first | (with_reducible exact Below.refl _ _) | (with_reducible assumption) | (with_reducible refine below_alloc ?_ _) | (with_reducible refine below_drewN ?_ _) | (with_reducible refine Below.drew ?_) | (with_reducible refine below_then ?_ (by with_reducible assumption)) | (with_reducible refine Below.setCell ?_ (by go_size) _))))
  | true =>
    have hE : Yd.chk ⟨d, ns, ls⟩ = 0 := by unfold Yd.chk; rw [hok]; rfl
    have hV : yCutV ow tm ⟨d, ns, ls⟩ = ⟨d, ns.map (cutV ow tm), ls.map (cutV ow tm)⟩ := by unfold yCutV; rw [if_pos hok]
    have hA := Yd.ok_all hok
    rw [hok] at M1
    have HEV := Lib.hid (And.intro hE hV)
    have E1 := Lib.hid (fun W (h : Below w.heap.size w W) => ref09_ended bn cn ns ow tm W (HN.out.keep h) hA.1)
    have E2 := Lib.hid (fun W (h : Below w.heap.size w W) => ref09_ended bl cl ls ow tm W (HL.out.keep h) hA.2)
    generalize ns.map (cutV ow tm) = n2 at *
    generalize ls.map (cutV ow tm) = l2 at *
    clear hE hV hok hA
    go_enter Try.func53, Try.ntmps53
    go_upto_region 1 with fail
    rw [← HW.out]
    (have p0 := (YB.out.below (Below.refl _ _)).cell 0 _ rfl; have p1 := (YB.out.below (Below.refl _ _)).cell 1 _ rfl; have p2 := (YB.out.below (Below.refl _ _)).cell 2 _ rfl; have p3 := (YB.out.below (Below.refl _ _)).cell 3 _ rfl; have p4 := (YB.out.below (Below.refl _ _)).cell 4 _ rfl; have q0 := (RB.out.below (Below.refl _ _)).cell 0 _ rfl; have q1 := (RB.out.below (Below.refl _ _)).cell 1 _ rfl; have q2 := (RB.out.below (Below.refl _ _)).cell 2 _ rfl; have q3 := (RB.out.below (Below.refl _ _)).cell 3 _ rfl; have q4 := (RB.out.below (Below.refl _ _)).cell 4 _ rfl; have f0 := (RB.out.below (Below.refl _ _)).frozen 0; have f1 := (RB.out.below (Below.refl _ _)).frozen 1; have f2 := (RB.out.below (Below.refl _ _)).frozen 2; have f3 := (RB.out.below (Below.refl _ _)).frozen 3; have f4 := (RB.out.below (Below.refl _ _)).frozen 4; simp at p0 p1 p2 p3 p4 q0 q1 q2 q3 q4)
    go_upto_region 3 with ((with_reducible refine (M1.out _ HB.out).mono ?_); rintro e w1 ⟨rfl, hb1⟩)
    have YB := Lib.hid (YB.out.below hb1)
    have RB := Lib.hid (RB.out.below hb1)
    have HB := Lib.hid (below_then HB.out hb1)
    have hsz := HB.out.size
    have hR := RB.out.lt
    clear hb1 p0 p1 p2 p3 p4 q0 q1 q2 q3 q4 f0 f1 f2 f3 f4
    have E1 := Lib.hid (fun W (h : Below w1.heap.size w1 W) => E1.out W (below_then HB.out h))
    have E2 := Lib.hid (fun W (h : Below w1.heap.size w1 W) => E2.out W (below_then HB.out h))
    (have p0 := (YB.out.below (Below.refl _ _)).cell 0 _ rfl; have p1 := (YB.out.below (Below.refl _ _)).cell 1 _ rfl; have p2 := (YB.out.below (Below.refl _ _)).cell 2 _ rfl; have p3 := (YB.out.below (Below.refl _ _)).cell 3 _ rfl; have p4 := (YB.out.below (Below.refl _ _)).cell 4 _ rfl; have q0 := (RB.out.below (Below.refl _ _)).cell 0 _ rfl; have q1 := (RB.out.below (Below.refl _ _)).cell 1 _ rfl; have q2 := (RB.out.below (Below.refl _ _)).cell 2 _ rfl; have q3 := (RB.out.below (Below.refl _ _)).cell 3 _ rfl; have q4 := (RB.out.below (Below.refl _ _)).cell 4 _ rfl; have f0 := (RB.out.below (Below.refl _ _)).frozen 0; have f1 := (RB.out.below (Below.refl _ _)).frozen 1; have f2 := (RB.out.below (Below.refl _ _)).frozen 2; have f3 := (RB.out.below (Below.refl _ _)).frozen 3; have f4 := (RB.out.below (Below.refl _ _)).frozen 4; simp at p0 p1 p2 p3 p4 q0 q1 q2 q3 q4)
    have mixed : Try.prog.follows .mixedOrders = true := by kernel_rfl
    go_region_held3 (fun W => (W.cell? ⟨w.heap.size, 0, none⟩ = some (.int .i64 d.x) ∧ W.cell? ⟨w.heap.size, 1, none⟩ = some (.int .i64 d.y) ∧ W.cell? ⟨w.heap.size, 2, none⟩ = some (.int .i64 d.z) ∧ W.cell? ⟨w.heap.size, 3, none⟩ = some (.slice bn ns.length cn) ∧ W.cell? ⟨w.heap.size, 4, none⟩ = some (.slice bl ls.length cl))) (go_keep)
      (first
        | ((with_reducible refine (E1.out _ (by (repeat (first | (with_reducible exact Below.refl _ _) | (with_reducible assumption) | (with_reducible refine below_alloc ?_ _) | (with_reducible refine below_drewN ?_ _) | (with_reducible refine Below.drew ?_) | (with_reducible refine below_then ?_ (by with_reducible assumption)) | (with_reducible refine Below.setCell ?_ (by go_size) _))))).mono ?_); rintro e wa ⟨va, rfl, hoa, hba⟩; obtain ⟨xa, ya, rfl⟩ := hoa.slice; have hza := hba.size; (try simp at hza); have HBa := below_then (show Below w1.heap.size w1 _ by (repeat (first | (with_reducible exact Below.refl _ _) | (with_reducible assumption) | (with_reducible refine below_alloc ?_ _) | (with_reducible refine below_drewN ?_ _) | (with_reducible refine Below.drew ?_) | (with_reducible refine below_then ?_ (by with_reducible assumption)) | (with_reducible refine Below.setCell ?_ (by go_size) _)))) hba; (have p0 := (YB.out.below (HBa)).cell 0 _ rfl; have p1 := (YB.out.below (HBa)).cell 1 _ rfl; have p2 := (YB.out.below (HBa)).cell 2 _ rfl; have p3 := (YB.out.below (HBa)).cell 3 _ rfl; have p4 := (YB.out.below (HBa)).cell 4 _ rfl; have q0 := (RB.out.below (HBa)).cell 0 _ rfl; have q1 := (RB.out.below (HBa)).cell 1 _ rfl; have q2 := (RB.out.below (HBa)).cell 2 _ rfl; have q3 := (RB.out.below (HBa)).cell 3 _ rfl; have q4 := (RB.out.below (HBa)).cell 4 _ rfl; have f0 := (RB.out.below (HBa)).frozen 0; have f1 := (RB.out.below (HBa)).frozen 1; have f2 := (RB.out.below (HBa)).frozen 2; have f3 := (RB.out.below (HBa)).frozen 3; have f4 := (RB.out.below (HBa)).frozen 4; simp at p0 p1 p2 p3 p4 q0 q1 q2 q3 q4))
        | ((with_reducible refine (E2.out _ (by (repeat (first | (with_reducible exact Below.refl _ _) | (with_reducible assumption) | (with_reducible refine below_alloc ?_ _) | (with_reducible refine below_drewN ?_ _) | (with_reducible refine Below.drew ?_) | (with_reducible refine below_then ?_ (by with_reducible assumption)) | (with_reducible refine Below.setCell ?_ (by go_size) _))))).mono ?_); rintro e wb ⟨vb, rfl, hob, hbb⟩; obtain ⟨xb, yb, rfl⟩ := hob.slice; have hzb := hbb.size; (try simp at hzb); have HBb := below_then (show Below w1.heap.size w1 _ by (repeat (first | (with_reducible exact Below.refl _ _) | (with_reducible assumption) | (with_reducible refine below_alloc ?_ _) | (with_reducible refine below_drewN ?_ _) | (with_reducible refine Below.drew ?_) | (with_reducible refine below_then ?_ (by with_reducible assumption)) | (with_reducible refine Below.setCell ?_ (by go_size) _)))) hbb; (have p0 := (YB.out.below (HBb)).cell 0 _ rfl; have p1 := (YB.out.below (HBb)).cell 1 _ rfl; have p2 := (YB.out.below (HBb)).cell 2 _ rfl; have p3 := (YB.out.below (HBb)).cell 3 _ rfl; have p4 := (YB.out.below (HBb)).cell 4 _ rfl; have q0 := (RB.out.below (HBb)).cell 0 _ rfl; have q1 := (RB.out.below (HBb)).cell 1 _ rfl; have q2 := (RB.out.below (HBb)).cell 2 _ rfl; have q3 := (RB.out.below (HBb)).cell 3 _ rfl; have q4 := (RB.out.below (HBb)).cell 4 _ rfl; have f0 := (RB.out.below (HBb)).frozen 0; have f1 := (RB.out.below (HBb)).frozen 1; have f2 := (RB.out.below (HBb)).frozen 2; have f3 := (RB.out.below (HBb)).frozen 3; have f4 := (RB.out.below (HBb)).frozen 4; simp at p0 p1 p2 p3 p4 q0 q1 q2 q3 q4)))
    go_wp2_with fail
    (have R0 := (RB.out.below HBb).set 0 (.int .i64 d.x); have R1 := R0.set 1 (.int .i64 d.y); have R2 := R1.set 2 (.int .i64 d.z); have R3 := R2.set 3 (.slice xa n2.length ya); have R4 := R3.set 4 (.slice xb l2.length yb); have r0 := R0.cell 0 (.int .i64 d.x) rfl; have r1 := R1.cell 1 (.int .i64 d.y) rfl; have r2 := R2.cell 2 (.int .i64 d.z) rfl; have r3 := R3.cell 3 (.slice xa n2.length ya) rfl; have r4 := R4.cell 4 (.slice xb l2.length yb) rfl; clear R0 R1 R2 R3 R4; refine bodyPost_ret (by simp [results, Try.results53, go_sem, r0, r1, r2, r3, r4]; try rfl) rfl ?_)
    rw [HEV.out.1, HEV.out.2]
    have hbF := below_then HB.out HBb
    exact ⟨_, _, rfl, LO.five (hoa.keep hbb) (by first | exact hR | omega) (by first | exact hsz | omega), LO.five hob (by first | exact hR | omega) (by first | exact hsz | omega), by (repeat (first | (with_reducible exact Below.refl _ _) | (with_reducible assumption) | (with_reducible refine below_alloc ?_ _) | (with_reducible refine below_drewN ?_ _) | (with_reducible refine Below.drew ?_) | (with_reducible refine below_then ?_ (by with_reducible assumption)) | (with_reducible refine Below.setCell ?_ (by go_size) _)))⟩
set_option maxRecDepth 100000 in set_option maxHeartbeats 4000000 in
theorem ref09_Take (d : V3) (bn bl : Option Addr) (cn cl : Nat) (ns ls : List (List Sl)) (ow : Int) (w : World) (hn : CC w bn ns) (hl : CC w bl ls) :
    Calls Try.prog 55 #[.agg #[.int .i64 d.x, .int .i64 d.y, .int .i64 d.z, (.slice bn ns.length cn), (.slice bl ls.length cl)], .int .i64 ow] w (RYE w (yCutV ow 0 ⟨d, ns, ls⟩) (Yd.chk ⟨d, ns, ls⟩)) := by
  obtain ⟨W0, hW0⟩ : ∃ W0, W0 = (w.alloc (.cells #[.int .i64 d.x, .int .i64 d.y, .int .i64 d.z, (.slice bn ns.length cn), (.slice bl ls.length cl)] 42)).alloc (.cells #[.int .i64 0, .int .i64 0, .int .i64 0, .slice none 0 0, .slice none 0 0] 42) := ⟨_, rfl⟩
  have YB := Lib.hid (show Blk W0 w.heap.size 42 #[.int .i64 d.x, .int .i64 d.y, .int .i64 d.z, (.slice bn ns.length cn), (.slice bl ls.length cl)] by rw [hW0]; exact (Blk.new ..).alloc _)
  have RB := Lib.hid (show Blk W0 (w.heap.size + 1) 42 #[.int .i64 0, .int .i64 0, .int .i64 0, .slice none 0 0, .slice none 0 0] by rw [hW0, show w.heap.size + 1 = (w.alloc (.cells #[.int .i64 d.x, .int .i64 d.y, .int .i64 d.z, (.slice bn ns.length cn), (.slice bl ls.length cl)] 42)).heap.size by simp]; exact Blk.new ..)
  have HB := Lib.hid (show Below w.heap.size w W0 by rw [hW0]; (repeat (first | (with_reducible exact Below.refl _ _) | (with_reducible assumption) | (with_reducible refine below_alloc ?_ _) | (with_reducible refine below_drewN ?_ _) | (with_reducible refine Below.drew ?_) | (with_reducible refine below_then ?_ (by with_reducible assumption)) | (with_reducible refine Below.setCell ?_ (by go_size) _))))
  have C1 := Lib.hid (fun W (h : Below w.heap.size w W) => ref09_Cut d bn bl cn cl ns ls ow 0 W (hn.keep h) (hl.keep h))
  have HW := Lib.hid hW0
  clear hn hl hW0
  generalize yCutV ow 0 ⟨d, ns, ls⟩ = z at *
  generalize Yd.chk ⟨d, ns, ls⟩ = x at *
  go_enter Try.func55, Try.ntmps55
  go_upto_region 1 with fail
  rw [← HW.out]
  have y0 := YB.out.cell 0 _ rfl
  have y1 := YB.out.cell 1 _ rfl
  have y2 := YB.out.cell 2 _ rfl
  have y3 := YB.out.cell 3 _ rfl
  have y4 := YB.out.cell 4 _ rfl
  go_wp2_with fail
  refine (C1.out _ HB.out).mono ?_
  rintro e w1 ⟨u, v, rfl, hu, hv, hb1⟩
  obtain ⟨ub, uc, rfl⟩ := hu.slice
  obtain ⟨vb, vc, rfl⟩ := hv.slice
  have hR := RB.out.lt
  have hsz := HB.out.size
  have RB := Lib.hid (RB.out.below hb1)
  have HB := Lib.hid (below_then HB.out hb1)
  have HU := Lib.hid hu
  have HV := Lib.hid hv
  clear hu hv hb1 y0 y1 y2 y3 y4
  have q0 := RB.out.cell 0 _ rfl
  have q1 := RB.out.cell 1 _ rfl
  have q2 := RB.out.cell 2 _ rfl
  have q3 := RB.out.cell 3 _ rfl
  have q4 := RB.out.cell 4 _ rfl
  have g0 := RB.out.frozen 0
  have g1 := RB.out.frozen 1
  have g2 := RB.out.frozen 2
  have g3 := RB.out.frozen 3
  have g4 := RB.out.frozen 4
  go_wp2_with fail
  (have R0 := (RB.out).set 0 (.int .i64 z.d.x); have R1 := R0.set 1 (.int .i64 z.d.y); have R2 := R1.set 2 (.int .i64 z.d.z); have R3 := R2.set 3 (.slice ub z.ns.length uc); have R4 := R3.set 4 (.slice vb z.ls.length vc); have r0 := R0.cell 0 (.int .i64 z.d.x) rfl; have r1 := R1.cell 1 (.int .i64 z.d.y) rfl; have r2 := R2.cell 2 (.int .i64 z.d.z) rfl; have r3 := R3.cell 3 (.slice ub z.ns.length uc) rfl; have r4 := R4.cell 4 (.slice vb z.ls.length vc) rfl; clear R0 R1 R2 R3 R4; refine bodyPost_ret (by simp [results, Try.results55, go_sem, r0, r1, r2, r3, r4]; try rfl) rfl ?_)
  exact ⟨_, _, rfl, LO.five HU.out hR hsz, LO.five HV.out hR hsz, by have hbF := HB.out; (repeat (first | (with_reducible exact Below.refl _ _) | (with_reducible assumption) | (with_reducible refine below_alloc ?_ _) | (with_reducible refine below_drewN ?_ _) | (with_reducible refine Below.drew ?_) | (with_reducible refine below_then ?_ (by with_reducible assumption)) | (with_reducible refine Below.setCell ?_ (by go_size) _)))⟩

set_option maxRecDepth 100000 in set_option maxHeartbeats 4000000 in
theorem ref09_New (d : V3) (w : World) : Calls Try.prog 57 #[.agg #[.int .i64 d.x, .int .i64 d.y, .int .i64 d.z]] w (RYE w (newV d) d.err) := by
  obtain ⟨W0, hW0⟩ : ∃ W0, W0 = (w.alloc (.cells #[.int .i64 d.x, .int .i64 d.y, .int .i64 d.z] 39)).alloc (.cells #[.int .i64 0, .int .i64 0, .int .i64 0, .slice none 0 0, .slice none 0 0] 42) := ⟨_, rfl⟩
  have DB := Lib.hid (show Blk W0 w.heap.size 39 #[.int .i64 d.x, .int .i64 d.y, .int .i64 d.z] by rw [hW0]; exact (Blk.new ..).alloc _)
  have RB := Lib.hid (show Blk W0 (w.heap.size + 1) 42 #[.int .i64 0, .int .i64 0, .int .i64 0, .slice none 0 0, .slice none 0 0] by rw [hW0, show w.heap.size + 1 = (w.alloc (.cells #[.int .i64 d.x, .int .i64 d.y, .int .i64 d.z] 39)).heap.size by simp]; exact Blk.new ..)
  have HB := Lib.hid (show Below w.heap.size w W0 by rw [hW0]; (repeat (first | (with_reducible exact Below.refl _ _) | (with_reducible assumption) | (with_reducible refine below_alloc ?_ _) | (with_reducible refine below_drewN ?_ _) | (with_reducible refine Below.drew ?_) | (with_reducible refine below_then ?_ (by with_reducible assumption)) | (with_reducible refine Below.setCell ?_ (by go_size) _))))
  have M := Lib.hid (fun W => ref01_May d W)
  have HW := Lib.hid hW0
  clear hW0
  by_cases h : d.may
  · obtain ⟨n, hn⟩ : ∃ n, n = d.n.toNat := ⟨_, rfl⟩
    have hnl := V3.n_le h
    have hV : newV d = ⟨d, List.replicate n [], List.replicate (3 * n) []⟩ := by unfold newV; rw [if_pos h, hn]
    rw [hV, V3.err_ok h]
    rw [decide_eq_true h] at M
    have M2 := Lib.hid (fun W => by have := ref01_N d W h; rw [show d.n = (n : Int) by omega] at this; exact this)
    have hn1 : n ≤ 4096 := by omega
    have hmk1 : ∀ W : World, (Instr.makeSlice 40 (.int .i64 (n : Int)) (.int .i64 (n : Int))).run Try.prog W = .ok (.slice (some ⟨W.heap.size, 0, none⟩) n n) (W.alloc (.cells (madeCells #[.slice none 0 0] n) 22)) :=
      fun W => run_make_row' (P := Try.prog) 40 22 (.slice none 0 0) 24 Try.underlying40 infoCal rfl .i64 .i64 n (by omega) (by omega) W
    have hmk2 : ∀ W : World, (Instr.makeSlice 40 (.int .i64 (3 * (n : Int))) (.int .i64 (3 * (n : Int)))).run Try.prog W = .ok (.slice (some ⟨W.heap.size, 0, none⟩) (3 * n) (3 * n)) (W.alloc (.cells (madeCells #[.slice none 0 0] (3 * n)) 22)) := by
      intro W
      have := run_make_row' (P := Try.prog) 40 22 (.slice none 0 0) 24 Try.underlying40 infoCal rfl .i64 .i64 (3 * n) (by omega) (by omega) W
      rw [show ((3 * n : Nat) : Int) = 3 * (n : Int) by omega] at this
      exact this
    clear h hnl hV hn
    go_enter Try.func57, Try.ntmps57
    go_upto_region 1 with fail
    rw [← HW.out]
    have d0 := DB.out.cell 0 _ rfl
    have d1 := DB.out.cell 1 _ rfl
    have d2 := DB.out.cell 2 _ rfl
    go_wp2_with fail
    refine (M.out _).mono ?_
    rintro e w1 ⟨rfl, hb1⟩
    have DB := Lib.hid (DB.out.below hb1)
    have RB := Lib.hid (RB.out.below hb1)
    have HB := Lib.hid (below_then HB.out hb1)
    clear hb1 d0 d1 d2
    have d0 := DB.out.cell 0 _ rfl
    have d1 := DB.out.cell 1 _ rfl
    have d2 := DB.out.cell 2 _ rfl
    go_wp2_with fail
    refine (M2.out _).mono ?_
    rintro e w2 ⟨rfl, hb1⟩
    have DB := Lib.hid (DB.out.below hb1)
    have RB := Lib.hid (RB.out.below hb1)
    have HB := Lib.hid (below_then HB.out hb1)
    clear hb1 d0 d1 d2
    have d0 := DB.out.cell 0 _ rfl
    have d1 := DB.out.cell 1 _ rfl
    have d2 := DB.out.cell 2 _ rfl
    have hDl := DB.out.lt
    have hRl := RB.out.lt
    (have q0 := RB.out.cell 0 _ rfl; have q1 := RB.out.cell 1 _ rfl; have q2 := RB.out.cell 2 _ rfl; have q3 := RB.out.cell 3 _ rfl; have q4 := RB.out.cell 4 _ rfl; have g0 := RB.out.frozen 0; have g1 := RB.out.frozen 1; have g2 := RB.out.frozen 2; have g3 := RB.out.frozen 3; have g4 := RB.out.frozen 4)
    go_wp2_with fail
    go_region
    · obtain ⟨W6, hW6⟩ : ∃ W6, W6 = (((((w2.setCell ⟨w.heap.size + 1, 0, none⟩ (.int .i64 d.x)).setCell ⟨w.heap.size + 1, 1, none⟩ (.int .i64 d.y)).setCell ⟨w.heap.size + 1, 2, none⟩ (.int .i64 d.z)).setCell ⟨w.heap.size + 1, 3, none⟩ (.slice (some ⟨w2.heap.size, 0, none⟩) n n)).setCell ⟨w.heap.size + 1, 4, none⟩ (.slice (some ⟨w2.heap.size + 1, 0, none⟩) (3 * n) (3 * n))) := ⟨_, rfl⟩
      rw [← hW6]
      have hsz : W6.heap.size = w2.heap.size := by rw [hW6, sz_set, sz_set, sz_set, sz_set, sz_set]
      have RB6 : Blk W6 (w.heap.size + 1) 42 #[.int .i64 d.x, .int .i64 d.y, .int .i64 d.z, (.slice (some ⟨w2.heap.size, 0, none⟩) n n), (.slice (some ⟨w2.heap.size + 1, 0, none⟩) (3 * n) (3 * n))] := by rw [hW6]; exact RB.out.five'
      have HB6 : Below w.heap.size w W6 := by rw [hW6]; exact below_five HB.out (Nat.le_succ _)
      have hbz := HB.out.size
      obtain ⟨WF, hWF⟩ : ∃ WF, WF = ((W6.alloc (.cells (madeCells #[.slice none 0 0] n) 22)).alloc (.cells (madeCells #[.slice none 0 0] (3 * n)) 22)).drew := ⟨_, rfl⟩
      rw [← hWF]
      have RF : Blk WF (w.heap.size + 1) 42 #[.int .i64 d.x, .int .i64 d.y, .int .i64 d.z, (.slice (some ⟨w2.heap.size, 0, none⟩) n n), (.slice (some ⟨w2.heap.size + 1, 0, none⟩) (3 * n) (3 * n))] := by rw [hWF]; exact (RB6.alloc _).alloc _
      have L1 : LO WF w.heap.size (.slice (some ⟨w2.heap.size, 0, none⟩) n n) (List.replicate n []) := by
        have := LO.made W6 w.heap.size n (by omega) (by omega)
        rw [hsz] at this
        rw [hWF]
        exact this.keep (by (repeat (first | (with_reducible exact Below.refl _ _) | (with_reducible assumption) | (with_reducible refine below_alloc ?_ _) | (with_reducible refine below_drewN ?_ _) | (with_reducible refine Below.drew ?_) | (with_reducible refine below_then ?_ (by with_reducible assumption)) | (with_reducible refine Below.setCell ?_ (by go_size) _))))
      have L2 : LO WF w.heap.size (.slice (some ⟨w2.heap.size + 1, 0, none⟩) (3 * n) (3 * n)) (List.replicate (3 * n) []) := by
        have := LO.made (W6.alloc (.cells (madeCells #[.slice none 0 0] n) 22)) w.heap.size (3 * n) (by simp; omega) (by omega)
        rw [show (W6.alloc (.cells (madeCells #[.slice none 0 0] n) 22)).heap.size = w2.heap.size + 1 by simp [hsz]] at this
        rw [hWF]
        exact this.keep (by (repeat (first | (with_reducible exact Below.refl _ _) | (with_reducible assumption) | (with_reducible refine below_alloc ?_ _) | (with_reducible refine below_drewN ?_ _) | (with_reducible refine Below.drew ?_) | (with_reducible refine below_then ?_ (by with_reducible assumption)) | (with_reducible refine Below.setCell ?_ (by go_size) _))))
      have HBF : Below w.heap.size w WF := by rw [hWF]; (repeat (first | (with_reducible exact Below.refl _ _) | (with_reducible assumption) | (with_reducible refine below_alloc ?_ _) | (with_reducible refine below_drewN ?_ _) | (with_reducible refine Below.drew ?_) | (with_reducible refine below_then ?_ (by with_reducible assumption)) | (with_reducible refine Below.setCell ?_ (by go_size) _)))
      have r0 := RF.cell 0 (.int .i64 d.x) rfl
      have r1 := RF.cell 1 (.int .i64 d.y) rfl
      have r2 := RF.cell 2 (.int .i64 d.z) rfl
      have r3 := RF.cell 3 (.slice (some ⟨w2.heap.size, 0, none⟩) n n) rfl
      have r4 := RF.cell 4 (.slice (some ⟨w2.heap.size + 1, 0, none⟩) (3 * n) (3 * n)) rfl
      go_wp2_with fail
      refine bodyPost_ret (by simp [results, Try.results57, go_sem, r0, r1, r2, r3, r4]; try rfl) rfl ?_
      exact ⟨_, _, rfl, L1, L2, HBF⟩
    · obtain ⟨W6, hW6⟩ : ∃ W6, W6 = (((((w2.setCell ⟨w.heap.size + 1, 0, none⟩ (.int .i64 d.x)).setCell ⟨w.heap.size + 1, 1, none⟩ (.int .i64 d.y)).setCell ⟨w.heap.size + 1, 2, none⟩ (.int .i64 d.z)).setCell ⟨w.heap.size + 1, 3, none⟩ (.slice (some ⟨w2.heap.size + 1, 0, none⟩) n n)).setCell ⟨w.heap.size + 1, 4, none⟩ (.slice (some ⟨w2.heap.size, 0, none⟩) (3 * n) (3 * n))) := ⟨_, rfl⟩
      rw [← hW6]
      have hsz : W6.heap.size = w2.heap.size := by rw [hW6, sz_set, sz_set, sz_set, sz_set, sz_set]
      have RB6 : Blk W6 (w.heap.size + 1) 42 #[.int .i64 d.x, .int .i64 d.y, .int .i64 d.z, (.slice (some ⟨w2.heap.size + 1, 0, none⟩) n n), (.slice (some ⟨w2.heap.size, 0, none⟩) (3 * n) (3 * n))] := by rw [hW6]; exact RB.out.five'
      have HB6 : Below w.heap.size w W6 := by rw [hW6]; exact below_five HB.out (Nat.le_succ _)
      have hbz := HB.out.size
      obtain ⟨WF, hWF⟩ : ∃ WF, WF = ((W6.alloc (.cells (madeCells #[.slice none 0 0] (3 * n)) 22)).alloc (.cells (madeCells #[.slice none 0 0] n) 22)).drew := ⟨_, rfl⟩
      rw [← hWF]
      have RF : Blk WF (w.heap.size + 1) 42 #[.int .i64 d.x, .int .i64 d.y, .int .i64 d.z, (.slice (some ⟨w2.heap.size + 1, 0, none⟩) n n), (.slice (some ⟨w2.heap.size, 0, none⟩) (3 * n) (3 * n))] := by rw [hWF]; exact (RB6.alloc _).alloc _
      have L1 : LO WF w.heap.size (.slice (some ⟨w2.heap.size, 0, none⟩) (3 * n) (3 * n)) (List.replicate (3 * n) []) := by
        have := LO.made W6 w.heap.size (3 * n) (by omega) (by omega)
        rw [hsz] at this
        rw [hWF]
        exact this.keep (by (repeat (first | (with_reducible exact Below.refl _ _) | (with_reducible assumption) | (with_reducible refine below_alloc ?_ _) | (with_reducible refine below_drewN ?_ _) | (with_reducible refine Below.drew ?_) | (with_reducible refine below_then ?_ (by with_reducible assumption)) | (with_reducible refine Below.setCell ?_ (by go_size) _))))
      have L2 : LO WF w.heap.size (.slice (some ⟨w2.heap.size + 1, 0, none⟩) n n) (List.replicate n []) := by
        have := LO.made (W6.alloc (.cells (madeCells #[.slice none 0 0] (3 * n)) 22)) w.heap.size n (by simp; omega) (by omega)
        rw [show (W6.alloc (.cells (madeCells #[.slice none 0 0] (3 * n)) 22)).heap.size = w2.heap.size + 1 by simp [hsz]] at this
        rw [hWF]
        exact this.keep (by (repeat (first | (with_reducible exact Below.refl _ _) | (with_reducible assumption) | (with_reducible refine below_alloc ?_ _) | (with_reducible refine below_drewN ?_ _) | (with_reducible refine Below.drew ?_) | (with_reducible refine below_then ?_ (by with_reducible assumption)) | (with_reducible refine Below.setCell ?_ (by go_size) _))))
      have HBF : Below w.heap.size w WF := by rw [hWF]; (repeat (first | (with_reducible exact Below.refl _ _) | (with_reducible assumption) | (with_reducible refine below_alloc ?_ _) | (with_reducible refine below_drewN ?_ _) | (with_reducible refine Below.drew ?_) | (with_reducible refine below_then ?_ (by with_reducible assumption)) | (with_reducible refine Below.setCell ?_ (by go_size) _)))
      have r0 := RF.cell 0 (.int .i64 d.x) rfl
      have r1 := RF.cell 1 (.int .i64 d.y) rfl
      have r2 := RF.cell 2 (.int .i64 d.z) rfl
      have r3 := RF.cell 3 (.slice (some ⟨w2.heap.size + 1, 0, none⟩) n n) rfl
      have r4 := RF.cell 4 (.slice (some ⟨w2.heap.size, 0, none⟩) (3 * n) (3 * n)) rfl
      go_wp2_with fail
      refine bodyPost_ret (by simp [results, Try.results57, go_sem, r0, r1, r2, r3, r4]; try rfl) rfl ?_
      exact ⟨_, _, rfl, L2, L1, HBF⟩
  · have hV : newV d = Yd.zero := by unfold newV; rw [if_neg h]
    rw [hV, V3.err_no h]
    rw [decide_eq_false h] at M
    clear h hV
    go_enter Try.func57, Try.ntmps57
    go_upto_region 1 with fail
    rw [← HW.out]
    have d0 := DB.out.cell 0 _ rfl
    have d1 := DB.out.cell 1 _ rfl
    have d2 := DB.out.cell 2 _ rfl
    go_wp2_with fail
    refine (M.out _).mono ?_
    rintro e w1 ⟨rfl, hb1⟩
    have RB := Lib.hid (RB.out.below hb1)
    have HB := Lib.hid (below_then HB.out hb1)
    clear hb1 d0 d1 d2
    (have q0 := RB.out.cell 0 _ rfl; have q1 := RB.out.cell 1 _ rfl; have q2 := RB.out.cell 2 _ rfl; have q3 := RB.out.cell 3 _ rfl; have q4 := RB.out.cell 4 _ rfl; have g0 := RB.out.frozen 0; have g1 := RB.out.frozen 1; have g2 := RB.out.frozen 2; have g3 := RB.out.frozen 3; have g4 := RB.out.frozen 4)
    go_wp2_with fail
    (have R0 := (RB.out).set 0 (.int .i64 0); have R1 := R0.set 1 (.int .i64 0); have R2 := R1.set 2 (.int .i64 0); have R3 := R2.set 3 (.slice none 0 0); have R4 := R3.set 4 (.slice none 0 0); have r0 := R0.cell 0 (.int .i64 0) rfl; have r1 := R1.cell 1 (.int .i64 0) rfl; have r2 := R2.cell 2 (.int .i64 0) rfl; have r3 := R3.cell 3 (.slice none 0 0) rfl; have r4 := R4.cell 4 (.slice none 0 0) rfl; clear R0 R1 R2 R3 R4; refine bodyPost_ret (by simp [results, Try.results57, go_sem, r0, r1, r2, r3, r4]; try rfl) rfl ?_)
    exact RYE.zero _ _ _ (by have hbF := HB.out; (repeat (first | (with_reducible exact Below.refl _ _) | (with_reducible assumption) | (with_reducible refine below_alloc ?_ _) | (with_reducible refine below_drewN ?_ _) | (with_reducible refine Below.drew ?_) | (with_reducible refine below_then ?_ (by with_reducible assumption)) | (with_reducible refine Below.setCell ?_ (by go_size) _))))
end

section
open Go.RowKit Go.Shelf

/-! ### the plain law -/
theorem putE_80 {c : List Sl} {s : Sl} (h : calE c = 0) (hs : s.may) : (putE c s == 80) = !clearB c s.f s.t := by
  have e : putE c s = if freeB c s.f s.t then if c.length = 4096 then 4 else 0 else 80 := by unfold putE; rw [if_pos h, if_pos hs]
  have hf := free_clear (calE_ok h).1 (f := s.f) (t := s.t) hs.1.1.2
  rw [e, ← hf]
  cases freeB c s.f s.t with
  | true =>
    rw [if_pos rfl]
    by_cases hl : c.length = 4096
    · rw [if_pos hl]; rfl
    · rw [if_neg hl]; rfl
  | false => rfl
theorem putE_4 {c : List Sl} {s : Sl} (h : calE c = 0) (hs : s.may) (hc : clearB c s.f s.t = true) : (putE c s == 4) = decide ((4096 : Int) ≤ (c.length : Nat)) := by
  have e : putE c s = if freeB c s.f s.t then if c.length = 4096 then 4 else 0 else 80 := by unfold putE; rw [if_pos h, if_pos hs]
  have hf := free_clear (calE_ok h).1 (f := s.f) (t := s.t) hs.1.1.2
  have hl4 := (calE_ok h).2
  rw [e, hf, hc, if_pos rfl]
  by_cases hl : c.length = 4096
  · rw [if_pos hl, decide_eq_true (by omega)]; rfl
  · rw [if_neg hl, decide_eq_false (by omega)]; rfl
theorem errTo_tk {z : Bool} {a : List Nat} {s : Sl} {ns : List (List Sl)} (hall : ∀ c ∈ ns, calE c = 0) (hs : s.may) : ∀ k, k ≤ ns.length → errTo 80 z a s ns k = (z || tkT a s.f s.t ns k)
  | 0, _ => by rw [errTo, tkT, Bool.or_false]
  | k + 1, hk => by
    have ih := errTo_tk (z := z) (a := a) hall hs k (by omega)
    have hc : ns[k]? = some ns[k] := List.getElem?_eq_getElem (by omega)
    rw [errTo, tkT, ih, hc]
    simp only [Option.getD_some]
    rw [putE_80 (hall _ (List.getElem_mem _)) hs]
    cases there a k with
    | false => rfl
    | true => rw [if_pos rfl, if_pos rfl, Bool.or_assoc]
theorem tkT_false {a : List Nat} {f t : Int} {ns : List (List Sl)} : ∀ {k : Nat}, tkT a f t ns k = false → ∀ i c, i < k → ns[i]? = some c → there a i = true → clearB c f t = true
  | 0, _, i, c, hi, _, _ => absurd hi (Nat.not_lt_zero _)
  | k + 1, h, i, c, hi, hc, ht => by
    rw [tkT] at h
    rcases Nat.lt_or_ge i k with hik | hik
    · refine tkT_false (k := k) ?_ i c hik hc ht
      cases hth : there a k with
      | false => rw [hth] at h; exact h
      | true => rw [hth, if_pos rfl, Bool.or_eq_false_iff] at h; exact h.1
    · obtain rfl : i = k := by omega
      rw [ht, if_pos rfl, Bool.or_eq_false_iff, hc] at h
      simpa using h.2
theorem errTo_mn {z : Bool} {a : List Nat} {s : Sl} {ns : List (List Sl)} (hall : ∀ c ∈ ns, calE c = 0) (hs : s.may) (hno : tkT a s.f s.t ns ns.length = false) : ∀ k, k ≤ ns.length → errTo 4 z a s ns k = (z || mnT a ns k)
  | 0, _ => by rw [errTo, mnT, Bool.or_false]
  | k + 1, hk => by
    have ih := errTo_mn (z := z) (a := a) hall hs hno k (by omega)
    have hc : ns[k]? = some ns[k] := List.getElem?_eq_getElem (by omega)
    rw [errTo, mnT, ih, hc]
    simp only [Option.getD_some]
    cases ht : there a k with
    | false => rfl
    | true =>
      rw [if_pos rfl, if_pos rfl, putE_4 (hall _ (List.getElem_mem _)) hs (tkT_false hno k _ (by omega) hc ht), Bool.or_assoc]
theorem putTo_at (a : List Nat) (s : Sl) (ns : List (List Sl)) : ∀ k i, (putTo a s ns k)[i]? = if i < k then some (putAt a s i (ns[i]?.getD [])) else none
  | 0, i => by rw [putTo, if_neg (Nat.not_lt_zero _)]; rfl
  | k + 1, i => by
    have hl := putTo_len a s ns k
    rw [putTo]
    rcases Nat.lt_trichotomy i k with h | h | h
    · rw [List.getElem?_append_left (by omega), putTo_at a s ns k i, if_pos h, if_pos (by omega)]
    · subst h
      rw [List.getElem?_append_right (by omega), if_pos (by omega), hl, Nat.sub_self]
      rfl
    · rw [List.getElem?_append_right (by omega), if_neg (by omega), hl]
      have : i - k ≠ 0 := by omega
      obtain ⟨m, hm⟩ : ∃ m, i - k = m + 1 := ⟨i - k - 1, by omega⟩
      rw [hm]
      rfl
theorem putTo_cal {a : List Nat} {s : Sl} {ns : List (List Sl)} (h0 : ∀ i c, ns[i]? = some c → there a i = true → putE c s = 0) : putTo a s ns ns.length = calTo a s ns ns.length := by
  refine List.ext_getElem? fun i => ?_
  rw [putTo_at, calAll_at]
  cases hc : ns[i]? with
  | none =>
    have := List.getElem?_eq_none_iff.1 hc
    rw [if_neg (by omega)]
    rfl
  | some c =>
    rw [if_pos (List.getElem?_eq_some_iff.1 hc).1, Option.map_some, Option.getD_some]
    congr 1
    unfold putAt pAt
    cases ht : there a i with
    | false => rfl
    | true =>
      have he := h0 i c hc ht
      rw [if_pos rfl, if_pos rfl, putV, if_pos he, withL_eq he]
theorem refMay_chk {n : Int} {ws : List Nat} (hn : nMay n) (hw : W64 ws) : refMay n ws = decide (sChk n ws = 0) := by
  rw [refMay_eq hn hw, sChk, if_pos hn]
  by_cases h : setMay n ws
  · rw [decide_eq_true h, okIf_yes h]; rfl
  · rw [decide_eq_false h, okIf_no h]; rfl
end

section
open Go.RowKit Go.Shelf

/-- The frame of the document's Put, behind its first boxes. -/
structure QFr (w W : World) (d : V3) (bn bl : Option Addr) (cn cl : Nat) (ns ls : List (List Sl)) (s : Sl) : Prop where
  y : Blk W w.heap.size 42 #[.int .i64 d.x, .int .i64 d.y, .int .i64 d.z, (.slice bn ns.length cn), (.slice bl ls.length cl)]
  p : Blk W (w.heap.size + 1) 24 #[.int .i64 s.f, .int .i64 s.t]
  r : Blk W (w.heap.size + 1 + 1) 42 #[.int .i64 0, .int .i64 0, .int .i64 0, .slice none 0 0, .slice none 0 0]
  b : Below w.heap.size w W
theorem QFr.keep {w W W' : World} {d : V3} {bn bl : Option Addr} {cn cl : Nat} {ns ls : List (List Sl)} {s : Sl} (h : QFr w W d bn bl cn cl ns ls s) (hb : Below W.heap.size W W') : QFr w W' d bn bl cn cl ns ls s :=
  ⟨h.y.below hb, h.p.below hb, h.r.below hb, below_then h.b hb⟩
theorem QFr.new (w : World) (d : V3) (bn bl : Option Addr) (cn cl : Nat) (ns ls : List (List Sl)) (s : Sl) : QFr w (((w.alloc (.cells #[.int .i64 d.x, .int .i64 d.y, .int .i64 d.z, (.slice bn ns.length cn), (.slice bl ls.length cl)] 42)).alloc (.cells #[.int .i64 s.f, .int .i64 s.t] 24)).alloc (.cells #[.int .i64 0, .int .i64 0, .int .i64 0, .slice none 0 0, .slice none 0 0] 42)) d bn bl cn cl ns ls s := by
  have e1 : w.heap.size + 1 = (w.alloc (.cells #[.int .i64 d.x, .int .i64 d.y, .int .i64 d.z, (.slice bn ns.length cn), (.slice bl ls.length cl)] 42)).heap.size := by simp
  have e2 : w.heap.size + 1 + 1 = ((w.alloc (.cells #[.int .i64 d.x, .int .i64 d.y, .int .i64 d.z, (.slice bn ns.length cn), (.slice bl ls.length cl)] 42)).alloc (.cells #[.int .i64 s.f, .int .i64 s.t] 24)).heap.size := by simp
  refine ⟨((Blk.new ..).alloc _).alloc _, ?_, ?_, by (repeat (first | (with_reducible exact Below.refl _ _) | (with_reducible assumption) | (with_reducible refine below_alloc ?_ _) | (with_reducible refine below_drewN ?_ _) | (with_reducible refine Below.drew ?_) | (with_reducible refine below_then ?_ (by with_reducible assumption)) | (with_reducible refine Below.setCell ?_ (by go_size) _)))⟩
  · rw [e1]; exact (Blk.new ..).alloc _
  · rw [e2]; exact Blk.new ..
set_option maxRecDepth 100000 in set_option maxHeartbeats 4000000 in
theorem ref09_Put (d : V3) (bn bl : Option Addr) (cn cl : Nat) (ns ls : List (List Sl)) (bm bk : Option Addr) (cm ck : Nat) (ms ks : List Nat) (s : Sl) (w : World) (hn : CC w bn ns) (hl : CC w bl ls) (hm : SetIn w bm ms) (hk : SetIn w bk ks) :
    Calls Try.prog 51 #[.agg #[.int .i64 d.x, .int .i64 d.y, .int .i64 d.z, (.slice bn ns.length cn), (.slice bl ls.length cl)], .int .i64 s.o, .slice bm ms.length cm, .slice bk ks.length ck, .agg #[.int .i64 s.f, .int .i64 s.t]] w (RYE w (yPutV ⟨d, ns, ls⟩ ms ks s) (yPutE ⟨d, ns, ls⟩ ms ks s)) := by
  obtain ⟨W0, hW0⟩ : ∃ W0, W0 = (((w.alloc (.cells #[.int .i64 d.x, .int .i64 d.y, .int .i64 d.z, (.slice bn ns.length cn), (.slice bl ls.length cl)] 42)).alloc (.cells #[.int .i64 s.f, .int .i64 s.t] 24)).alloc (.cells #[.int .i64 0, .int .i64 0, .int .i64 0, .slice none 0 0, .slice none 0 0] 42)) := ⟨_, rfl⟩
  have F := Lib.hid (show QFr w W0 d bn bl cn cl ns ls s by rw [hW0]; exact QFr.new ..)
  have M1 := Lib.hid (fun W (h : Below w.heap.size w W) => ref09_May d bn bl cn cl ns ls W (hn.keep h) (hl.keep h))
  have M2 := Lib.hid (fun W => ref08_MaySlot s W)
  have B1 := Lib.hid (fun W (h : Below w.heap.size w W) => ref09_blocked bn cn ns bm cm ms s.f s.t W (hn.keep h) (hm.keep h))
  have B2 := Lib.hid (fun W (h : Below w.heap.size w W) => ref09_blocked bl cl ls bk ck ks s.f s.t W (hl.keep h) (hk.keep h))
  have hn9 := hn.many
  have hl9 := hl.many
  have HN := Lib.hid hn
  have HL := Lib.hid hl
  have HM := Lib.hid hm
  have HK := Lib.hid hk
  have HW := Lib.hid hW0
  clear hn hl hm hk hW0
  cases hok : Yd.okB ⟨d, ns, ls⟩ with
  | false =>
    have hE : yPutE ⟨d, ns, ls⟩ ms ks s = 8 := by unfold yPutE; rw [hok]; rfl
    have hV : yPutV ⟨d, ns, ls⟩ ms ks s = Yd.zero := by unfold yPutV; rw [hE]; rfl
    have HEV := Lib.hid (And.intro hE hV)
    rw [hE, hV]
    rw [hok] at M1
    clear hE hV hok
    (go_enter Try.func51, Try.ntmps51; go_upto_region 1 with fail; rw [← HW.out]; (have y0 := F.out.y.cell 0 _ rfl; have y1 := F.out.y.cell 1 _ rfl; have y2 := F.out.y.cell 2 _ rfl; have y3 := F.out.y.cell 3 _ rfl; have y4 := F.out.y.cell 4 _ rfl); go_wp2_with fail; refine (M1.out _ F.out.b).mono ?_; rintro e w1 ⟨rfl, hb1⟩; have F := Lib.hid (F.out.keep hb1); have hRw := Lib.hid F.out.r.lt; clear hb1 y0 y1 y2 y3 y4)
    (have q0 := F.out.r.cell 0 _ rfl; have q1 := F.out.r.cell 1 _ rfl; have q2 := F.out.r.cell 2 _ rfl; have q3 := F.out.r.cell 3 _ rfl; have q4 := F.out.r.cell 4 _ rfl; have g0 := F.out.r.frozen 0; have g1 := F.out.r.frozen 1; have g2 := F.out.r.frozen 2; have g3 := F.out.r.frozen 3; have g4 := F.out.r.frozen 4)
    go_wp2_with fail
    (have R0 := (F.out.r).set 0 (.int .i64 0); have R1 := R0.set 1 (.int .i64 0); have R2 := R1.set 2 (.int .i64 0); have R3 := R2.set 3 (.slice none 0 0); have R4 := R3.set 4 (.slice none 0 0); have r0 := R0.cell 0 (.int .i64 0) rfl; have r1 := R1.cell 1 (.int .i64 0) rfl; have r2 := R2.cell 2 (.int .i64 0) rfl; have r3 := R3.cell 3 (.slice none 0 0) rfl; have r4 := R4.cell 4 (.slice none 0 0) rfl; clear R0 R1 R2 R3 R4; refine bodyPost_ret (by simp [results, Try.results51, go_sem, r0, r1, r2, r3, r4]; try rfl) rfl ?_)
    exact RYE.zero _ _ _ (by have hbF := F.out.b; (repeat (first | (with_reducible exact Below.refl _ _) | (with_reducible assumption) | (with_reducible refine below_alloc ?_ _) | (with_reducible refine below_drewN ?_ _) | (with_reducible refine Below.drew ?_) | (with_reducible refine below_then ?_ (by with_reducible assumption)) | (with_reducible refine Below.setCell ?_ (by go_size) _))))
  | true =>
    have hMany := Yd.ok_many hok
    have hAll := Yd.ok_all hok
    have hLen := Yd.ok_len hok
    rw [hok] at M1
    have HOK := Lib.hid hok
    have hm3 : nMay (3 * (ns.length : Int)) := by rw [← hLen]; exact hMany.2
    have M3 := Lib.hid (fun W (h : Below w.heap.size w W) => by have := ref03_May ns.length bm cm ms W (HM.out.keep h) hMany.1; rw [refMay_chk hMany.1 HM.out.fit] at this; exact this)
    have M4 := Lib.hid (fun W (h : Below w.heap.size w W) => by have := ref03_May (3 * (ns.length : Int)) bk ck ks W (HK.out.keep h) hm3; rw [refMay_chk hm3 HK.out.fit] at this; exact this)
    clear hok
    by_cases c1 : sChk ns.length ms = 0
    · by_cases c2 : sChk (3 * (ns.length : Int)) ks = 0
      · rw [decide_eq_true c1] at M3
        rw [decide_eq_true c2] at M4
        by_cases hs : s.may
        · rw [decide_eq_true hs] at M2
          have hE : yPutE ⟨d, ns, ls⟩ ms ks s = if yTk 80 ⟨d, ns, ls⟩ ms ks s then 80 else if yTk 4 ⟨d, ns, ls⟩ ms ks s then 4 else 0 := by unfold yPutE; rw [if_pos HOK.out, if_pos c1, if_pos c2, if_pos hs]
          have hT80 : yTk 80 ⟨d, ns, ls⟩ ms ks s = (tkT ms s.f s.t ns ns.length || tkT ks s.f s.t ls ls.length) := by
            unfold yTk
            rw [errTo_tk hAll.2 hs _ (Nat.le_refl _), errTo_tk hAll.1 hs _ (Nat.le_refl _), Bool.false_or]
          have hT4 : tkT ms s.f s.t ns ns.length = false → tkT ks s.f s.t ls ls.length = false → yTk 4 ⟨d, ns, ls⟩ ms ks s = (mnT ms ns ns.length || mnT ks ls ls.length) := by
            intro h1 h2
            unfold yTk
            rw [errTo_mn hAll.2 hs h2 _ (Nat.le_refl _), errTo_mn hAll.1 hs h1 _ (Nat.le_refl _), Bool.false_or]
          have P1 := Lib.hid (fun (h : yPutE ⟨d, ns, ls⟩ ms ks s = 0) W (hb : Below w.heap.size w W) => by
            have := ref09_puts bn cn ns bm cm ms s W (HN.out.keep hb) (HM.out.keep hb) (fun i c hc _ => by have := (calE_ok (hAll.1 c (List.mem_of_getElem? hc))).2; omega)
            rw [putTo_cal (yPut_ok h).n0] at this
            exact this)
          have P2 := Lib.hid (fun (h : yPutE ⟨d, ns, ls⟩ ms ks s = 0) W (hb : Below w.heap.size w W) => by
            have := ref09_puts bl cl ls bk ck ks s W (HL.out.keep hb) (HK.out.keep hb) (fun i c hc _ => by have := (calE_ok (hAll.2 c (List.mem_of_getElem? hc))).2; omega)
            rw [putTo_cal (yPut_ok h).l0] at this
            exact this)
          generalize tkT ms s.f s.t ns ns.length = k1 at *
          generalize tkT ks s.f s.t ls ls.length = k2 at *
          generalize mnT ms ns ns.length = n1 at *
          generalize mnT ks ls ls.length = n2 at *
          have HE := Lib.hid hE
          have HT80 := Lib.hid hT80
          have HT4 := Lib.hid hT4
          clear hE hT80 hT4 c1 c2 hs hMany hAll hLen hm3
          by_cases h80 : (k1 || k2) = true
          · have hE : yPutE ⟨d, ns, ls⟩ ms ks s = 80 := by rw [HE.out, HT80.out, if_pos h80]
            have hV : yPutV ⟨d, ns, ls⟩ ms ks s = Yd.zero := by unfold yPutV; rw [hE]; rfl
            have HEV := Lib.hid (And.intro hE hV)
            clear hE hV
            cases k1 <;> cases k2 <;> first | (exact absurd h80 (by decide)) | skip
            all_goals
              clear h80
              (go_enter Try.func51, Try.ntmps51; go_upto_region 1 with fail; rw [← HW.out]; (have y0 := F.out.y.cell 0 _ rfl; have y1 := F.out.y.cell 1 _ rfl; have y2 := F.out.y.cell 2 _ rfl; have y3 := F.out.y.cell 3 _ rfl; have y4 := F.out.y.cell 4 _ rfl); go_wp2_with fail; refine (M1.out _ F.out.b).mono ?_; rintro e w1 ⟨rfl, hb1⟩; have F := Lib.hid (F.out.keep hb1); have hRw := Lib.hid F.out.r.lt; clear hb1 y0 y1 y2 y3 y4)
              ((have y0 := F.out.y.cell 0 _ rfl; have y1 := F.out.y.cell 1 _ rfl; have y2 := F.out.y.cell 2 _ rfl; have y3 := F.out.y.cell 3 _ rfl; have y4 := F.out.y.cell 4 _ rfl); (have s0 := F.out.p.cell 0 _ rfl; have s1 := F.out.p.cell 1 _ rfl); go_upto_region 7 with (first | ((with_reducible refine (M3.out _ F.out.b).mono ?_); rintro e w3 ⟨rfl, hw3⟩; have hw3 := hw3.symm; subst hw3) | ((with_reducible refine (M4.out _ F.out.b).mono ?_); rintro e w3 ⟨rfl, hw3⟩; have hw3 := hw3.symm; subst hw3)); obtain ⟨W1, hW1⟩ : ∃ W1, W1 = w1.alloc (.cells #[.int .i64 s.f, .int .i64 s.t, .int .i64 s.o] 57) := ⟨_, rfl⟩; rw [← hW1]; have hb1 : Below w1.heap.size w1 W1 := (by rw [hW1]; (repeat (first | (with_reducible exact Below.refl _ _) | (with_reducible assumption) | (with_reducible refine below_alloc ?_ _) | (with_reducible refine below_drewN ?_ _) | (with_reducible refine Below.drew ?_) | (with_reducible refine below_then ?_ (by with_reducible assumption)) | (with_reducible refine Below.setCell ?_ (by go_size) _)))); have F := Lib.hid (F.out.keep hb1); have SB := Lib.hid (show Blk W1 w1.heap.size 57 #[.int .i64 s.f, .int .i64 s.t, .int .i64 s.o] by rw [hW1]; exact Blk.new ..); clear hb1 hW1 y0 y1 y2 y3 y4 s0 s1; have s0 := SB.out.cell 0 _ rfl; have s1 := SB.out.cell 1 _ rfl; have s2 := SB.out.cell 2 _ rfl; go_wp2_with fail; refine (M2.out _).mono ?_; rintro e w2 ⟨rfl, hb2⟩; have F := Lib.hid (F.out.keep hb2); have SB := Lib.hid (SB.out.below hb2); clear hb2 s0 s1 s2)
              ((have y0 := F.out.y.cell 0 _ rfl; have y1 := F.out.y.cell 1 _ rfl; have y2 := F.out.y.cell 2 _ rfl; have y3 := F.out.y.cell 3 _ rfl; have y4 := F.out.y.cell 4 _ rfl); (have s0 := F.out.p.cell 0 _ rfl; have s1 := F.out.p.cell 1 _ rfl); go_wp2_with fail; refine (B1.out _ F.out.b).mono ?_; rintro e w3 ⟨rfl, hb⟩; have F := Lib.hid (F.out.keep hb); have SB := Lib.hid (SB.out.below hb); clear hb y0 y1 y2 y3 y4 s0 s1; (have y0 := F.out.y.cell 0 _ rfl; have y1 := F.out.y.cell 1 _ rfl; have y2 := F.out.y.cell 2 _ rfl; have y3 := F.out.y.cell 3 _ rfl; have y4 := F.out.y.cell 4 _ rfl); (have s0 := F.out.p.cell 0 _ rfl; have s1 := F.out.p.cell 1 _ rfl); go_wp2_with fail; refine (B2.out _ F.out.b).mono ?_; rintro e w4 ⟨rfl, hb⟩; have F := Lib.hid (F.out.keep hb); have SB := Lib.hid (SB.out.below hb); clear hb y0 y1 y2 y3 y4 s0 s1)
              (have q0 := F.out.r.cell 0 _ rfl; have q1 := F.out.r.cell 1 _ rfl; have q2 := F.out.r.cell 2 _ rfl; have q3 := F.out.r.cell 3 _ rfl; have q4 := F.out.r.cell 4 _ rfl; have g0 := F.out.r.frozen 0; have g1 := F.out.r.frozen 1; have g2 := F.out.r.frozen 2; have g3 := F.out.r.frozen 3; have g4 := F.out.r.frozen 4)
              go_wp2_with fail
              ((have R0 := (F.out.r).set 0 (.int .i64 0); have R1 := R0.set 1 (.int .i64 0); have R2 := R1.set 2 (.int .i64 0); have R3 := R2.set 3 (.slice none 0 0); have R4 := R3.set 4 (.slice none 0 0); have r0 := R0.cell 0 (.int .i64 0) rfl; have r1 := R1.cell 1 (.int .i64 0) rfl; have r2 := R2.cell 2 (.int .i64 0) rfl; have r3 := R3.cell 3 (.slice none 0 0) rfl; have r4 := R4.cell 4 (.slice none 0 0) rfl; clear R0 R1 R2 R3 R4; refine bodyPost_ret (by simp [results, Try.results51, go_sem, r0, r1, r2, r3, r4]; try rfl) rfl ?_); (try rw [HEV.out.1, HEV.out.2]); exact RYE.zero _ _ _ (by have hbF := F.out.b; (repeat (first | (with_reducible exact Below.refl _ _) | (with_reducible assumption) | (with_reducible refine below_alloc ?_ _) | (with_reducible refine below_drewN ?_ _) | (with_reducible refine Below.drew ?_) | (with_reducible refine below_then ?_ (by with_reducible assumption)) | (with_reducible refine Below.setCell ?_ (by go_size) _)))))
          · obtain ⟨rfl, rfl⟩ : k1 = false ∧ k2 = false := by cases k1 <;> cases k2 <;> simp at h80 ⊢
            clear h80
            have hT4 := HT4.out rfl rfl
            by_cases h4 : (n1 || n2) = true
            · have hE : yPutE ⟨d, ns, ls⟩ ms ks s = 4 := by rw [HE.out, HT80.out, if_neg (by decide), hT4, if_pos h4]
              have hV : yPutV ⟨d, ns, ls⟩ ms ks s = Yd.zero := by unfold yPutV; rw [hE]; rfl
              have HEV := Lib.hid (And.intro hE hV)
              clear hE hV hT4
              cases n1 <;> cases n2 <;> first | (exact absurd h4 (by decide)) | skip
              all_goals
                clear h4
                (go_enter Try.func51, Try.ntmps51; go_upto_region 1 with fail; rw [← HW.out]; (have y0 := F.out.y.cell 0 _ rfl; have y1 := F.out.y.cell 1 _ rfl; have y2 := F.out.y.cell 2 _ rfl; have y3 := F.out.y.cell 3 _ rfl; have y4 := F.out.y.cell 4 _ rfl); go_wp2_with fail; refine (M1.out _ F.out.b).mono ?_; rintro e w1 ⟨rfl, hb1⟩; have F := Lib.hid (F.out.keep hb1); have hRw := Lib.hid F.out.r.lt; clear hb1 y0 y1 y2 y3 y4)
                ((have y0 := F.out.y.cell 0 _ rfl; have y1 := F.out.y.cell 1 _ rfl; have y2 := F.out.y.cell 2 _ rfl; have y3 := F.out.y.cell 3 _ rfl; have y4 := F.out.y.cell 4 _ rfl); (have s0 := F.out.p.cell 0 _ rfl; have s1 := F.out.p.cell 1 _ rfl); go_upto_region 7 with (first | ((with_reducible refine (M3.out _ F.out.b).mono ?_); rintro e w3 ⟨rfl, hw3⟩; have hw3 := hw3.symm; subst hw3) | ((with_reducible refine (M4.out _ F.out.b).mono ?_); rintro e w3 ⟨rfl, hw3⟩; have hw3 := hw3.symm; subst hw3)); obtain ⟨W1, hW1⟩ : ∃ W1, W1 = w1.alloc (.cells #[.int .i64 s.f, .int .i64 s.t, .int .i64 s.o] 57) := ⟨_, rfl⟩; rw [← hW1]; have hb1 : Below w1.heap.size w1 W1 := (by rw [hW1]; (repeat (first | (with_reducible exact Below.refl _ _) | (with_reducible assumption) | (with_reducible refine below_alloc ?_ _) | (with_reducible refine below_drewN ?_ _) | (with_reducible refine Below.drew ?_) | (with_reducible refine below_then ?_ (by with_reducible assumption)) | (with_reducible refine Below.setCell ?_ (by go_size) _)))); have F := Lib.hid (F.out.keep hb1); have SB := Lib.hid (show Blk W1 w1.heap.size 57 #[.int .i64 s.f, .int .i64 s.t, .int .i64 s.o] by rw [hW1]; exact Blk.new ..); clear hb1 hW1 y0 y1 y2 y3 y4 s0 s1; have s0 := SB.out.cell 0 _ rfl; have s1 := SB.out.cell 1 _ rfl; have s2 := SB.out.cell 2 _ rfl; go_wp2_with fail; refine (M2.out _).mono ?_; rintro e w2 ⟨rfl, hb2⟩; have F := Lib.hid (F.out.keep hb2); have SB := Lib.hid (SB.out.below hb2); clear hb2 s0 s1 s2)
                ((have y0 := F.out.y.cell 0 _ rfl; have y1 := F.out.y.cell 1 _ rfl; have y2 := F.out.y.cell 2 _ rfl; have y3 := F.out.y.cell 3 _ rfl; have y4 := F.out.y.cell 4 _ rfl); (have s0 := F.out.p.cell 0 _ rfl; have s1 := F.out.p.cell 1 _ rfl); go_wp2_with fail; refine (B1.out _ F.out.b).mono ?_; rintro e w3 ⟨rfl, hb⟩; have F := Lib.hid (F.out.keep hb); have SB := Lib.hid (SB.out.below hb); clear hb y0 y1 y2 y3 y4 s0 s1; (have y0 := F.out.y.cell 0 _ rfl; have y1 := F.out.y.cell 1 _ rfl; have y2 := F.out.y.cell 2 _ rfl; have y3 := F.out.y.cell 3 _ rfl; have y4 := F.out.y.cell 4 _ rfl); (have s0 := F.out.p.cell 0 _ rfl; have s1 := F.out.p.cell 1 _ rfl); go_wp2_with fail; refine (B2.out _ F.out.b).mono ?_; rintro e w4 ⟨rfl, hb⟩; have F := Lib.hid (F.out.keep hb); have SB := Lib.hid (SB.out.below hb); clear hb y0 y1 y2 y3 y4 s0 s1)
                (have q0 := F.out.r.cell 0 _ rfl; have q1 := F.out.r.cell 1 _ rfl; have q2 := F.out.r.cell 2 _ rfl; have q3 := F.out.r.cell 3 _ rfl; have q4 := F.out.r.cell 4 _ rfl; have g0 := F.out.r.frozen 0; have g1 := F.out.r.frozen 1; have g2 := F.out.r.frozen 2; have g3 := F.out.r.frozen 3; have g4 := F.out.r.frozen 4)
                go_wp2_with fail
                ((have R0 := (F.out.r).set 0 (.int .i64 0); have R1 := R0.set 1 (.int .i64 0); have R2 := R1.set 2 (.int .i64 0); have R3 := R2.set 3 (.slice none 0 0); have R4 := R3.set 4 (.slice none 0 0); have r0 := R0.cell 0 (.int .i64 0) rfl; have r1 := R1.cell 1 (.int .i64 0) rfl; have r2 := R2.cell 2 (.int .i64 0) rfl; have r3 := R3.cell 3 (.slice none 0 0) rfl; have r4 := R4.cell 4 (.slice none 0 0) rfl; clear R0 R1 R2 R3 R4; refine bodyPost_ret (by simp [results, Try.results51, go_sem, r0, r1, r2, r3, r4]; try rfl) rfl ?_); (try rw [HEV.out.1, HEV.out.2]); exact RYE.zero _ _ _ (by have hbF := F.out.b; (repeat (first | (with_reducible exact Below.refl _ _) | (with_reducible assumption) | (with_reducible refine below_alloc ?_ _) | (with_reducible refine below_drewN ?_ _) | (with_reducible refine Below.drew ?_) | (with_reducible refine below_then ?_ (by with_reducible assumption)) | (with_reducible refine Below.setCell ?_ (by go_size) _)))))
            · obtain ⟨rfl, rfl⟩ : n1 = false ∧ n2 = false := by cases n1 <;> cases n2 <;> simp at h4 ⊢
              have hE : yPutE ⟨d, ns, ls⟩ ms ks s = 0 := by rw [HE.out, HT80.out, if_neg (by decide), hT4, if_neg (by decide)]
              have hV : yPutV ⟨d, ns, ls⟩ ms ks s = ⟨d, calTo ms s ns ns.length, calTo ks s ls ls.length⟩ := by unfold yPutV; rw [if_pos hE]
              have HEV := Lib.hid (And.intro hE hV)
              have P1 := Lib.hid (P1.out hE)
              have P2 := Lib.hid (P2.out hE)
              have L1 := Lib.hid (calTo_len ms s ns ns.length)
              have L2 := Lib.hid (calTo_len ks s ls ls.length)
              generalize calTo ms s ns ns.length = x1 at *
              generalize calTo ks s ls ls.length = x2 at *
              clear hE hV hT4 h4
              (go_enter Try.func51, Try.ntmps51; go_upto_region 1 with fail; rw [← HW.out]; (have y0 := F.out.y.cell 0 _ rfl; have y1 := F.out.y.cell 1 _ rfl; have y2 := F.out.y.cell 2 _ rfl; have y3 := F.out.y.cell 3 _ rfl; have y4 := F.out.y.cell 4 _ rfl); go_wp2_with fail; refine (M1.out _ F.out.b).mono ?_; rintro e w1 ⟨rfl, hb1⟩; have F := Lib.hid (F.out.keep hb1); have hRw := Lib.hid F.out.r.lt; clear hb1 y0 y1 y2 y3 y4)
              ((have y0 := F.out.y.cell 0 _ rfl; have y1 := F.out.y.cell 1 _ rfl; have y2 := F.out.y.cell 2 _ rfl; have y3 := F.out.y.cell 3 _ rfl; have y4 := F.out.y.cell 4 _ rfl); (have s0 := F.out.p.cell 0 _ rfl; have s1 := F.out.p.cell 1 _ rfl); go_upto_region 7 with (first | ((with_reducible refine (M3.out _ F.out.b).mono ?_); rintro e w3 ⟨rfl, hw3⟩; have hw3 := hw3.symm; subst hw3) | ((with_reducible refine (M4.out _ F.out.b).mono ?_); rintro e w3 ⟨rfl, hw3⟩; have hw3 := hw3.symm; subst hw3)); obtain ⟨W1, hW1⟩ : ∃ W1, W1 = w1.alloc (.cells #[.int .i64 s.f, .int .i64 s.t, .int .i64 s.o] 57) := ⟨_, rfl⟩; rw [← hW1]; have hb1 : Below w1.heap.size w1 W1 := (by rw [hW1]; (repeat (first | (with_reducible exact Below.refl _ _) | (with_reducible assumption) | (with_reducible refine below_alloc ?_ _) | (with_reducible refine below_drewN ?_ _) | (with_reducible refine Below.drew ?_) | (with_reducible refine below_then ?_ (by with_reducible assumption)) | (with_reducible refine Below.setCell ?_ (by go_size) _)))); have F := Lib.hid (F.out.keep hb1); have SB := Lib.hid (show Blk W1 w1.heap.size 57 #[.int .i64 s.f, .int .i64 s.t, .int .i64 s.o] by rw [hW1]; exact Blk.new ..); clear hb1 hW1 y0 y1 y2 y3 y4 s0 s1; have s0 := SB.out.cell 0 _ rfl; have s1 := SB.out.cell 1 _ rfl; have s2 := SB.out.cell 2 _ rfl; go_wp2_with fail; refine (M2.out _).mono ?_; rintro e w2 ⟨rfl, hb2⟩; have F := Lib.hid (F.out.keep hb2); have SB := Lib.hid (SB.out.below hb2); clear hb2 s0 s1 s2)
              ((have y0 := F.out.y.cell 0 _ rfl; have y1 := F.out.y.cell 1 _ rfl; have y2 := F.out.y.cell 2 _ rfl; have y3 := F.out.y.cell 3 _ rfl; have y4 := F.out.y.cell 4 _ rfl); (have s0 := F.out.p.cell 0 _ rfl; have s1 := F.out.p.cell 1 _ rfl); go_wp2_with fail; refine (B1.out _ F.out.b).mono ?_; rintro e w3 ⟨rfl, hb⟩; have F := Lib.hid (F.out.keep hb); have SB := Lib.hid (SB.out.below hb); clear hb y0 y1 y2 y3 y4 s0 s1; (have y0 := F.out.y.cell 0 _ rfl; have y1 := F.out.y.cell 1 _ rfl; have y2 := F.out.y.cell 2 _ rfl; have y3 := F.out.y.cell 3 _ rfl; have y4 := F.out.y.cell 4 _ rfl); (have s0 := F.out.p.cell 0 _ rfl; have s1 := F.out.p.cell 1 _ rfl); go_wp2_with fail; refine (B2.out _ F.out.b).mono ?_; rintro e w4 ⟨rfl, hb⟩; have F := Lib.hid (F.out.keep hb); have SB := Lib.hid (SB.out.below hb); clear hb y0 y1 y2 y3 y4 s0 s1)
              go_upto_region 15 with fail
              have P1 := Lib.hid (fun W (h : Below w4.heap.size w4 W) => P1.out W (below_then F.out.b h))
              have P2 := Lib.hid (fun W (h : Below w4.heap.size w4 W) => P2.out W (below_then F.out.b h))
              have hsz := F.out.b.size
              have hR := F.out.r.lt
              have hd1 : w.heap.size ≠ w.heap.size + 1 + 1 := by omega
              have hd2 : w.heap.size + 1 + 1 ≠ w.heap.size := by omega
              have hd3 : w.heap.size + 1 + 1 ≠ w1.heap.size := by have := hRw.out; omega
              have hd4 : w1.heap.size ≠ w.heap.size + 1 + 1 := by have := hRw.out; omega
              (have p0 := (F.out.keep (Below.refl _ _)).y.cell 0 _ rfl; have p1 := (F.out.keep (Below.refl _ _)).y.cell 1 _ rfl; have p2 := (F.out.keep (Below.refl _ _)).y.cell 2 _ rfl; have p3 := (F.out.keep (Below.refl _ _)).y.cell 3 _ rfl; have p4 := (F.out.keep (Below.refl _ _)).y.cell 4 _ rfl; have q0 := (F.out.keep (Below.refl _ _)).r.cell 0 _ rfl; have q1 := (F.out.keep (Below.refl _ _)).r.cell 1 _ rfl; have q2 := (F.out.keep (Below.refl _ _)).r.cell 2 _ rfl; have q3 := (F.out.keep (Below.refl _ _)).r.cell 3 _ rfl; have q4 := (F.out.keep (Below.refl _ _)).r.cell 4 _ rfl; have f0 := (F.out.keep (Below.refl _ _)).r.frozen 0; have f1 := (F.out.keep (Below.refl _ _)).r.frozen 1; have f2 := (F.out.keep (Below.refl _ _)).r.frozen 2; have f3 := (F.out.keep (Below.refl _ _)).r.frozen 3; have f4 := (F.out.keep (Below.refl _ _)).r.frozen 4; have c0 := (SB.out.below (Below.refl _ _)).cell 0 _ rfl; have c1 := (SB.out.below (Below.refl _ _)).cell 1 _ rfl; have c2 := (SB.out.below (Below.refl _ _)).cell 2 _ rfl; simp at p0 p1 p2 p3 p4 q0 q1 q2 q3 q4 c0 c1 c2)
              have mixed : Try.prog.follows .mixedOrders = true := by kernel_rfl
              go_region_held3 (fun W => (W.cell? ⟨w.heap.size, 0, none⟩ = some (.int .i64 d.x) ∧ W.cell? ⟨w.heap.size, 1, none⟩ = some (.int .i64 d.y) ∧ W.cell? ⟨w.heap.size, 2, none⟩ = some (.int .i64 d.z) ∧ W.cell? ⟨w.heap.size, 3, none⟩ = some (.slice bn ns.length cn) ∧ W.cell? ⟨w.heap.size, 4, none⟩ = some (.slice bl ls.length cl) ∧ W.cell? ⟨w1.heap.size, 0, none⟩ = some (.int .i64 s.f) ∧ W.cell? ⟨w1.heap.size, 1, none⟩ = some (.int .i64 s.t) ∧ W.cell? ⟨w1.heap.size, 2, none⟩ = some (.int .i64 s.o))) (go_keep)
                (first
                  | ((with_reducible refine (P1.out _ (by (repeat (first | (with_reducible exact Below.refl _ _) | (with_reducible assumption) | (with_reducible refine below_alloc ?_ _) | (with_reducible refine below_drewN ?_ _) | (with_reducible refine Below.drew ?_) | (with_reducible refine below_then ?_ (by with_reducible assumption)) | (with_reducible refine Below.setCell ?_ (by go_size) _))))).mono ?_); rintro e wa ⟨va, rfl, hoa, hba⟩; obtain ⟨xa, ya, rfl⟩ := hoa.slice; have hza := hba.size; (try simp at hza); have HBa := below_then (show Below w4.heap.size w4 _ by (repeat (first | (with_reducible exact Below.refl _ _) | (with_reducible assumption) | (with_reducible refine below_alloc ?_ _) | (with_reducible refine below_drewN ?_ _) | (with_reducible refine Below.drew ?_) | (with_reducible refine below_then ?_ (by with_reducible assumption)) | (with_reducible refine Below.setCell ?_ (by go_size) _)))) hba; (have p0 := (F.out.keep (HBa)).y.cell 0 _ rfl; have p1 := (F.out.keep (HBa)).y.cell 1 _ rfl; have p2 := (F.out.keep (HBa)).y.cell 2 _ rfl; have p3 := (F.out.keep (HBa)).y.cell 3 _ rfl; have p4 := (F.out.keep (HBa)).y.cell 4 _ rfl; have q0 := (F.out.keep (HBa)).r.cell 0 _ rfl; have q1 := (F.out.keep (HBa)).r.cell 1 _ rfl; have q2 := (F.out.keep (HBa)).r.cell 2 _ rfl; have q3 := (F.out.keep (HBa)).r.cell 3 _ rfl; have q4 := (F.out.keep (HBa)).r.cell 4 _ rfl; have f0 := (F.out.keep (HBa)).r.frozen 0; have f1 := (F.out.keep (HBa)).r.frozen 1; have f2 := (F.out.keep (HBa)).r.frozen 2; have f3 := (F.out.keep (HBa)).r.frozen 3; have f4 := (F.out.keep (HBa)).r.frozen 4; have c0 := (SB.out.below (HBa)).cell 0 _ rfl; have c1 := (SB.out.below (HBa)).cell 1 _ rfl; have c2 := (SB.out.below (HBa)).cell 2 _ rfl; simp at p0 p1 p2 p3 p4 q0 q1 q2 q3 q4 c0 c1 c2))
                  | ((with_reducible refine (P2.out _ (by (repeat (first | (with_reducible exact Below.refl _ _) | (with_reducible assumption) | (with_reducible refine below_alloc ?_ _) | (with_reducible refine below_drewN ?_ _) | (with_reducible refine Below.drew ?_) | (with_reducible refine below_then ?_ (by with_reducible assumption)) | (with_reducible refine Below.setCell ?_ (by go_size) _))))).mono ?_); rintro e wb ⟨vb, rfl, hob, hbb⟩; obtain ⟨xb, yb, rfl⟩ := hob.slice; have hzb := hbb.size; (try simp at hzb); have HBb := below_then (show Below w4.heap.size w4 _ by (repeat (first | (with_reducible exact Below.refl _ _) | (with_reducible assumption) | (with_reducible refine below_alloc ?_ _) | (with_reducible refine below_drewN ?_ _) | (with_reducible refine Below.drew ?_) | (with_reducible refine below_then ?_ (by with_reducible assumption)) | (with_reducible refine Below.setCell ?_ (by go_size) _)))) hbb; (have p0 := (F.out.keep (HBb)).y.cell 0 _ rfl; have p1 := (F.out.keep (HBb)).y.cell 1 _ rfl; have p2 := (F.out.keep (HBb)).y.cell 2 _ rfl; have p3 := (F.out.keep (HBb)).y.cell 3 _ rfl; have p4 := (F.out.keep (HBb)).y.cell 4 _ rfl; have q0 := (F.out.keep (HBb)).r.cell 0 _ rfl; have q1 := (F.out.keep (HBb)).r.cell 1 _ rfl; have q2 := (F.out.keep (HBb)).r.cell 2 _ rfl; have q3 := (F.out.keep (HBb)).r.cell 3 _ rfl; have q4 := (F.out.keep (HBb)).r.cell 4 _ rfl; have f0 := (F.out.keep (HBb)).r.frozen 0; have f1 := (F.out.keep (HBb)).r.frozen 1; have f2 := (F.out.keep (HBb)).r.frozen 2; have f3 := (F.out.keep (HBb)).r.frozen 3; have f4 := (F.out.keep (HBb)).r.frozen 4; have c0 := (SB.out.below (HBb)).cell 0 _ rfl; have c1 := (SB.out.below (HBb)).cell 1 _ rfl; have c2 := (SB.out.below (HBb)).cell 2 _ rfl; simp at p0 p1 p2 p3 p4 q0 q1 q2 q3 q4 c0 c1 c2)))
              go_wp2_with fail
              (have R0 := ((F.out.keep HBb).r).set 0 (.int .i64 d.x); have R1 := R0.set 1 (.int .i64 d.y); have R2 := R1.set 2 (.int .i64 d.z); have R3 := R2.set 3 (.slice xa x1.length ya); have R4 := R3.set 4 (.slice xb x2.length yb); have r0 := R0.cell 0 (.int .i64 d.x) rfl; have r1 := R1.cell 1 (.int .i64 d.y) rfl; have r2 := R2.cell 2 (.int .i64 d.z) rfl; have r3 := R3.cell 3 (.slice xa x1.length ya) rfl; have r4 := R4.cell 4 (.slice xb x2.length yb) rfl; clear R0 R1 R2 R3 R4; refine bodyPost_ret (by simp [results, Try.results51, go_sem, r0, r1, r2, r3, r4]; try rfl) rfl ?_)
              rw [HEV.out.1, HEV.out.2]
              have hbF := below_then F.out.b HBb
              exact ⟨_, _, rfl, LO.five (hoa.keep hbb) (by first | exact hR | omega) (by first | exact hsz | omega), LO.five hob (by first | exact hR | omega) (by first | exact hsz | omega), by (repeat (first | (with_reducible exact Below.refl _ _) | (with_reducible assumption) | (with_reducible refine below_alloc ?_ _) | (with_reducible refine below_drewN ?_ _) | (with_reducible refine Below.drew ?_) | (with_reducible refine below_then ?_ (by with_reducible assumption)) | (with_reducible refine Below.setCell ?_ (by go_size) _)))⟩
        · rw [decide_eq_false hs] at M2
          have hE : yPutE ⟨d, ns, ls⟩ ms ks s = 2 := by unfold yPutE; rw [if_pos HOK.out, if_pos c1, if_pos c2, if_neg hs]
          have hV : yPutV ⟨d, ns, ls⟩ ms ks s = Yd.zero := by unfold yPutV; rw [hE]; rfl
          have HEV := Lib.hid (And.intro hE hV)
          clear hE hV c1 c2 hs
          (go_enter Try.func51, Try.ntmps51; go_upto_region 1 with fail; rw [← HW.out]; (have y0 := F.out.y.cell 0 _ rfl; have y1 := F.out.y.cell 1 _ rfl; have y2 := F.out.y.cell 2 _ rfl; have y3 := F.out.y.cell 3 _ rfl; have y4 := F.out.y.cell 4 _ rfl); go_wp2_with fail; refine (M1.out _ F.out.b).mono ?_; rintro e w1 ⟨rfl, hb1⟩; have F := Lib.hid (F.out.keep hb1); have hRw := Lib.hid F.out.r.lt; clear hb1 y0 y1 y2 y3 y4)
          ((have y0 := F.out.y.cell 0 _ rfl; have y1 := F.out.y.cell 1 _ rfl; have y2 := F.out.y.cell 2 _ rfl; have y3 := F.out.y.cell 3 _ rfl; have y4 := F.out.y.cell 4 _ rfl); (have s0 := F.out.p.cell 0 _ rfl; have s1 := F.out.p.cell 1 _ rfl); go_upto_region 7 with (first | ((with_reducible refine (M3.out _ F.out.b).mono ?_); rintro e w3 ⟨rfl, hw3⟩; have hw3 := hw3.symm; subst hw3) | ((with_reducible refine (M4.out _ F.out.b).mono ?_); rintro e w3 ⟨rfl, hw3⟩; have hw3 := hw3.symm; subst hw3)); obtain ⟨W1, hW1⟩ : ∃ W1, W1 = w1.alloc (.cells #[.int .i64 s.f, .int .i64 s.t, .int .i64 s.o] 57) := ⟨_, rfl⟩; rw [← hW1]; have hb1 : Below w1.heap.size w1 W1 := (by rw [hW1]; (repeat (first | (with_reducible exact Below.refl _ _) | (with_reducible assumption) | (with_reducible refine below_alloc ?_ _) | (with_reducible refine below_drewN ?_ _) | (with_reducible refine Below.drew ?_) | (with_reducible refine below_then ?_ (by with_reducible assumption)) | (with_reducible refine Below.setCell ?_ (by go_size) _)))); have F := Lib.hid (F.out.keep hb1); have SB := Lib.hid (show Blk W1 w1.heap.size 57 #[.int .i64 s.f, .int .i64 s.t, .int .i64 s.o] by rw [hW1]; exact Blk.new ..); clear hb1 hW1 y0 y1 y2 y3 y4 s0 s1; have s0 := SB.out.cell 0 _ rfl; have s1 := SB.out.cell 1 _ rfl; have s2 := SB.out.cell 2 _ rfl; go_wp2_with fail; refine (M2.out _).mono ?_; rintro e w2 ⟨rfl, hb2⟩; have F := Lib.hid (F.out.keep hb2); have SB := Lib.hid (SB.out.below hb2); clear hb2 s0 s1 s2)
          (have q0 := F.out.r.cell 0 _ rfl; have q1 := F.out.r.cell 1 _ rfl; have q2 := F.out.r.cell 2 _ rfl; have q3 := F.out.r.cell 3 _ rfl; have q4 := F.out.r.cell 4 _ rfl; have g0 := F.out.r.frozen 0; have g1 := F.out.r.frozen 1; have g2 := F.out.r.frozen 2; have g3 := F.out.r.frozen 3; have g4 := F.out.r.frozen 4)
          go_wp2_with fail
          ((have R0 := (F.out.r).set 0 (.int .i64 0); have R1 := R0.set 1 (.int .i64 0); have R2 := R1.set 2 (.int .i64 0); have R3 := R2.set 3 (.slice none 0 0); have R4 := R3.set 4 (.slice none 0 0); have r0 := R0.cell 0 (.int .i64 0) rfl; have r1 := R1.cell 1 (.int .i64 0) rfl; have r2 := R2.cell 2 (.int .i64 0) rfl; have r3 := R3.cell 3 (.slice none 0 0) rfl; have r4 := R4.cell 4 (.slice none 0 0) rfl; clear R0 R1 R2 R3 R4; refine bodyPost_ret (by simp [results, Try.results51, go_sem, r0, r1, r2, r3, r4]; try rfl) rfl ?_); (try rw [HEV.out.1, HEV.out.2]); exact RYE.zero _ _ _ (by have hbF := F.out.b; (repeat (first | (with_reducible exact Below.refl _ _) | (with_reducible assumption) | (with_reducible refine below_alloc ?_ _) | (with_reducible refine below_drewN ?_ _) | (with_reducible refine Below.drew ?_) | (with_reducible refine below_then ?_ (by with_reducible assumption)) | (with_reducible refine Below.setCell ?_ (by go_size) _)))))
      · rw [decide_eq_true c1] at M3
        rw [decide_eq_false c2] at M4
        have hE : yPutE ⟨d, ns, ls⟩ ms ks s = 8 := by unfold yPutE; rw [if_pos HOK.out, if_pos c1, if_neg c2]
        have hV : yPutV ⟨d, ns, ls⟩ ms ks s = Yd.zero := by unfold yPutV; rw [hE]; rfl
        have HEV := Lib.hid (And.intro hE hV)
        clear hE hV c1 c2
        (go_enter Try.func51, Try.ntmps51; go_upto_region 1 with fail; rw [← HW.out]; (have y0 := F.out.y.cell 0 _ rfl; have y1 := F.out.y.cell 1 _ rfl; have y2 := F.out.y.cell 2 _ rfl; have y3 := F.out.y.cell 3 _ rfl; have y4 := F.out.y.cell 4 _ rfl); go_wp2_with fail; refine (M1.out _ F.out.b).mono ?_; rintro e w1 ⟨rfl, hb1⟩; have F := Lib.hid (F.out.keep hb1); have hRw := Lib.hid F.out.r.lt; clear hb1 y0 y1 y2 y3 y4)
        (have y0 := F.out.y.cell 0 _ rfl; have y1 := F.out.y.cell 1 _ rfl; have y2 := F.out.y.cell 2 _ rfl; have y3 := F.out.y.cell 3 _ rfl; have y4 := F.out.y.cell 4 _ rfl)
        (have q0 := F.out.r.cell 0 _ rfl; have q1 := F.out.r.cell 1 _ rfl; have q2 := F.out.r.cell 2 _ rfl; have q3 := F.out.r.cell 3 _ rfl; have q4 := F.out.r.cell 4 _ rfl; have g0 := F.out.r.frozen 0; have g1 := F.out.r.frozen 1; have g2 := F.out.r.frozen 2; have g3 := F.out.r.frozen 3; have g4 := F.out.r.frozen 4)
        go_wp2_with (first | ((with_reducible refine (M3.out _ F.out.b).mono ?_); rintro e w3 ⟨rfl, hw3⟩; have hw3 := hw3.symm; subst hw3) | ((with_reducible refine (M4.out _ F.out.b).mono ?_); rintro e w3 ⟨rfl, hw3⟩; have hw3 := hw3.symm; subst hw3))
        ((have R0 := (F.out.r).set 0 (.int .i64 0); have R1 := R0.set 1 (.int .i64 0); have R2 := R1.set 2 (.int .i64 0); have R3 := R2.set 3 (.slice none 0 0); have R4 := R3.set 4 (.slice none 0 0); have r0 := R0.cell 0 (.int .i64 0) rfl; have r1 := R1.cell 1 (.int .i64 0) rfl; have r2 := R2.cell 2 (.int .i64 0) rfl; have r3 := R3.cell 3 (.slice none 0 0) rfl; have r4 := R4.cell 4 (.slice none 0 0) rfl; clear R0 R1 R2 R3 R4; refine bodyPost_ret (by simp [results, Try.results51, go_sem, r0, r1, r2, r3, r4]; try rfl) rfl ?_); (try rw [HEV.out.1, HEV.out.2]); exact RYE.zero _ _ _ (by have hbF := F.out.b; (repeat (first | (with_reducible exact Below.refl _ _) | (with_reducible assumption) | (with_reducible refine below_alloc ?_ _) | (with_reducible refine below_drewN ?_ _) | (with_reducible refine Below.drew ?_) | (with_reducible refine below_then ?_ (by with_reducible assumption)) | (with_reducible refine Below.setCell ?_ (by go_size) _)))))
    · rw [decide_eq_false c1] at M3
      have hE : yPutE ⟨d, ns, ls⟩ ms ks s = 8 := by unfold yPutE; rw [if_pos HOK.out, if_neg c1]
      have hV : yPutV ⟨d, ns, ls⟩ ms ks s = Yd.zero := by unfold yPutV; rw [hE]; rfl
      have HEV := Lib.hid (And.intro hE hV)
      clear hE hV c1
      (go_enter Try.func51, Try.ntmps51; go_upto_region 1 with fail; rw [← HW.out]; (have y0 := F.out.y.cell 0 _ rfl; have y1 := F.out.y.cell 1 _ rfl; have y2 := F.out.y.cell 2 _ rfl; have y3 := F.out.y.cell 3 _ rfl; have y4 := F.out.y.cell 4 _ rfl); go_wp2_with fail; refine (M1.out _ F.out.b).mono ?_; rintro e w1 ⟨rfl, hb1⟩; have F := Lib.hid (F.out.keep hb1); have hRw := Lib.hid F.out.r.lt; clear hb1 y0 y1 y2 y3 y4)
      (have y0 := F.out.y.cell 0 _ rfl; have y1 := F.out.y.cell 1 _ rfl; have y2 := F.out.y.cell 2 _ rfl; have y3 := F.out.y.cell 3 _ rfl; have y4 := F.out.y.cell 4 _ rfl)
      (have q0 := F.out.r.cell 0 _ rfl; have q1 := F.out.r.cell 1 _ rfl; have q2 := F.out.r.cell 2 _ rfl; have q3 := F.out.r.cell 3 _ rfl; have q4 := F.out.r.cell 4 _ rfl; have g0 := F.out.r.frozen 0; have g1 := F.out.r.frozen 1; have g2 := F.out.r.frozen 2; have g3 := F.out.r.frozen 3; have g4 := F.out.r.frozen 4)
      go_wp2_with (first | ((with_reducible refine (M3.out _ F.out.b).mono ?_); rintro e w3 ⟨rfl, hw3⟩; have hw3 := hw3.symm; subst hw3) | ((with_reducible refine (M4.out _ F.out.b).mono ?_); rintro e w3 ⟨rfl, hw3⟩; have hw3 := hw3.symm; subst hw3))
      ((have R0 := (F.out.r).set 0 (.int .i64 0); have R1 := R0.set 1 (.int .i64 0); have R2 := R1.set 2 (.int .i64 0); have R3 := R2.set 3 (.slice none 0 0); have R4 := R3.set 4 (.slice none 0 0); have r0 := R0.cell 0 (.int .i64 0) rfl; have r1 := R1.cell 1 (.int .i64 0) rfl; have r2 := R2.cell 2 (.int .i64 0) rfl; have r3 := R3.cell 3 (.slice none 0 0) rfl; have r4 := R4.cell 4 (.slice none 0 0) rfl; clear R0 R1 R2 R3 R4; refine bodyPost_ret (by simp [results, Try.results51, go_sem, r0, r1, r2, r3, r4]; try rfl) rfl ?_); (try rw [HEV.out.1, HEV.out.2]); exact RYE.zero _ _ _ (by have hbF := F.out.b; (repeat (first | (with_reducible exact Below.refl _ _) | (with_reducible assumption) | (with_reducible refine below_alloc ?_ _) | (with_reducible refine below_drewN ?_ _) | (with_reducible refine Below.drew ?_) | (with_reducible refine below_then ?_ (by with_reducible assumption)) | (with_reducible refine Below.setCell ?_ (by go_size) _)))))
end
end Go.Proofs.Ytfikgjcmnooglaa
