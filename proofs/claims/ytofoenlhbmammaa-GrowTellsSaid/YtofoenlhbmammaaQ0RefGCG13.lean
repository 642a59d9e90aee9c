/- REF 13: Free, Most, Largest: the document's. -/
import Derived.Deep.RegionHeld3
import Derived.Test.YtofoenlhbmammaaQ0GrowQG13
import Derived.Test.YtofoenlhbmammaaQ0RefGBG13
set_option linter.unusedVariables false
set_option linter.unusedSimpArgs false
namespace Go.Proofs.Ytofoenlhbmammaa

section
open Go.RowKit Go.Shelf

set_option maxRecDepth 100000 in set_option maxHeartbeats 4000000 in
theorem ref13_Free (d : V3) (bs : Option Addr) (cs : Nat) (ms : List Nat) (w : World) (hs : SetIn w bs ms) : Calls Try.prog 21 #[.agg #[.int .i64 d.x, .int .i64 d.y, .int .i64 d.z], .slice bs ms.length cs] w (RXE w (frV d ms) (frE d ms)) := by
  have HM := Lib.hid (fun W (h : Below w.heap.size w W) => ref13_may d bs cs ms W (hs.keep h))
  have hE : frE d ms = if growE d ms = 0 then (if d.n ≤ 64 then 0 else 4) else 8 := rfl
  by_cases hg : growE d ms = 0
  · rw [decide_eq_true hg] at HM
    have hd := (growE_0 hg).1
    have HN := Lib.hid (fun W => ref01_N d W hd)
    rw [if_pos hg] at hE
    by_cases hl : d.n ≤ 64
    · rw [if_pos hl] at hE
      have hv : frV d ms = freeL d ms := if_pos hE
      have HV := Lib.hid (fun W (h : Below w.heap.size w W) => ref13_Every d bs cs ms W hd hl (hs.keep h))
      have hq : decide (64 < d.n) = false := decide_eq_false (by omega)
      rw [hE, hv]
      generalize freeL d ms = L at *
      generalize d.n = n at *
      clear hs hE hg hd hv
      go_enter Try.func21, Try.ntmps21
      go_wp2_with fail
      refine (HM.out _ (by (repeat (first | (with_reducible exact Below.refl _ _) | (with_reducible assumption) | (with_reducible refine below_alloc ?_ _) | (with_reducible refine below_drewN ?_ _) | (with_reducible refine Below.drew ?_) | (with_reducible refine below_then ?_ (by with_reducible assumption)) | (with_reducible refine Below.setCell ?_ (by go_size) _))))).mono ?_
      rintro e w1 ⟨rfl, hb⟩
      have BD := Lib.hid ((Blk.new w 23 #[.int .i64 d.x, .int .i64 d.y, .int .i64 d.z]).below hb)
      have HB := Lib.hid (below_then (show Below w.heap.size w (w.alloc (.cells #[.int .i64 d.x, .int .i64 d.y, .int .i64 d.z] 23)) by (repeat (first | (with_reducible exact Below.refl _ _) | (with_reducible assumption) | (with_reducible refine below_alloc ?_ _) | (with_reducible refine below_drewN ?_ _) | (with_reducible refine Below.drew ?_) | (with_reducible refine below_then ?_ (by with_reducible assumption)) | (with_reducible refine Below.setCell ?_ (by go_size) _)))) hb)
      clear hb
      (have d0 := (BD.out).cell 0 _ rfl; have d1 := (BD.out).cell 1 _ rfl; have d2 := (BD.out).cell 2 _ rfl; have dl := (BD.out).lt)
      go_wp2_with fail
      refine (HN.out _).mono ?_
      rintro e w2 ⟨rfl, hb⟩
      have BD := Lib.hid (BD.out.below hb)
      have HB := Lib.hid (below_then HB.out hb)
      clear hb
      clear d0 d1 d2 dl
      (have d0 := (BD.out).cell 0 _ rfl; have d1 := (BD.out).cell 1 _ rfl; have d2 := (BD.out).cell 2 _ rfl; have dl := (BD.out).lt)
      go_wp2_with fail
      refine (HV.out _ HB.out).mono ?_
      rintro e w3 ⟨v, rfl, ho, hb⟩
      have HO := Lib.hid (own_mono ho HB.out.size)
      have HB := Lib.hid (below_then HB.out hb)
      clear hb ho
      go_wp2_with fail
      go_returns
      exact ⟨_, rfl, HO.out, HB.out⟩
    · rw [if_neg hl] at hE
      have hv : frV d ms = [] := if_neg (by rw [hE]; decide)
      have hq : decide (64 < d.n) = true := decide_eq_true (by omega)
      rw [hE, hv]
      generalize d.n = n at *
      clear hs hE hg hd hv
      go_enter Try.func21, Try.ntmps21
      go_wp2_with fail
      refine (HM.out _ (by (repeat (first | (with_reducible exact Below.refl _ _) | (with_reducible assumption) | (with_reducible refine below_alloc ?_ _) | (with_reducible refine below_drewN ?_ _) | (with_reducible refine Below.drew ?_) | (with_reducible refine below_then ?_ (by with_reducible assumption)) | (with_reducible refine Below.setCell ?_ (by go_size) _))))).mono ?_
      rintro e w1 ⟨rfl, hb⟩
      have BD := Lib.hid ((Blk.new w 23 #[.int .i64 d.x, .int .i64 d.y, .int .i64 d.z]).below hb)
      have HB := Lib.hid (below_then (show Below w.heap.size w (w.alloc (.cells #[.int .i64 d.x, .int .i64 d.y, .int .i64 d.z] 23)) by (repeat (first | (with_reducible exact Below.refl _ _) | (with_reducible assumption) | (with_reducible refine below_alloc ?_ _) | (with_reducible refine below_drewN ?_ _) | (with_reducible refine Below.drew ?_) | (with_reducible refine below_then ?_ (by with_reducible assumption)) | (with_reducible refine Below.setCell ?_ (by go_size) _)))) hb)
      clear hb
      (have d0 := (BD.out).cell 0 _ rfl; have d1 := (BD.out).cell 1 _ rfl; have d2 := (BD.out).cell 2 _ rfl; have dl := (BD.out).lt)
      go_wp2_with fail
      refine (HN.out _).mono ?_
      rintro e w2 ⟨rfl, hb⟩
      have HB := Lib.hid (below_then HB.out hb)
      clear hb
      clear d0 d1 d2 dl
      go_wp2_with fail
      go_returns
      exact ⟨_, rfl, World.ownsRow_nil _ w.heap.size _ _, HB.out⟩
  · rw [decide_eq_false hg] at HM
    rw [if_neg hg] at hE
    have hv : frV d ms = [] := if_neg (by rw [hE]; decide)
    rw [hE, hv]
    clear hs hE hg hv
    go_enter Try.func21, Try.ntmps21
    go_wp2_with fail
    refine (HM.out _ (by (repeat (first | (with_reducible exact Below.refl _ _) | (with_reducible assumption) | (with_reducible refine below_alloc ?_ _) | (with_reducible refine below_drewN ?_ _) | (with_reducible refine Below.drew ?_) | (with_reducible refine below_then ?_ (by with_reducible assumption)) | (with_reducible refine Below.setCell ?_ (by go_size) _))))).mono ?_
    rintro e w1 ⟨rfl, hb⟩
    have HB := Lib.hid (below_then (show Below w.heap.size w (w.alloc (.cells #[.int .i64 d.x, .int .i64 d.y, .int .i64 d.z] 23)) by (repeat (first | (with_reducible exact Below.refl _ _) | (with_reducible assumption) | (with_reducible refine below_alloc ?_ _) | (with_reducible refine below_drewN ?_ _) | (with_reducible refine Below.drew ?_) | (with_reducible refine below_then ?_ (by with_reducible assumption)) | (with_reducible refine Below.setCell ?_ (by go_size) _)))) hb)
    clear hb
    go_wp2_with fail
    go_returns
    exact ⟨_, rfl, World.ownsRow_nil _ w.heap.size _ _, HB.out⟩
theorem frV_len (d : V3) (ms : List Nat) : (frV d ms).length ≤ 4096 := by
  unfold frV
  by_cases h : frE d ms = 0
  · rw [if_pos h]
    exact Nat.le_trans (List.length_filter_le _ _) (boxes_len (frE_0 h).2.2)
  · rw [if_neg h]; exact Nat.zero_le _
theorem frV_may {d : V3} {ms : List Nat} {x : Bx} (hx : x ∈ frV d ms) : d.may ∧ x.may d := by
  unfold frV at hx
  by_cases h : frE d ms = 0
  · rw [if_pos h] at hx
    have hd := (frE_0 h).1
    exact ⟨hd, ((mem_freeL hd).1 hx).1.1⟩
  · rw [if_neg h] at hx; cases hx
theorem BxO.keepR {w W : World} {b o : Nat} {x : Bx} (h : BxO w b o x) (hb : Below w.heap.size w W) : BxO W b o x :=
  ⟨(hb.cell (p := ⟨b, o, none⟩) h.lt).trans h.c0, (hb.cell (p := ⟨b, o + 1, none⟩) h.lt).trans h.c1, (hb.cell (p := ⟨b, o + 2, none⟩) h.lt).trans h.c2, (hb.cell (p := ⟨b, o + 3, none⟩) h.lt).trans h.c3, (hb.cell (p := ⟨b, o + 4, none⟩) h.lt).trans h.c4, (hb.cell (p := ⟨b, o + 5, none⟩) h.lt).trans h.c5, Nat.lt_of_lt_of_le h.lt hb.size⟩
theorem vol_le' {d : V3} {b : Bx} (hd : d.may) (hb : b.may d) : 1 ≤ b.vol ∧ b.vol ≤ 4096 := by
  obtain ⟨⟨⟨a1, a2⟩, _⟩, ⟨⟨b1, b2⟩, _⟩, ⟨⟨c1, c2⟩, _⟩⟩ := hb
  obtain ⟨⟨_, x2⟩, ⟨_, y2⟩, ⟨_, z2⟩⟩ := hd
  have m1 : 1 ≤ b.s.x * b.s.y := Int.mul_pos (by omega) (by omega)
  have m2 : b.s.x * b.s.y ≤ 256 := Int.le_trans (Int.mul_le_mul (show b.s.x ≤ 16 by omega) (show b.s.y ≤ 16 by omega) (by omega) (by omega)) (by omega)
  have m3 : 1 ≤ b.s.x * b.s.y * b.s.z := Int.mul_pos (by omega) (by omega)
  have m4 : b.s.x * b.s.y * b.s.z ≤ 4096 := Int.le_trans (Int.mul_le_mul m2 (show b.s.z ≤ 16 by omega) (by omega) (by omega)) (by omega)
  exact ⟨m3, m4⟩
theorem frV_nodup (d : V3) (ms : List Nat) : (frV d ms).Nodup := by
  unfold frV
  by_cases h : frE d ms = 0
  · rw [if_pos h]; exact freeL_nodup (frE_0 h).1 ms
  · rw [if_neg h]; exact List.nodup_nil
/-- Of the first so many, those that lie in no other one. -/
def mostTo (d : V3) (l : List Bx) (k : Nat) : List Bx := (l.take k).filter (fun b => !l.any (inOther d b))
theorem mostTo_succ {d : V3} {l : List Bx} {k : Nat} (h : k < l.length) : mostTo d l (k + 1) = mostTo d l k ++ (if !l.any (inOther d l[k]) then [l[k]] else []) := by
  unfold mostTo
  rw [filter_take_succ h]
theorem mostTo_all (d : V3) (l : List Bx) : mostTo d l l.length = mostL d l := by unfold mostTo; rw [List.take_length]; rfl
set_option maxRecDepth 100000 in set_option maxHeartbeats 4000000 in
theorem ref13_Most (d : V3) (bs : Option Addr) (cs : Nat) (ms : List Nat) (w : World) (hs : SetIn w bs ms) : Calls Try.prog 22 #[.agg #[.int .i64 d.x, .int .i64 d.y, .int .i64 d.z], .slice bs ms.length cs] w (RXE w (mostL d (frV d ms)) (frE d ms)) := by
  have HF := Lib.hid (fun W (h : Below w.heap.size w W) => ref13_Free d bs cs ms W (hs.keep h))
  have hlen := frV_len d ms
  have HIN := Lib.hid (fun x y W (hx : x ∈ frV d ms) (hy : y ∈ frV d ms) => ref13_inside d x y W (frV_may hx).1 (frV_may hx).2 (frV_may hy).2)
  have HND := Lib.hid (frV_nodup d ms)
  obtain ⟨i0, hi, iz0, iz1, iz2⟩ := info_parts infoBox
  generalize frV d ms = l at *
  generalize frE d ms = E at *
  clear hs
  go_enter Try.func22, Try.ntmps22
  go_wp2_with fail
  refine (HF.out _ (by (repeat (first | (with_reducible exact Below.refl _ _) | (with_reducible assumption) | (with_reducible refine below_alloc ?_ _) | (with_reducible refine below_drewN ?_ _) | (with_reducible refine Below.drew ?_) | (with_reducible refine below_then ?_ (by with_reducible assumption)) | (with_reducible refine Below.setCell ?_ (by go_size) _))))).mono ?_
  rintro e w1 ⟨v, rfl, ho, hb⟩
  have BD := Lib.hid ((Blk.new w 23 #[.int .i64 d.x, .int .i64 d.y, .int .i64 d.z]).below hb)
  have HB1 := Lib.hid (below_then (show Below w.heap.size w (w.alloc (.cells #[.int .i64 d.x, .int .i64 d.y, .int .i64 d.z] 23)) by (repeat (first | (with_reducible exact Below.refl _ _) | (with_reducible assumption) | (with_reducible refine below_alloc ?_ _) | (with_reducible refine below_drewN ?_ _) | (with_reducible refine Below.drew ?_) | (with_reducible refine below_then ?_ (by with_reducible assumption)) | (with_reducible refine Below.setCell ?_ (by go_size) _)))) hb)
  have HX := Lib.hid (xs_of_own ho (by omega))
  obtain ⟨b9, c9, e9, hx9, _⟩ := HX.out.ex
  subst e9
  have HXI := Lib.hid hx9
  clear hx9 HX ho hb HF
  have hz1 := HB1.out.size
  go_wp2_with fail
  go_loopw [8, 9] (fun v i wr => ∃ k : Nat, k ≤ l.length ∧ i = .int .i64 k ∧ wr.ownsRow w1.heap.size 27 6 v (mostTo d l k).length (bxc (mostTo d l k)) ∧ Below w1.heap.size w1 wr) (fun _ i _ => l.length - (intOf i).toNat)
  case atStart => exact ⟨0, Nat.zero_le _, rfl, ⟨rfl, .inl ⟨rfl, rfl⟩⟩, Below.refl _ _⟩
  case round =>
    obtain ⟨k, hk, rfl, ho, hb⟩ := hrel
    have HO := Lib.hid ho
    have HB := Lib.hid hb
    obtain ⟨bo, co, rfl, _⟩ := own_rd ho
    clear ho
    by_cases hlt : k < l.length
    · have HXL := Lib.hid (fun W (h : Below w1.heap.size w1 W) => (HXI.out.keep h).at hlt)
      have HSU := Lib.hid (mostTo_succ (d := d) hlt)
      have HMX := Lib.hid (List.getElem_mem hlt)
      have HNE := Lib.hid (fun q (hq : q < l.length) (h : q ≠ k) => show l[k] ≠ l[q] from fun e => h ((List.getElem_inj HND.out).1 e).symm)
      have hml : (mostTo d l k).length ≤ k := by
        unfold mostTo
        exact Nat.le_trans (List.length_filter_le _ _) (by rw [List.length_take]; omega)
      obtain ⟨x, hx⟩ : ∃ x, x = l[k] := ⟨_, rfl⟩
      rw [← hx] at HXL HSU HMX HNE
      have HXE := Lib.hid hx
      generalize mostTo d l k = old at *
      clear hx hb
      go_wp2_with fail
      go_loopw [10, 11] (fun ln i wr => ∃ q : Nat, q ≤ l.length ∧ i = .int .i64 q ∧ ln = .bool (!(l.take q).any (inOther d x)) ∧ wr.ownsRow w1.heap.size 27 6 (.slice bo old.length co) old.length (bxc old) ∧ Below w1.heap.size w1 wr) (fun _ i _ => l.length - (intOf i).toNat)
      case atStart => exact ⟨0, Nat.zero_le _, rfl, by simp, HO.out, HB.out⟩
      case round =>
        clear HO HB
        obtain ⟨q, hq, rfl, rfl, ho, hb⟩ := hrel
        have HO := Lib.hid ho
        have HB := Lib.hid hb
        clear ho
        by_cases hlq : q < l.length
        · have HN := Lib.hid (show (l.take (q + 1)).any (inOther d x) = ((l.take q).any (inOther d x) || inOther d x l[q]) by rw [List.take_succ_eq_append_getElem hlq, List.any_append]; simp)
          by_cases hqk : q = k
          · subst hqk
            have hne : ((q : Int) != (q : Int)) = false := by simp
            have HI := Lib.hid (show inOther d x l[q] = false by
              unfold inOther
              rw [decide_eq_false (fun h => h HXE.out), Bool.and_false])
            clear hb
            go_wp2_with fail
            (refine wp_region_quiet_lit (by kernel_rfl) (by kernel_rfl) ?_; (repeat (any_goals (first | go_big_quiet_step (fail) | quiet_step (fail) | (refine wpQuiet_step (fun K hK => ?_); go_simp; split <;> (refine hK _ ?_; clear hK K))))); all_goals (refine wpQuiet_nil ?_; intro _ hw'; obtain ⟨nq, hw''⟩ := hw'; subst hw''))
            go_wp2_with fail
            go_roundw
            case rel => exact ⟨q + 1, by omega, by go_num, by rw [HN.out, HI.out, Bool.or_false], HO.out, below_drewN HB.out _⟩
            case measure => (simp [intOf] <;> omega)
          · have hne : ((q : Int) != (k : Int)) = true := by rw [bne_iff_ne]; omega
            obtain ⟨bx, off, rfl, hO⟩ := HXL.out _ hb
            obtain ⟨by', off', e, hO'⟩ := (HXI.out.keep hb).at hlq
            cases e
            have HI := Lib.hid (show inOther d x l[q] = boxWithin d x l[q] by unfold inOther; rw [decide_eq_true (HNE.out q hlq hqk), Bool.and_true])
            have HCk := Lib.hid (fun W => HIN.out x l[q] W HMX.out (List.getElem_mem hlq))
            have BDr := BD.out.below hb
            obtain ⟨y, hy⟩ : ∃ y, y = l[q] := ⟨_, rfl⟩
            rw [← hy] at hO' HI HCk HN
            obtain ⟨c0, c1, c2, c3, c4, c5, hcl⟩ := hO
            obtain ⟨e0, e1, e2, e3, e4, e5, hel⟩ := hO'
            clear hb hy
            generalize boxWithin d x y = r at *
            (have d0 := (BDr).cell 0 _ rfl; have d1 := (BDr).cell 1 _ rfl; have d2 := (BDr).cell 2 _ rfl; have dl := (BDr).lt)
            clear BDr
            have I1 := Lib.hid (fun (z : Aft wr) => Calls.aft_of (x := z) (HCk.out _))
            go_wp2_with fail
            (refine wp_region_aft (by kernel_rfl) (by kernel_rfl) ?_; (repeat (any_goals (first | go_big_quiet_step (with_reducible exact I1.out _) | quiet_step (with_reducible exact I1.out _) | (refine wpQuiet_step (fun K hK => ?_); go_simp; split <;> (refine hK _ ?_; clear hK K))))); all_goals (refine wpQuiet_nil ?_; intro wq hw'; obtain ⟨x1, hx1⟩ := hw'; have hbq := x1.h; rw [← hx1] at hbq; clear hx1 x1))
            have HOq := Lib.hid (own_keep HO.out hbq)
            cases r with
            | false =>
              go_wp2_with fail
              go_roundw
              case rel => exact ⟨q + 1, by omega, by go_num, by rw [HN.out, HI.out, Bool.or_false], HOq.out, HB.out.trans (hbq.mono HB.out.size)⟩
              case measure => (simp [intOf] <;> omega)
            | true =>
              go_wp2_with fail
              go_roundw
              case rel => exact ⟨q + 1, by omega, by go_num, by rw [HN.out, HI.out, Bool.or_true]; rfl, HOq.out, HB.out.trans (hbq.mono HB.out.size)⟩
              case measure => (simp [intOf] <;> omega)
        · obtain rfl : q = l.length := by omega
          rw [show l.take l.length = l from List.take_length]
          cases hal : l.any (inOther d x) with
          | true =>
            have HS2 := Lib.hid (show mostTo d l (k + 1) = old by rw [HSU.out, hal]; simp)
            clear hb hal
            go_wp2_with fail
            go_roundw
            case rel => exact ⟨k + 1, by omega, by go_num, by rw [HS2.out]; exact HO.out, HB.out⟩
            case measure => (simp [intOf] <;> omega)
          | false =>
            have HS2 := Lib.hid (show mostTo d l (k + 1) = old ++ [x] by rw [HSU.out, hal]; rfl)
            obtain ⟨bx, off, rfl, hO⟩ := HXL.out _ hb
            obtain ⟨c0, c1, c2, c3, c4, c5, hcl⟩ := hO
            have hzb := HB.out.size
            clear hb hal
            go_wp2_with (at_builtin; refine wpList_append_own _ rfl _ _ 30 rfl w1.heap.size 27 i0 (.agg #[.int .i64 0, .int .i64 0, .int .i64 0, .int .i64 0, .int .i64 0, .int .i64 0]) 6 48 Try.underlying30 hi iz0 iz1 iz2 rfl (by decide) _ _ _ rfl (HO.out.alloc _) ⟨_, 0, none⟩ 1 1 [.int .i64 x.b.x, .int .i64 x.b.y, .int .i64 x.b.z, .int .i64 x.s.x, .int .i64 x.s.y, .int .i64 x.s.z] rfl rfl (cell_new6 _ _ _ _ _ _ _ _ _ (by simp)) (by simp [Value.oneCell']) ?_ ?_ ?_ ?_)
            all_goals try (first | omega | (unfold maxLen; omega) | (simp; omega) | (simp; unfold maxLen; omega))
            intro v' w4 o4 hg4 _
            have n4 := own_below (HO.out.alloc (.cells #[.int .i64 x.b.x, .int .i64 x.b.y, .int .i64 x.b.z, .int .i64 x.s.x, .int .i64 x.s.y, .int .i64 x.s.z] 27)) hg4 (by simp; omega)
            have HB4 := Lib.hid ((below_alloc HB.out (.cells #[.int .i64 x.b.x, .int .i64 x.b.y, .int .i64 x.b.z, .int .i64 x.s.x, .int .i64 x.s.y, .int .i64 x.s.z] 27)).trans n4)
            have HO4 := Lib.hid (own_bx (x := x) o4 rfl)
            clear n4 o4 hg4 c0 c1 c2 c3 c4 c5
            go_wp2_with fail
            go_roundw
            case rel => exact ⟨k + 1, by omega, by go_num, by rw [HS2.out]; exact HO4.out, HB4.out⟩
            case measure => (simp [intOf] <;> omega)
    · obtain rfl : k = l.length := by omega
      have HA := Lib.hid (mostTo_all d l)
      clear hb
      go_wp2_with fail
      go_returns
      exact ⟨_, rfl, by rw [← HA.out]; exact own_mono HO.out hz1, HB1.out.trans (HB.out.mono hz1)⟩
set_option maxRecDepth 100000 in set_option maxHeartbeats 4000000 in
theorem ref13_Largest (d : V3) (bs : Option Addr) (cs : Nat) (ms : List Nat) (w : World) (hs : SetIn w bs ms) : Calls Try.prog 23 #[.agg #[.int .i64 d.x, .int .i64 d.y, .int .i64 d.z], .slice bs ms.length cs] w (RB w (.tuple #[.int .i64 (topL (frV d ms)), .int .i64 (frE d ms)])) := by
  have HF := Lib.hid (fun W (h : Below w.heap.size w W) => ref13_Free d bs cs ms W (hs.keep h))
  have hlen := frV_len d ms
  have HAL := Lib.hid (fun x W (hx : x ∈ frV d ms) => ref02_All d x W (frV_may hx).1 (frV_may hx).2)
  have HVL := Lib.hid (fun x (hx : x ∈ frV d ms) => And.intro (Bx.all_volG (frV_may hx).1 (frV_may hx).2) (vol_le' (frV_may hx).1 (frV_may hx).2))
  generalize frV d ms = l at *
  generalize frE d ms = E at *
  clear hs
  go_enter Try.func23, Try.ntmps23
  go_wp2_with fail
  refine (HF.out _ (by (repeat (first | (with_reducible exact Below.refl _ _) | (with_reducible assumption) | (with_reducible refine below_alloc ?_ _) | (with_reducible refine below_drewN ?_ _) | (with_reducible refine Below.drew ?_) | (with_reducible refine below_then ?_ (by with_reducible assumption)) | (with_reducible refine Below.setCell ?_ (by go_size) _))))).mono ?_
  rintro e w1 ⟨v, rfl, ho, hb⟩
  have BD := Lib.hid ((Blk.new w 23 #[.int .i64 d.x, .int .i64 d.y, .int .i64 d.z]).below hb)
  have HB1 := Lib.hid (below_then (show Below w.heap.size w (w.alloc (.cells #[.int .i64 d.x, .int .i64 d.y, .int .i64 d.z] 23)) by (repeat (first | (with_reducible exact Below.refl _ _) | (with_reducible assumption) | (with_reducible refine below_alloc ?_ _) | (with_reducible refine below_drewN ?_ _) | (with_reducible refine Below.drew ?_) | (with_reducible refine below_then ?_ (by with_reducible assumption)) | (with_reducible refine Below.setCell ?_ (by go_size) _)))) hb)
  have HX := Lib.hid (xs_of_own ho (by omega))
  obtain ⟨b9, c9, e9, hx9, _⟩ := HX.out.ex
  subst e9
  have HXI := Lib.hid hx9
  clear hx9 HX ho hb HF
  have hz1 := HB1.out.size
  have mixed : Try.prog.follows .mixedOrders = true := by kernel_rfl
  go_wp2_with fail
  go_loopw [8, 9] (fun m i wr => ∃ k : Nat, k ≤ l.length ∧ i = .int .i64 k ∧ m = .int .i64 (topL (l.take k)) ∧ Below w1.heap.size w1 wr) (fun _ i _ => l.length - (intOf i).toNat)
  case atStart => exact ⟨0, Nat.zero_le _, rfl, rfl, Below.refl _ _⟩
  case round =>
    obtain ⟨k, hk, rfl, rfl, hb⟩ := hrel
    have HB := Lib.hid hb
    by_cases hlt : k < l.length
    · obtain ⟨bx, off, rfl, hO⟩ := (HXI.out.keep hb).at hlt
      have HT := Lib.hid (topL_take hlt)
      have HA := Lib.hid (fun W => HAL.out l[k] W (List.getElem_mem hlt))
      obtain ⟨hv1, hv2⟩ := HVL.out l[k] (List.getElem_mem hlt)
      have BDr := BD.out.below hb
      obtain ⟨x, hx⟩ : ∃ x, x = l[k] := ⟨_, rfl⟩
      rw [← hx] at hO HT HA hv1 hv2
      have HO := Lib.hid hO
      have HBDr := Lib.hid BDr
      obtain ⟨c0, c1, c2, c3, c4, c5, hcl⟩ := hO
      have HV1 := Lib.hid (show topL (l.take (k + 1)) = max (topL (l.take k)) ((x.all d).length : Int) by rw [HT.out, hv1]; rfl)
      have hal : (x.all d).length ≤ 4096 := by omega
      (have d0 := (BDr).cell 0 _ rfl; have d1 := (BDr).cell 1 _ rfl; have d2 := (BDr).cell 2 _ rfl; have dl := (BDr).lt)
      generalize x.all d = L at *
      generalize topL (l.take k) = tp at *
      clear hb hx BDr hv1 hv2 HT
      go_wp2_with fail
      go_region_held3 (fun W => W.cell? ⟨w.heap.size, 0, none⟩ = some (.int .i64 d.x) ∧ W.cell? ⟨w.heap.size, 1, none⟩ = some (.int .i64 d.y) ∧ W.cell? ⟨w.heap.size, 2, none⟩ = some (.int .i64 d.z) ∧ W.cell? ⟨bx, off + k * 6, none⟩ = some (.int .i64 x.b.x) ∧ W.cell? ⟨bx, off + k * 6 + 1, none⟩ = some (.int .i64 x.b.y) ∧ W.cell? ⟨bx, off + k * 6 + 2, none⟩ = some (.int .i64 x.b.z) ∧ W.cell? ⟨bx, off + k * 6 + 3, none⟩ = some (.int .i64 x.s.x) ∧ W.cell? ⟨bx, off + k * 6 + 4, none⟩ = some (.int .i64 x.s.y) ∧ W.cell? ⟨bx, off + k * 6 + 5, none⟩ = some (.int .i64 x.s.z)) (go_keep)
        (first
          | (go_at_call 47; (with_reducible refine (HA.out _).mono ?_); rintro e wa ⟨va, rfl, hoa, hba⟩; obtain ⟨ba, ca, rfl, _⟩ := own_rd hoa; have HBa := below_then (show Below wr.heap.size wr _ by (repeat (first | (with_reducible exact Below.refl _ _) | (with_reducible assumption) | (with_reducible refine below_alloc ?_ _) | (with_reducible refine below_drewN ?_ _) | (with_reducible refine Below.drew ?_) | (with_reducible refine below_then ?_ (by with_reducible assumption)) | (with_reducible refine Below.setCell ?_ (by go_size) _)))) hba; have GD := HBDr.out.below HBa; have GO := HO.out.keepR HBa; have da0 := GD.cell 0 _ rfl; have da1 := GD.cell 1 _ rfl; have da2 := GD.cell 2 _ rfl; obtain ⟨ga0, ga1, ga2, ga3, ga4, ga5, gal⟩ := GO))
      all_goals
        go_wp2_with fail
        go_roundw
        case rel => exact ⟨k + 1, by omega, by go_num, by rw [HV1.out], HB.out.trans (HBa.mono HB.out.size)⟩
        case measure => (simp [intOf] <;> omega)
    · obtain rfl : k = l.length := by omega
      have HT := Lib.hid (show topL (l.take l.length) = topL l by rw [List.take_length])
      generalize topL (l.take l.length) = tp at *
      clear hb
      go_wp2_with fail
      go_returns
      exact ⟨by rw [HT.out]; rfl, HB1.out.trans (HB.out.mono hz1)⟩
end
end Go.Proofs.Ytofoenlhbmammaa
