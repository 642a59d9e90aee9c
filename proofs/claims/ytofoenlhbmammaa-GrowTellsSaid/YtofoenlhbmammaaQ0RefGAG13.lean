/- REF 13: may a set be; is a box clear of a set; does a box lie in another one: the document's. -/
import Derived.Test.YtofoenlhbmammaaQ0GrowGG13
import Derived.Test.YtofoenlhbmammaaQ0GrowNG13
set_option linter.unusedVariables false
set_option linter.unusedSimpArgs false
namespace Go.Proofs.Ytofoenlhbmammaa

section
open Go.RowKit Go.Shelf

theorem may_nMay {d : V3} (hd : d.may) : nMay d.n := by
  have h := V3.n_le hd
  unfold nMay; omega
theorem refMay_chk {n : Int} {ws : List Nat} (hn : nMay n) (hw : W64 ws) : refMay n ws = decide (sChk n ws = 0) := by
  rw [refMay_eq hn hw]
  unfold sChk
  rw [if_pos hn]
  by_cases h : setMay n ws
  · rw [okIf_yes h, decide_eq_true h]; rfl
  · rw [okIf_no h, decide_eq_false h]; rfl
set_option maxRecDepth 100000 in set_option maxHeartbeats 4000000 in
theorem ref13_may (d : V3) (bs : Option Addr) (cs : Nat) (ms : List Nat) (w : World) (hs : SetIn w bs ms) : Calls Try.prog 43 #[.agg #[.int .i64 d.x, .int .i64 d.y, .int .i64 d.z], .slice bs ms.length cs] w (RB w (.bool (decide (growE d ms = 0)))) := by
  have HM := Lib.hid (fun W => ref01_May d W)
  have HE := Lib.hid (show growE d ms = if d.may then (if sChk d.n ms = 0 then 0 else 8) else 8 from rfl)
  by_cases hd : d.may
  · have HN := Lib.hid (fun W => ref01_N d W hd)
    have HS := Lib.hid (fun W (h : Below w.heap.size w W) => by have h2 := ref03_May d.n bs cs ms W (hs.keep h) (may_nMay hd); rw [refMay_chk (may_nMay hd) hs.fit] at h2; exact h2)
    have HV := Lib.hid (show decide (growE d ms = 0) = decide (sChk d.n ms = 0) by
      rw [HE.out, if_pos hd]
      by_cases h : sChk d.n ms = 0
      · rw [if_pos h, h]
      · rw [if_neg h, decide_eq_false h]; rfl)
    rw [decide_eq_true hd] at HM
    generalize decide (sChk d.n ms = 0) = r at *
    generalize d.n = n at *
    clear hd hs HE
    go_enter Try.func43, Try.ntmps43
    go_wp2_with fail
    refine (HM.out _).mono ?_
    rintro e w1 ⟨rfl, hb⟩
    have BD := (Blk.new w 23 #[.int .i64 d.x, .int .i64 d.y, .int .i64 d.z]).below hb
    have HB := below_then (show Below w.heap.size w (w.alloc (.cells #[.int .i64 d.x, .int .i64 d.y, .int .i64 d.z] 23)) by (repeat (first | (with_reducible exact Below.refl _ _) | (with_reducible assumption) | (with_reducible refine below_alloc ?_ _) | (with_reducible refine below_drewN ?_ _) | (with_reducible refine Below.drew ?_) | (with_reducible refine below_then ?_ (by with_reducible assumption)) | (with_reducible refine Below.setCell ?_ (by go_size) _)))) hb
    clear hb
    (have d0 := (BD).cell 0 _ rfl; have d1 := (BD).cell 1 _ rfl; have d2 := (BD).cell 2 _ rfl; have dl := (BD).lt)
    go_wp2_with fail
    refine (HN.out _).mono ?_
    rintro e w2 ⟨rfl, hb⟩
    have HB2 := Lib.hid (below_then HB hb)
    clear hb HB BD
    clear d0 d1 d2 dl
    go_wp2_with ((with_reducible refine (HS.out _ HB2.out).mono ?_); rintro e w3 ⟨rfl, hw3⟩; have hw3 := hw3.symm; subst hw3)
    go_returns
    exact ⟨by rw [HV.out]; rfl, HB2.out⟩
  · have HV := Lib.hid (show decide (growE d ms = 0) = false by rw [HE.out, if_neg hd]; rfl)
    rw [decide_eq_false hd] at HM
    clear hd hs HE
    go_enter Try.func43, Try.ntmps43
    go_wp2_with fail
    refine (HM.out _).mono ?_
    rintro e w1 ⟨rfl, hb⟩
    have HB := Lib.hid (below_then (show Below w.heap.size w _ by (repeat (first | (with_reducible exact Below.refl _ _) | (with_reducible assumption) | (with_reducible refine below_alloc ?_ _) | (with_reducible refine below_drewN ?_ _) | (with_reducible refine Below.drew ?_) | (with_reducible refine below_then ?_ (by with_reducible assumption)) | (with_reducible refine Below.setCell ?_ (by go_size) _)))) hb)
    clear hb
    go_wp2_with fail
    go_returns
    exact ⟨by rw [HV.out]; rfl, HB.out⟩
theorem all_small {d : V3} {b : Bx} (hd : d.may) : (b.all d).length ≤ 4096 ∧ ∀ x ∈ b.all d, 0 ≤ x ∧ x ≤ 4096 := by
  have h1 := Bx.upto_len d b d.n.toNat
  have h2 := V3.n_le hd
  refine ⟨by show (b.upto d d.n.toNat).length ≤ 4096; omega, fun x hx => ?_⟩
  have := (Bx.mem_all.1 hx).1
  omega
set_option maxRecDepth 100000 in set_option maxHeartbeats 4000000 in
theorem ref13_Clear (d : V3) (b : Bx) (bs : Option Addr) (cs : Nat) (ms : List Nat) (w : World) (hd : d.may) (hb : b.may d) (hs : SetIn w bs ms) : Calls Try.prog 49 #[.agg #[.int .i64 d.x, .int .i64 d.y, .int .i64 d.z], .agg #[.int .i64 b.b.x, .int .i64 b.b.y, .int .i64 b.b.z, .int .i64 b.s.x, .int .i64 b.s.y, .int .i64 b.s.z], .slice bs ms.length cs] w (RB w (.bool (clearS d ms b))) := by
  have HA := Lib.hid (fun W => ref02_All d b W hd hb)
  have HT := Lib.hid (fun x W (hx : x ≤ 4096) (h : Below w.heap.size w W) => ref03_ThereI bs cs ms x W (hs.keep h) (by omega))
  have HC := Lib.hid (show clearS d ms b = !(b.all d).any (hasI ms) from rfl)
  obtain ⟨hal, hin⟩ := all_small (b := b) hd
  have HIN := Lib.hid hin
  generalize b.all d = L at *
  clear hd hb hs hin
  go_enter Try.func49, Try.ntmps49
  go_wp2_with fail
  refine (HA.out _).mono ?_
  rintro e w1 ⟨v, rfl, ho, hb1⟩
  obtain ⟨base, cap, rfl, rd, _⟩ := own_rd ho
  have HB := Lib.hid (below_then (show Below w.heap.size w _ by (repeat (first | (with_reducible exact Below.refl _ _) | (with_reducible assumption) | (with_reducible refine below_alloc ?_ _) | (with_reducible refine below_drewN ?_ _) | (with_reducible refine Below.drew ?_) | (with_reducible refine below_then ?_ (by with_reducible assumption)) | (with_reducible refine Below.setCell ?_ (by go_size) _)))) hb1)
  have HR := Lib.hid rd
  clear ho hb1 rd HA
  go_wp2_with fail
  go_loopw [8] (fun i wr => ∃ k : Nat, k ≤ L.length ∧ i = .int .i64 k ∧ (L.take k).any (hasI ms) = false ∧ wr = w1) (fun i _ => L.length - (intOf i).toNat)
  case atStart => exact ⟨0, Nat.zero_le _, rfl, by simp, rfl⟩
  case round =>
    obtain ⟨k, hk, rfl, h0, rfl⟩ := hrel
    have H0 := Lib.hid h0
    clear h0
    by_cases hlt : k < L.length
    · obtain ⟨b, off, rfl, hc⟩ := HR.out k _ (getElem?_map_int hlt)
      have hx := Lib.hid (any_take_succ hlt H0.out)
      have hb := HIN.out L[k] (List.getElem_mem hlt)
      have HANY := Lib.hid (fun (h : hasI ms L[k] = true) => show L.any (hasI ms) = true from List.any_eq_true.2 ⟨L[k], List.getElem_mem hlt, h⟩)
      obtain ⟨x, hxx⟩ : ∃ x, x = L[k] := ⟨_, rfl⟩
      rw [← hxx] at hc hx hb HANY
      clear hxx
      have HTx := Lib.hid (HT.out x wr hb.2 HB.out)
      cases hp : hasI ms x with
      | false =>
        rw [hp] at HTx hx
        clear hp HANY
        go_wp2_with fail
        refine HTx.out.mono ?_
        rintro e w3 ⟨rfl, hw3⟩
        have hw3 := hw3.symm
        subst hw3
        go_wp2_with fail
        go_roundw
        case rel => exact ⟨k + 1, by omega, by go_num, hx.out, by first | trivial | rfl⟩
        case measure => (simp [intOf] <;> omega)
      | true =>
        have HQ := Lib.hid (HANY.out hp)
        rw [hp] at HTx
        clear hp HANY hx
        go_wp2_with fail
        refine HTx.out.mono ?_
        rintro e w3 ⟨rfl, hw3⟩
        have hw3 := hw3.symm
        subst hw3
        go_wp2_with fail
        go_returns
        exact ⟨by rw [HC.out, HQ.out]; rfl, HB.out⟩
    · obtain rfl : k = L.length := by omega
      have HQ := Lib.hid (show L.any (hasI ms) = false by have := H0.out; rwa [List.take_length] at this)
      clear H0
      go_wp2_with fail
      go_returns
      exact ⟨by rw [HC.out, HQ.out]; rfl, HB.out⟩
set_option maxRecDepth 100000 in set_option maxHeartbeats 4000000 in
theorem ref13_inside (d : V3) (a b : Bx) (w : World) (hd : d.may) (ha : a.may d) (hb : b.may d) : Calls Try.prog 46 #[.agg #[.int .i64 d.x, .int .i64 d.y, .int .i64 d.z], .agg #[.int .i64 a.b.x, .int .i64 a.b.y, .int .i64 a.b.z, .int .i64 a.s.x, .int .i64 a.s.y, .int .i64 a.s.z], .agg #[.int .i64 b.b.x, .int .i64 b.b.y, .int .i64 b.b.z, .int .i64 b.s.x, .int .i64 b.s.y, .int .i64 b.s.z]] w (RB w (.bool (boxWithin d a b))) := by
  have HA := Lib.hid (fun W => ref02_All d a W hd ha)
  have HN := Lib.hid (fun x W (h : 0 ≤ x ∧ x ≤ 4096) => ref02_In d b x W hd hb h.1 (by omega))
  have HC := Lib.hid (show boxWithin d a b = !(a.all d).any (fun m => !b.has d m) by rw [boxWithin_eq, refWithin_ok (chk2_eq0 hd ha hb)])
  obtain ⟨hal, hin⟩ := all_small (b := a) hd
  have HIN := Lib.hid hin
  generalize a.all d = L at *
  clear hd ha hb hin
  go_enter Try.func46, Try.ntmps46
  go_wp2_with fail
  refine (HA.out _).mono ?_
  rintro e w1 ⟨v, rfl, ho, hb1⟩
  obtain ⟨base, cap, rfl, rd, _⟩ := own_rd ho
  have hb00 : Below w.heap.size w (((w.alloc (.cells #[.int .i64 d.x, .int .i64 d.y, .int .i64 d.z] 23)).alloc (.cells #[.int .i64 a.b.x, .int .i64 a.b.y, .int .i64 a.b.z, .int .i64 a.s.x, .int .i64 a.s.y, .int .i64 a.s.z] 27)).alloc (.cells #[.int .i64 b.b.x, .int .i64 b.b.y, .int .i64 b.b.z, .int .i64 b.s.x, .int .i64 b.s.y, .int .i64 b.s.z] 27)) := by (repeat (first | (with_reducible exact Below.refl _ _) | (with_reducible assumption) | (with_reducible refine below_alloc ?_ _) | (with_reducible refine below_drewN ?_ _) | (with_reducible refine Below.drew ?_) | (with_reducible refine below_then ?_ (by with_reducible assumption)) | (with_reducible refine Below.setCell ?_ (by go_size) _)))
  have BD := (((Blk.new w 23 #[.int .i64 d.x, .int .i64 d.y, .int .i64 d.z]).alloc (.cells #[.int .i64 a.b.x, .int .i64 a.b.y, .int .i64 a.b.z, .int .i64 a.s.x, .int .i64 a.s.y, .int .i64 a.s.z] 27)).alloc (.cells #[.int .i64 b.b.x, .int .i64 b.b.y, .int .i64 b.b.z, .int .i64 b.s.x, .int .i64 b.s.y, .int .i64 b.s.z] 27)).below hb1
  have BB := (Blk.new ((w.alloc (.cells #[.int .i64 d.x, .int .i64 d.y, .int .i64 d.z] 23)).alloc (.cells #[.int .i64 a.b.x, .int .i64 a.b.y, .int .i64 a.b.z, .int .i64 a.s.x, .int .i64 a.s.y, .int .i64 a.s.z] 27)) 27 #[.int .i64 b.b.x, .int .i64 b.b.y, .int .i64 b.b.z, .int .i64 b.s.x, .int .i64 b.s.y, .int .i64 b.s.z]).below hb1
  simp only [World.size_alloc] at BB
  have HB := Lib.hid (below_then hb00 hb1)
  have HR := Lib.hid rd
  have HBD := Lib.hid BD
  have HBB := Lib.hid BB
  clear ho hb1 rd HA hb00 BD BB
  go_wp2_with fail
  go_loopw [8] (fun i wr => ∃ k : Nat, k ≤ L.length ∧ i = .int .i64 k ∧ (L.take k).any (fun m => !b.has d m) = false ∧ Below w1.heap.size w1 wr) (fun i _ => L.length - (intOf i).toNat)
  case atStart => exact ⟨0, Nat.zero_le _, rfl, by simp, Below.refl _ _⟩
  case round =>
    obtain ⟨k, hk, rfl, h0, hbe⟩ := hrel
    have H0 := Lib.hid h0
    have HE := Lib.hid hbe
    clear h0
    by_cases hlt : k < L.length
    · obtain ⟨bx, off, rfl, hc⟩ := (HR.out.keep hbe) k _ (getElem?_map_int hlt)
      have hx := Lib.hid (any_take_succ hlt H0.out)
      have hbb := HIN.out L[k] (List.getElem_mem hlt)
      have HANY := Lib.hid (fun (h : (!b.has d L[k]) = true) => show L.any (fun m => !b.has d m) = true from List.any_eq_true.2 ⟨L[k], List.getElem_mem hlt, h⟩)
      obtain ⟨x, hxx⟩ : ∃ x, x = L[k] := ⟨_, rfl⟩
      rw [← hxx] at hc hx hbb HANY
      have hcl := World.block_lt_of_cell? wr _ hc
      simp only [] at hcl
      clear hxx
      have HNx := Lib.hid (fun W => HN.out x W hbb)
      have BDr := HBD.out.below hbe
      have BBr := HBB.out.below hbe
      (have d0 := (BDr).cell 0 _ rfl; have d1 := (BDr).cell 1 _ rfl; have d2 := (BDr).cell 2 _ rfl; have dl := (BDr).lt)
      (have g0 := (BBr).cell 0 _ rfl; have g1 := (BBr).cell 1 _ rfl; have g2 := (BBr).cell 2 _ rfl; have g3 := (BBr).cell 3 _ rfl; have g4 := (BBr).cell 4 _ rfl; have g5 := (BBr).cell 5 _ rfl; have gl := (BBr).lt)
      clear hbe BDr BBr
      cases hp : b.has d x with
      | true =>
        rw [hp] at HNx hx
        have I1 := Lib.hid (fun (y : Aft wr) => Calls.aft_of (x := y) (HNx.out _))
        clear hp HANY
        go_wp2_with fail
        (refine wp_region_aft (by kernel_rfl) (by kernel_rfl) ?_; (repeat (any_goals (first | go_big_quiet_step (with_reducible exact I1.out _) | quiet_step (with_reducible exact I1.out _) | (refine wpQuiet_step (fun K hK => ?_); go_simp; split <;> (refine hK _ ?_; clear hK K))))); all_goals (refine wpQuiet_nil ?_; intro wq hw'; obtain ⟨x1, hx1⟩ := hw'; have hbq := x1.h; rw [← hx1] at hbq; clear hx1 x1))
        go_wp2_with fail
        go_roundw
        case rel => exact ⟨k + 1, by omega, by go_num, hx.out, HE.out.trans (hbq.mono HE.out.size)⟩
        case measure => (simp [intOf] <;> omega)
      | false =>
        have HQ := Lib.hid (HANY.out (by rw [hp]; rfl))
        rw [hp] at HNx
        have I1 := Lib.hid (fun (y : Aft wr) => Calls.aft_of (x := y) (HNx.out _))
        clear hp HANY hx
        go_wp2_with fail
        (refine wp_region_aft (by kernel_rfl) (by kernel_rfl) ?_; (repeat (any_goals (first | go_big_quiet_step (with_reducible exact I1.out _) | quiet_step (with_reducible exact I1.out _) | (refine wpQuiet_step (fun K hK => ?_); go_simp; split <;> (refine hK _ ?_; clear hK K))))); all_goals (refine wpQuiet_nil ?_; intro wq hw'; obtain ⟨x1, hx1⟩ := hw'; have hbq := x1.h; rw [← hx1] at hbq; clear hx1 x1))
        go_wp2_with fail
        go_returns
        exact ⟨by rw [HC.out, HQ.out]; rfl, HB.out.trans ((HE.out.trans (hbq.mono HE.out.size)).mono HB.out.size)⟩
    · obtain rfl : k = L.length := by omega
      have HQ := Lib.hid (show L.any (fun m => !b.has d m) = false by have := H0.out; rwa [List.take_length] at this)
      clear H0 hbe
      go_wp2_with fail
      go_returns
      exact ⟨by rw [HC.out, HQ.out]; rfl, HB.out.trans (HE.out.mono HB.out.size)⟩
end
end Go.Proofs.Ytofoenlhbmammaa
