/- REF 13: the first step that leads anywhere: the document's. -/
import Derived.Deep.RegionHeld3
import Derived.Deep.DeepCutAuto
import Derived.Test.YtofoenlhbmammaaQ0RefGDG13
set_option linter.unusedVariables false
set_option linter.unusedSimpArgs false
namespace Go.Proofs.Ytofoenlhbmammaa

section
open Go.RowKit Go.Shelf

/-- What stays while a step is sought. -/
structure OnW (w W : World) (d : V3) (c : Bx) : Prop where
  d : Blk W w.heap.size 23 #[.int .i64 d.x, .int .i64 d.y, .int .i64 d.z]
  b : Blk W (w.heap.size + 1) 27 #[.int .i64 c.b.x, .int .i64 c.b.y, .int .i64 c.b.z, .int .i64 c.s.x, .int .i64 c.s.y, .int .i64 c.s.z]
  o : Blk W (w.heap.size + 1 + 1) 27 #[.int .i64 0, .int .i64 0, .int .i64 0, .int .i64 0, .int .i64 0, .int .i64 0]
  hb : Below w.heap.size w W
theorem OnW.keep {w W W' : World} {d : V3} {c : Bx} (h : OnW w W d c) (hb : Below W.heap.size W W') : OnW w W' d c := ⟨h.d.below hb, h.b.below hb, h.o.below hb, below_then h.hb hb⟩
theorem on_new (w : World) (d : V3) (b : Bx) : OnW w (((w.alloc (.cells #[.int .i64 d.x, .int .i64 d.y, .int .i64 d.z] 23)).alloc (.cells #[.int .i64 b.b.x, .int .i64 b.b.y, .int .i64 b.b.z, .int .i64 b.s.x, .int .i64 b.s.y, .int .i64 b.s.z] 27)).alloc (.cells #[.int .i64 0, .int .i64 0, .int .i64 0, .int .i64 0, .int .i64 0, .int .i64 0] 27)) d b := by
  have h1 := Blk.new (w.alloc (.cells #[.int .i64 d.x, .int .i64 d.y, .int .i64 d.z] 23)) 27 #[.int .i64 b.b.x, .int .i64 b.b.y, .int .i64 b.b.z, .int .i64 b.s.x, .int .i64 b.s.y, .int .i64 b.s.z]
  have h2 := Blk.new ((w.alloc (.cells #[.int .i64 d.x, .int .i64 d.y, .int .i64 d.z] 23)).alloc (.cells #[.int .i64 b.b.x, .int .i64 b.b.y, .int .i64 b.b.z, .int .i64 b.s.x, .int .i64 b.s.y, .int .i64 b.s.z] 27)) 27 #[.int .i64 0, .int .i64 0, .int .i64 0, .int .i64 0, .int .i64 0, .int .i64 0]
  simp only [World.size_alloc] at h1 h2
  exact ⟨((Blk.new w _ _).alloc _).alloc _, h1.alloc _, h2, by (repeat (first | (with_reducible exact Below.refl _ _) | (with_reducible assumption) | (with_reducible refine below_alloc ?_ _) | (with_reducible refine below_drewN ?_ _) | (with_reducible refine Below.drew ?_) | (with_reducible refine below_then ?_ (by with_reducible assumption)) | (with_reducible refine Below.setCell ?_ (by go_size) _)))⟩
theorem stepR_J (d : V3) (ms : List Nat) (x : Bx) (k q : Nat) (hq : q < 2) : stepR d ms x k (q : Int) = if okJ d ms x (2 * k + q) then (stepJ d x (2 * k + q)).can d else x := by
  have h1 : (2 * k + q) / 2 = k := by omega
  have h2 : (((2 * k + q : Nat) : Int)) % 2 = (q : Int) := by omega
  unfold stepR okStep okJ stepJ
  rw [h1, h2]
set_option maxRecDepth 100000 in set_option maxHeartbeats 4000000 in
theorem ref13_once (d : V3) (x : Bx) (bs : Option Addr) (cs : Nat) (ms : List Nat) (w : World) (R : Bx) (hd : d.may) (hx : x.may d) (hs : SetIn w bs ms) (hR : (nextJ d ms x).getD x = R) :
    Calls Try.prog 51 #[.agg #[.int .i64 d.x, .int .i64 d.y, .int .i64 d.z], .agg #[.int .i64 x.b.x, .int .i64 x.b.y, .int .i64 x.b.z, .int .i64 x.s.x, .int .i64 x.s.y, .int .i64 x.s.z], .slice bs ms.length cs] w (RB w (.agg #[.int .i64 R.b.x, .int .i64 R.b.y, .int .i64 R.b.z, .int .i64 R.s.x, .int .i64 R.s.y, .int .i64 R.s.z])) := by
  have HSt := Lib.hid (fun (k : Nat) (q : Int) (hk : k < 3) (hq : q = 0 ∨ q = 1) W (hw : Below w.heap.size w W) => ref13_step d x k q bs cs ms W hd hx hk hq (hs.keep hw))
  have hgd : Try.prog.eqGuardType Try.prog.depth 27 = false := by kernel_rfl
  have HD := Lib.hid hd
  have HX := Lib.hid hx
  have HR := Lib.hid hR
  have mixed : Try.prog.follows .mixedOrders = true := by kernel_rfl
  have HG0 := Lib.hid (on_new w d x)
  clear hs hd hx hR
  go_enter Try.func51, Try.ntmps51
  go_wp2_with fail
  go_loopw [7] (fun i wr => ∃ k : Nat, k ≤ 3 ∧ i = .int .i64 k ∧ (∀ j, j < 2 * k → okJ d ms x j = false) ∧ OnW w wr d x) (fun i _ => 3 - (intOf i).toNat)
  case atStart => exact ⟨0, by omega, rfl, fun j hj => absurd hj (by omega), HG0.out⟩
  case round =>
    obtain ⟨k, hk, rfl, hno, hG⟩ := hrel
    have HNO := Lib.hid hno
    have HG := Lib.hid hG
    clear hno hG HG0
    by_cases hlt : k < 3
    · have hk3 : decide ((k : Int) < 3) = true := decide_eq_true (by omega)
      go_wp2_with fail
      go_loopw [8] (fun i wx => ∃ q : Nat, q ≤ 2 ∧ i = .int .i64 q ∧ (∀ j, j < 2 * k + q → okJ d ms x j = false) ∧ OnW w wx d x) (fun i _ => 2 - (intOf i).toNat)
      case atStart => exact ⟨0, by omega, rfl, HNO.out, HG.out⟩
      case round =>
        clear HNO HG
        obtain ⟨q, hq, rfl, hno, hG⟩ := hrel
        by_cases hlq : q < 2
        · have hq2 : decide ((q : Int) < 2) = true := decide_eq_true (by omega)
          have hJ := stepR_J d ms x k q hlq
          have HSq := Lib.hid (fun W (hw : Below w.heap.size w W) => HSt.out k (q : Int) hlt (by omega) W hw)
          have HNX := Lib.hid (fun h => nextJ_here (d := d) (s := ms) (b := x) (j := 2 * k + q) (by omega) hno h)
          have HVL := Lib.hid (fun h => okJ_vol (s := ms) (j := 2 * k + q) HD.out HX.out (by omega) h)
          have HNO := Lib.hid hno
          have HG := Lib.hid hG
          have d0 := hG.d.cell 0 _ rfl
          have d1 := hG.d.cell 1 _ rfl
          have d2 := hG.d.cell 2 _ rfl
          have b0 := hG.b.cell 0 _ rfl
          have b1 := hG.b.cell 1 _ rfl
          have b2 := hG.b.cell 2 _ rfl
          have b3 := hG.b.cell 3 _ rfl
          have b4 := hG.b.cell 4 _ rfl
          have b5 := hG.b.cell 5 _ rfl
          have hdl := hG.d.lt
          have hbl := hG.b.lt
          generalize stepR d ms x k (q : Int) = y at *
          have HJ := Lib.hid hJ
          clear hJ hno hG
          go_wp2_with fail
          refine (HSq.out _ HG.out.hb).mono ?_
          rintro e wa ⟨rfl, hba⟩
          have hGa := HG.out.keep hba
          have HGc := Lib.hid (hGa.keep (below_alloc (Below.refl _ _) (.cells #[.int .i64 y.b.x, .int .i64 y.b.y, .int .i64 y.b.z, .int .i64 y.s.x, .int .i64 y.s.y, .int .i64 y.s.z] 27)))
          clear d0 d1 d2 b0 b1 b2 b3 b4 b5 hdl hbl HG hba HSq
          have HCB := Lib.hid (Blk.new wa 27 #[.int .i64 y.b.x, .int .i64 y.b.y, .int .i64 y.b.z, .int .i64 y.s.x, .int .i64 y.s.y, .int .i64 y.s.z])
          clear hGa
          go_upto_region 8 with fail
          obtain ⟨wc, hwc⟩ : ∃ wc, wc = wa.alloc (.cells #[.int .i64 y.b.x, .int .i64 y.b.y, .int .i64 y.b.z, .int .i64 y.s.x, .int .i64 y.s.y, .int .i64 y.s.z] 27) := ⟨_, rfl⟩
          rw [← hwc] at HGc HCB ⊢
          clear hwc
          generalize wa.heap.size = cB at *
          have hGc := HGc.out
          have hcB := HCB.out
          have b0 := hGc.b.cell 0 _ rfl
          have b1 := hGc.b.cell 1 _ rfl
          have b2 := hGc.b.cell 2 _ rfl
          have b3 := hGc.b.cell 3 _ rfl
          have b4 := hGc.b.cell 4 _ rfl
          have b5 := hGc.b.cell 5 _ rfl
          have c0 := hcB.cell 0 _ rfl
          have c1 := hcB.cell 1 _ rfl
          have c2 := hcB.cell 2 _ rfl
          have c3 := hcB.cell 3 _ rfl
          have c4 := hcB.cell 4 _ rfl
          have c5 := hcB.cell 5 _ rfl
          clear hGc hcB
          cases hok : okJ d ms x (2 * k + q) with
          | false =>
            have hy : y = x := by rw [HJ.out, hok]; rfl
            have HN2 := Lib.hid (show ∀ j, j < 2 * k + (q + 1) → okJ d ms x j = false from fun j hj => by
              by_cases e : j = 2 * k + q
              · subst e; exact hok
              · exact HNO.out j (by omega))
            have heq : ∀ w, (binOp .neq 27 (.agg #[.int .i64 y.b.x, .int .i64 y.b.y, .int .i64 y.b.z, .int .i64 y.s.x, .int .i64 y.s.y, .int .i64 y.s.z]) (.agg #[.int .i64 x.b.x, .int .i64 x.b.y, .int .i64 x.b.z, .int .i64 x.s.x, .int .i64 x.s.y, .int .i64 x.s.z])).run Try.prog w = .ok (.bool false) w := fun w => by rw [run_neq_box, decide_eq_true hy]; rfl
            clear hok hy
            go_wp2_with fail
            go_roundw
            case rel => exact ⟨q + 1, by omega, by go_num, HN2.out, HGc.out⟩
            case measure => (simp [intOf] <;> omega)
          | true =>
            have hy : y = (stepJ d x (2 * k + q)).can d := by rw [HJ.out, hok]; rfl
            have hn := HNX.out hok
            obtain ⟨v1, v2, v3⟩ := HVL.out hok
            rw [← hy] at hn v3
            have hne : ¬ y = x := fun e => by rw [e] at v3; omega
            have HRy := Lib.hid (show R = y by rw [← HR.out, hn]; rfl)
            have heq : ∀ w, (binOp .neq 27 (.agg #[.int .i64 y.b.x, .int .i64 y.b.y, .int .i64 y.b.z, .int .i64 y.s.x, .int .i64 y.s.y, .int .i64 y.s.z]) (.agg #[.int .i64 x.b.x, .int .i64 x.b.y, .int .i64 x.b.z, .int .i64 x.s.x, .int .i64 x.s.y, .int .i64 x.s.z])).run Try.prog w = .ok (.bool true) w := fun w => by rw [run_neq_box, decide_eq_false hne]; rfl
            have HS := Lib.hid (((((((HGc.out.o).set 0 (.int .i64 y.b.x)).set 1 (.int .i64 y.b.y)).set 2 (.int .i64 y.b.z)).set 3 (.int .i64 y.s.x)).set 4 (.int .i64 y.s.y)).set 5 (.int .i64 y.s.z))
            have HE := Lib.hid ((((((((HGc.out.hb).setCell (p := ⟨(w.heap.size + 1 + 1), 0, none⟩) (show w.heap.size ≤ (w.heap.size + 1 + 1) by omega) (.int .i64 y.b.x)).setCell (p := ⟨(w.heap.size + 1 + 1), 1, none⟩) (show w.heap.size ≤ (w.heap.size + 1 + 1) by omega) (.int .i64 y.b.y)).setCell (p := ⟨(w.heap.size + 1 + 1), 2, none⟩) (show w.heap.size ≤ (w.heap.size + 1 + 1) by omega) (.int .i64 y.b.z)).setCell (p := ⟨(w.heap.size + 1 + 1), 3, none⟩) (show w.heap.size ≤ (w.heap.size + 1 + 1) by omega) (.int .i64 y.s.x)).setCell (p := ⟨(w.heap.size + 1 + 1), 4, none⟩) (show w.heap.size ≤ (w.heap.size + 1 + 1) by omega) (.int .i64 y.s.y)).setCell (p := ⟨(w.heap.size + 1 + 1), 5, none⟩) (show w.heap.size ≤ (w.heap.size + 1 + 1) by omega) (.int .i64 y.s.z)))
            (have o0 := (HGc.out.o).cell 0 _ rfl; have o1 := (HGc.out.o).cell 1 _ rfl; have o2 := (HGc.out.o).cell 2 _ rfl; have o3 := (HGc.out.o).cell 3 _ rfl; have o4 := (HGc.out.o).cell 4 _ rfl; have o5 := (HGc.out.o).cell 5 _ rfl; have f0 := (HGc.out.o).frozen 0; have f1 := (HGc.out.o).frozen 1; have f2 := (HGc.out.o).frozen 2; have f3 := (HGc.out.o).frozen 3; have f4 := (HGc.out.o).frozen 4; have f5 := (HGc.out.o).frozen 5; have ol := (HGc.out.o).lt)
            clear hok hy hn v1 v2 v3 hne
            go_wp2_with fail
            (refine bodyPost_ret (ret_box Try.results51 rfl (ld_box (x := y) HS.out)) rfl ?_)
            exact ⟨by rw [HRy.out], HE.out⟩
        · obtain rfl : q = 2 := by omega
          have HN2 := Lib.hid (show ∀ j, j < 2 * (k + 1) → okJ d ms x j = false from fun j hj => hno j (by omega))
          have HG := Lib.hid hG
          clear hno hG
          go_wp2_with fail
          go_roundw
          case rel => exact ⟨k + 1, by omega, by go_num, HN2.out, HG.out⟩
          case measure => (simp [intOf] <;> omega)
    · obtain rfl : k = 3 := by omega
      have HRx := Lib.hid (show R = x by rw [← HR.out, nextJ_no (fun i hi => HNO.out i (by omega))]; rfl)
      have HS := Lib.hid (((((((HG.out.o).set 0 (.int .i64 x.b.x)).set 1 (.int .i64 x.b.y)).set 2 (.int .i64 x.b.z)).set 3 (.int .i64 x.s.x)).set 4 (.int .i64 x.s.y)).set 5 (.int .i64 x.s.z))
      have HE := Lib.hid ((((((((HG.out.hb).setCell (p := ⟨(w.heap.size + 1 + 1), 0, none⟩) (show w.heap.size ≤ (w.heap.size + 1 + 1) by omega) (.int .i64 x.b.x)).setCell (p := ⟨(w.heap.size + 1 + 1), 1, none⟩) (show w.heap.size ≤ (w.heap.size + 1 + 1) by omega) (.int .i64 x.b.y)).setCell (p := ⟨(w.heap.size + 1 + 1), 2, none⟩) (show w.heap.size ≤ (w.heap.size + 1 + 1) by omega) (.int .i64 x.b.z)).setCell (p := ⟨(w.heap.size + 1 + 1), 3, none⟩) (show w.heap.size ≤ (w.heap.size + 1 + 1) by omega) (.int .i64 x.s.x)).setCell (p := ⟨(w.heap.size + 1 + 1), 4, none⟩) (show w.heap.size ≤ (w.heap.size + 1 + 1) by omega) (.int .i64 x.s.y)).setCell (p := ⟨(w.heap.size + 1 + 1), 5, none⟩) (show w.heap.size ≤ (w.heap.size + 1 + 1) by omega) (.int .i64 x.s.z)))
      have b0 := HG.out.b.cell 0 _ rfl
      have b1 := HG.out.b.cell 1 _ rfl
      have b2 := HG.out.b.cell 2 _ rfl
      have b3 := HG.out.b.cell 3 _ rfl
      have b4 := HG.out.b.cell 4 _ rfl
      have b5 := HG.out.b.cell 5 _ rfl
      (have o0 := (HG.out.o).cell 0 _ rfl; have o1 := (HG.out.o).cell 1 _ rfl; have o2 := (HG.out.o).cell 2 _ rfl; have o3 := (HG.out.o).cell 3 _ rfl; have o4 := (HG.out.o).cell 4 _ rfl; have o5 := (HG.out.o).cell 5 _ rfl; have f0 := (HG.out.o).frozen 0; have f1 := (HG.out.o).frozen 1; have f2 := (HG.out.o).frozen 2; have f3 := (HG.out.o).frozen 3; have f4 := (HG.out.o).frozen 4; have f5 := (HG.out.o).frozen 5; have ol := (HG.out.o).lt)
      go_wp2_with fail
      (refine bodyPost_ret (ret_box Try.results51 rfl (ld_box (x := x) HS.out)) rfl ?_)
      exact ⟨by rw [HRx.out], HE.out⟩
end
end Go.Proofs.Ytofoenlhbmammaa
