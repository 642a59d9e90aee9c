/- REF 14: the sides counted. -/
import Derived.Test.YthabpiphfaedaaaDoorQ0RefScB
namespace Go.Proofs.YthabpiphfaedaaaDoor

section
open Go.RowKit Go.Shelf

theorem sideN_eq {d : V3} {m j : Nat} {b : Int} (hd : d.may) (hm : m < d.n.toNat) (hj : j < 3) : d.step m j b = ((sideN d j b m : Nat) : Int) := by
  have := V3.st_in hd (m := m) (by omega) (by omega) hj b
  unfold sideN
  omega
set_option maxRecDepth 100000 in set_option maxHeartbeats 4000000 in
theorem ref14_counted (d : V3) (ba bb : Option Addr) (ca cb : Nat) (a b : List Bool) (w : World) (hd : d.may) (ha : BIn w ba a) (hb : BIn w bb b) (la : a.length = d.n.toNat) (lb : b.length = d.n.toNat) :
    Calls Tryd.prog 67 #[.agg #[.int .i64 d.x, .int .i64 d.y, .int .i64 d.z], .slice ba a.length ca, .slice bb b.length cb] w (RB w (.int .i64 (cntV d a b : Nat))) := by
  have hnn := V3.n_le hd
  have HO1 := Lib.hid (fun (m j : Nat) W (hm : m < d.n.toNat) (hj : j < 3) => by have hh := ref01_On d m j 1 W hd (by omega) (by omega) hj (by omega) (by omega); rw [sideN_eq hd hm hj] at hh; exact hh)
  have HO2 := Lib.hid (fun (m j : Nat) W (hm : m < d.n.toNat) (hj : j < 3) => by have hh := ref01_OnM d m j W hd (by omega) (by omega) hj; rw [sideN_eq hd hm hj] at hh; exact hh)
  have HS := Lib.hid (fun (m j : Nat) (c : Int) (hm : m < d.n.toNat) (hj : j < 3) => sideN_in (b := c) hd hj hm)
  have HV := Lib.hid (show cntV d a b = cntTo d (tAt a) (tAt b) a.length by rw [la]; rfl)
  have HC := Lib.hid (cntTo_succ d (tAt a) (tAt b))
  have HCL := Lib.hid (cntTo_le d (tAt a) (tAt b))
  have HR := Lib.hid (roundC_succ d (tAt a) (tAt b))
  have HRL := Lib.hid (roundC_le d (tAt a) (tAt b))
  have H6 := Lib.hid (fun (k i : Nat) => (show one6 d (tAt a) (tAt b) k i = if d.at k = 1 then 0 else both (tAt a i) (tAt b (sideN d k 1 i)) + both (tAt a i) (tAt b (sideN d k (-1) i)) from rfl))
  have HA := Lib.hid ha
  have HBB := Lib.hid hb
  have hal : a.length ≤ 4096 := by omega
  have LA := Lib.hid la
  have LB := Lib.hid lb
  clear ha hb hd la lb
  go_enter Tryd.func67, Tryd.ntmps67
  go_wp2_with fail
  have BD := Lib.hid (Blk.new w 23 #[.int .i64 d.x, .int .i64 d.y, .int .i64 d.z])
  have hbw : Below w.heap.size w (w.alloc (.cells #[.int .i64 d.x, .int .i64 d.y, .int .i64 d.z] 23)) := by (repeat (first | (with_reducible exact Below.refl _ _) | (with_reducible assumption) | (with_reducible refine below_alloc ?_ _) | (with_reducible refine below_drewN ?_ _) | (with_reducible refine Below.drew ?_) | (with_reducible refine below_then ?_ (by with_reducible assumption)) | (with_reducible refine Below.setCell ?_ (by go_size) _)))
  obtain ⟨w1, hw1⟩ : ∃ w1, w1 = w.alloc (.cells #[.int .i64 d.x, .int .i64 d.y, .int .i64 d.z] 23) := ⟨_, rfl⟩
  rw [← hw1] at BD hbw ⊢
  have HB := Lib.hid hbw
  clear hw1 hbw
  go_loopw [7, 8] (fun v x wr => ∃ m : Nat, m ≤ a.length ∧ x = .int .i64 m ∧ v = .int .i64 (cntTo d (tAt a) (tAt b) m : Nat) ∧ Below w1.heap.size w1 wr) (fun _ x _ => a.length - (intOf x).toNat)
  case atStart => exact ⟨0, by omega, rfl, rfl, Below.refl _ _⟩
  case round =>
    obtain ⟨m, hm, rfl, rfl, hbe⟩ := hrel
    have HBr := Lib.hid hbe
    clear hbe
    have hcl := HCL.out m
    have hc1 := Lib.hid (HC.out m)
    obtain ⟨Z, hZ⟩ : ∃ Z, Z = cntTo d (tAt a) (tAt b) m := ⟨_, rfl⟩
    rw [← hZ] at hcl hc1
    have hZ2 := Lib.hid hZ
    by_cases hlt : m < a.length
    · rw [← hZ]
      clear hZ
      have hmn : m < d.n.toNat := by have := LA.out; omega
      go_wp2_with fail
      go_loopw [7, 9] (fun v x wr => ∃ j : Nat, j ≤ 3 ∧ x = .int .i64 j ∧ v = .int .i64 ((Z + roundC d (tAt a) (tAt b) m j : Nat) : Int) ∧ Below w1.heap.size w1 wr) (fun _ x _ => 3 - (intOf x).toNat)
      case atStart => exact ⟨0, by omega, rfl, rfl, HBr.out⟩
      case round =>
        clear HBr
        obtain ⟨j, hj, rfl, rfl, hbe⟩ := hrel
        have HBr := Lib.hid hbe
        clear hbe
        have hrl := HRL.out m j
        by_cases hj3 : j < 3
        · have hR := Lib.hid (HR.out m j)
          have h6 := H6.out j m
          obtain ⟨bA, oA, rfl, cA, _⟩ := HA.out.at hlt
          have fA := ((HB.out.trans (HBr.out.mono HB.out.size)).cell (p := ⟨bA, oA + m, none⟩) (World.block_lt_of_cell? w _ cA)).trans cA
          have hs1 := HS.out m j 1 hmn hj3
          have hs2 := HS.out m j (-1) hmn hj3
          have K1 := Lib.hid (fun W => HO1.out m j W hmn hj3)
          have K2 := Lib.hid (fun W => HO2.out m j W hmn hj3)
          have bd := BD.out.below HBr.out
          have hcd := bd.dims.at j hj3
          have bdl := bd.lt
          generalize sideN d j 1 m = s1 at *
          generalize sideN d j (-1) m = s2 at *
          generalize roundC d (tAt a) (tAt b) m j = C at *
          generalize tAt a m = x at *
          obtain ⟨D, hD⟩ : ∃ D, D = d.at j := ⟨_, rfl⟩
          rw [← hD] at h6 hcd
          clear cA hD
          cases x with
          | false =>
            have h60 := Lib.hid (show one6 d (tAt a) (tAt b) j m = 0 by rw [h6]; simp [both])
            clear h6 bd
            go_wp2_with fail
            (go_roundw; (case rel => exact ⟨j + 1, by omega, by go_num, by rw [hR.out, h60.out]; go_num, HBr.out⟩); (case measure => (simp [intOf] <;> omega)))
          | true =>
            by_cases hd1 : D = 1
            · have e1 : (D == 1) = true := by simpa using hd1
              have h60 := Lib.hid (show one6 d (tAt a) (tAt b) j m = 0 by rw [h6, if_pos hd1])
              clear h6 bd hd1
              go_wp2_with fail
              (go_roundw; (case rel => exact ⟨j + 1, by omega, by go_num, by rw [hR.out, h60.out]; go_num, HBr.out⟩); (case measure => (simp [intOf] <;> omega)))
            · have e1 : (D == 1) = false := by simpa using hd1
              rw [if_neg hd1] at h6
              obtain ⟨bB, oB, rfl, cB1, _⟩ := HBB.out.at (show s1 < b.length by have := LB.out; omega)
              obtain ⟨b', o', e', cB2, _⟩ := HBB.out.at (show s2 < b.length by have := LB.out; omega)
              cases e'
              have hs1b : s1 < b.length := by have := LB.out; omega
              have hs2b : s2 < b.length := by have := LB.out; omega
              have lB := World.block_lt_of_cell? w _ cB1
              have C1 := Lib.hid cB1
              have C2 := Lib.hid cB2
              generalize tAt b s1 = y1 at *
              generalize tAt b s2 = y2 at *
              have h6' := Lib.hid h6
              clear h6 hd1 cB1 cB2
              (have d0 := (bd).cell 0 _ rfl; have d1 := (bd).cell 1 _ rfl; have d2 := (bd).cell 2 _ rfl)
              clear bd
              go_wp2_with fail
              refine (K1.out _).mono ?_
              rintro e w2 ⟨rfl, hb2⟩
              have HBr := Lib.hid (HBr.out.trans (hb2.mono HBr.out.size))
              have f1 := ((HB.out.trans (HBr.out.mono HB.out.size)).cell (p := ⟨bB, oB + s1, none⟩) lB).trans C1.out
              have bd := BD.out.below HBr.out
              have bdl := bd.lt
              clear hb2 d0 d1 d2 hcd fA
              (have d0 := (bd).cell 0 _ rfl; have d1 := (bd).cell 1 _ rfl; have d2 := (bd).cell 2 _ rfl)
              clear bd
              cases y1 <;> cases y2
              all_goals
                go_wp2_with fail
                refine (K2.out _).mono ?_
                rintro e w3 ⟨rfl, hb3⟩
                have HBr := Lib.hid (HBr.out.trans (hb3.mono HBr.out.size))
                have f2 := ((HB.out.trans (HBr.out.mono HB.out.size)).cell (p := ⟨bB, oB + s2, none⟩) lB).trans C2.out
                clear hb3 d0 d1 d2 f1
                go_wp2_with fail
                go_roundw
                case rel => exact ⟨j + 1, by omega, by go_num, by rw [hR.out, h6'.out]; simp only [both]; go_num, HBr.out⟩
                case measure => (simp [intOf] <;> omega)
        · obtain rfl : j = 3 := by omega
          have HX := Lib.hid (show cntTo d (tAt a) (tAt b) (m + 1) = Z + roundC d (tAt a) (tAt b) m 3 from hc1.out)
          go_wp2_with fail
          go_roundw
          case rel => exact ⟨m + 1, by omega, by go_num, by rw [HX.out], HBr.out⟩
          case measure => (simp [intOf] <;> omega)
    · obtain rfl : m = a.length := by omega
      have HZV := Lib.hid (show Z = cntV d a b by rw [HV.out]; exact hZ)
      rw [← hZ]
      clear hZ hZ2 hc1 hlt hm hcl
      go_wp2_with fail
      go_returns
      exact ⟨by rw [← HZV.out]; rfl, HB.out.trans (HBr.out.mono HB.out.size)⟩
end
end Go.Proofs.YthabpiphfaedaaaDoor
