/- REF 06: the midplanes that are passed. -/
import Derived.Test.YthabpiphfaedaaaQ0RefTk
namespace Go.Proofs.Ythabpiphfaedaaa

section
open Go.RowKit Go.Shelf

theorem there_rb {n : Option Addr} {c : Nat} {ws : List Nat} {k : Int} {w : World} (hr : SetIn w n ws) (hk : k ≤ 9223372036854775807) : Calls Try.prog 48 #[.slice n ws.length c, .int .i64 k] w (RB w (.bool (hasI ws k))) :=
  (ref03_ThereI n c ws k w hr hk).mono (fun e w' ⟨h1, h2⟩ => ⟨h1, by rw [h2]; exact Below.refl _ _⟩)
set_option maxRecDepth 100000 in set_option maxHeartbeats 4000000 in
theorem ref06_Passes (d : V3) (p : Pl) (w : World) : Calls Try.prog 19 #[.agg #[.int .i64 d.x, .int .i64 d.y, .int .i64 d.z], .agg #[.int .i64 p.b.b.x, .int .i64 p.b.b.y, .int .i64 p.b.b.z, .int .i64 p.b.s.x, .int .i64 p.b.s.y, .int .i64 p.b.s.z, .bool p.t0, .bool p.t1, .bool p.t2]] w (RLE w (passV d p) (plChk d p)) := by
  obtain ⟨i0, hi, iz0, iz1, iz2⟩ := info_parts infoInt
  have HC := Lib.hid (fun W => ref06_Check d p W)
  by_cases hz : plChk d p = 0
  · have hf := pl_facts hz
    have hd := hf.may
    have hnn := V3.n_le hd
    have hnp := V3.n_pos hd
    have HT := Lib.hid (fun W => ref06_Taken d p W hz)
    have HN := Lib.hid (fun W => ref01_N d W hd)
    have HON := Lib.hid (fun (m : Int) (k : Nat) W (hm : 0 ≤ m ∧ m < d.n) (hk : k < 3) => ref01_OnM d m k W hd hm.1 hm.2 hk)
    have HST := Lib.hid (fun (m : Int) (k : Nat) (hm : 0 ≤ m ∧ m < d.n) (hk : k < 3) => V3.st_in hd hm.1 hm.2 hk (-1))
    have HPA := Lib.hid (passR_all hz)
    have HPS := Lib.hid (passR_succ d p)
    have HPL := Lib.hid (passR_len d p)
    have HES := Lib.hid (endR_succ d p)
    have HSI := Lib.hid (fun (m : Int) (k : Nat) => (show sideIn d p m k = (decide (1 < d.at k) && (hasI (linksV d p) (k * d.n + m) || hasI (linksV d p) (k * d.n + d.step m k (-1)))) from rfl))
    have HRP := Lib.hid (fun (m : Int) => (show refP d p m = (endR d p m 3 && !hasI (midsV d p) m) from rfl))
    have FM := Lib.hid (And.intro (midsV_fit d p) (linksV_fit d p))
    have l1 := midsV_len d p
    have l2 := linksV_len d p
    rw [hz] at HC ⊢
    generalize midsV d p = M at *
    generalize linksV d p = C at *
    clear hz hf hd
    go_enter Try.func19, Try.ntmps19
    go_wp2_with fail
    refine (HC.out _).mono ?_
    rintro e w1 ⟨rfl, hb1⟩
    (have BD := Lib.hid (((Blk.new w 23 #[.int .i64 d.x, .int .i64 d.y, .int .i64 d.z]).alloc (.cells #[.int .i64 p.b.b.x, .int .i64 p.b.b.y, .int .i64 p.b.b.z, .int .i64 p.b.s.x, .int .i64 p.b.s.y, .int .i64 p.b.s.z, .bool p.t0, .bool p.t1, .bool p.t2] 28)).below hb1); have BP := Lib.hid ((by have := (Blk.new (w.alloc (.cells #[.int .i64 d.x, .int .i64 d.y, .int .i64 d.z] 23)) 28 #[.int .i64 p.b.b.x, .int .i64 p.b.b.y, .int .i64 p.b.b.z, .int .i64 p.b.s.x, .int .i64 p.b.s.y, .int .i64 p.b.s.z, .bool p.t0, .bool p.t1, .bool p.t2]).below hb1; rwa [World.size_alloc] at this : Blk w1 (w.heap.size + 1) 28 #[.int .i64 p.b.b.x, .int .i64 p.b.b.y, .int .i64 p.b.b.z, .int .i64 p.b.s.x, .int .i64 p.b.s.y, .int .i64 p.b.s.z, .bool p.t0, .bool p.t1, .bool p.t2])); have HB := Lib.hid (below_then (show Below w.heap.size w ((w.alloc (.cells #[.int .i64 d.x, .int .i64 d.y, .int .i64 d.z] 23)).alloc (.cells #[.int .i64 p.b.b.x, .int .i64 p.b.b.y, .int .i64 p.b.b.z, .int .i64 p.b.s.x, .int .i64 p.b.s.y, .int .i64 p.b.s.z, .bool p.t0, .bool p.t1, .bool p.t2] 28)) by (repeat (first | (with_reducible exact Below.refl _ _) | (with_reducible assumption) | (with_reducible refine below_alloc ?_ _) | (with_reducible refine below_drewN ?_ _) | (with_reducible refine Below.drew ?_) | (with_reducible refine below_then ?_ (by with_reducible assumption)) | (with_reducible refine Below.setCell ?_ (by go_size) _)))) hb1))
    clear hb1
    (have d0 := (BD.out).cell 0 _ rfl; have d1 := (BD.out).cell 1 _ rfl; have d2 := (BD.out).cell 2 _ rfl)
    (have p0 := (BP.out).cell 0 _ rfl; have p1 := (BP.out).cell 1 _ rfl; have p2 := (BP.out).cell 2 _ rfl; have p3 := (BP.out).cell 3 _ rfl; have p4 := (BP.out).cell 4 _ rfl; have p5 := (BP.out).cell 5 _ rfl; have p6 := (BP.out).cell 6 _ rfl; have p7 := (BP.out).cell 7 _ rfl; have p8 := (BP.out).cell 8 _ rfl)
    go_wp2_with fail
    refine (HT.out _).mono ?_
    rintro e w2 ⟨v, u, rfl, ov, ou, hb2⟩
    have HB2 := Lib.hid (below_then HB.out hb2)
    obtain ⟨bm, cm, rfl, sm, _⟩ := set_of_own ov (by omega) FM.out.1
    obtain ⟨bl, cl, rfl, sl, _⟩ := set_of_own ou (by omega) FM.out.2
    have HL := Lib.hid (fun (x : Int) W (h : Below w2.heap.size w2 W) (hk : x ≤ 9223372036854775807) => there_rb (c := cl) (sl.keep h) hk)
    have HM := Lib.hid (fun (x : Int) W (h : Below w2.heap.size w2 W) (hk : x ≤ 9223372036854775807) => there_rb (c := cm) (sm.keep h) hk)
    have BD2 := Lib.hid (BD.out.below hb2)
    clear hb2 ov ou sm sl BD BP HB
    (clear d0 d1 d2 p0 p1 p2 p3 p4 p5 p6 p7 p8)
    go_wp2_with fail
    go_loopw [9, 10] (fun v x wr => ∃ k : Nat, (k : Int) ≤ d.n ∧ x = .int .i64 k ∧ wr.ownsRow w2.heap.size 3 1 v (passR d p k).length (ic (passR d p k)) ∧ Below w2.heap.size w2 wr) (fun _ x _ => d.n.toNat - (intOf x).toNat)
    case atStart => exact ⟨0, by omega, rfl, World.ownsRow_nil _ _ _ _, Below.refl _ _⟩
    case round =>
      obtain ⟨k, hk, rfl, hown, hbe⟩ := hrel
      have HO := Lib.hid hown
      have HBr := Lib.hid hbe
      have hpl := HPL.out k
      clear hown hbe
      have bd := BD2.out.below HBr.out
      have bdl := bd.lt
      (have d0 := (bd).cell 0 _ rfl; have d1 := (bd).cell 1 _ rfl; have d2 := (bd).cell 2 _ rfl)
      clear bd
      go_wp2_with fail
      refine (HN.out _).mono ?_
      rintro e wn ⟨rfl, hb⟩
      (have HBr := Lib.hid (HBr.out.trans (hb.mono HBr.out.size)); have HO := Lib.hid (own_keep HO.out hb))
      clear hb d0 d1 d2 bdl
      by_cases hlt : (k : Int) < d.n
      · go_wp2_with fail
        go_loopw [11, 12] (fun b x wr => ∃ j : Nat, j ≤ 3 ∧ x = .int .i64 j ∧ b = .bool (endR d p k j) ∧ wr.ownsRow w2.heap.size 3 1 u9 (passR d p k).length (ic (passR d p k)) ∧ Below w2.heap.size w2 wr) (fun _ x _ => 3 - (intOf x).toNat)
        case atStart => exact ⟨0, by omega, rfl, rfl, HO.out, HBr.out⟩
        case round =>
          clear HO HBr
          obtain ⟨j, hj, rfl, rfl, hown, hbe⟩ := hrel
          have HO := Lib.hid hown
          have HBr := Lib.hid hbe
          clear hown hbe
          by_cases hj3 : j < 3
          · have hs := Lib.hid (HES.out k j)
            have hsi := HSI.out k j
            have hst := HST.out k j ⟨by omega, hlt⟩ hj3
            have HO1 := Lib.hid (fun W => HON.out k j W ⟨by omega, hlt⟩ hj3)
            have hm0 : 0 ≤ (j : Int) * d.n := Int.mul_nonneg (by omega) (by omega)
            have hm1 : (j : Int) * d.n ≤ 2 * 4096 := Int.mul_le_mul (by omega) (by omega) (by omega) (by omega)
            have bd := BD2.out.below HBr.out
            have bdl := bd.lt
            (have d0 := (bd).cell 0 _ rfl; have d1 := (bd).cell 1 _ rfl; have d2 := (bd).cell 2 _ rfl)
            clear bd
            go_wp2_with fail
            refine (HN.out _).mono ?_
            rintro e wn2 ⟨rfl, hb⟩
            (have HBr := Lib.hid (HBr.out.trans (hb.mono HBr.out.size)); have HO := Lib.hid (own_keep HO.out hb))
            clear hb d0 d1 d2 bdl
            have bd := BD2.out.below HBr.out
            have bdl := bd.lt
            (have d0 := (bd).cell 0 _ rfl; have d1 := (bd).cell 1 _ rfl; have d2 := (bd).cell 2 _ rfl)
            clear bd
            go_wp2_with fail
            refine (HO1.out _).mono ?_
            rintro e wo ⟨rfl, hb⟩
            (have HBr := Lib.hid (HBr.out.trans (hb.mono HBr.out.size)); have HO := Lib.hid (own_keep HO.out hb))
            clear hb d0 d1 d2 bdl
            have bd := BD2.out.below HBr.out
            have bdl := bd.lt
            have hcd := bd.dims.at j hj3
            clear bd
            generalize d.step k j (-1) = bk at *
            generalize endR d p k j = E at *
            generalize d.at j = D at *
            obtain ⟨P, hP⟩ : ∃ P, P = (j : Int) * d.n := ⟨_, rfl⟩
            rw [← hP] at hsi hm0 hm1
            by_cases h1 : 1 < D
            · have h1' : decide (1 < D) = true := decide_eq_true h1
              rw [h1', Bool.true_and] at hsi
              cases h2 : hasI C (P + k) with
              | true =>
                rw [h2, Bool.true_or] at hsi
                have HSI2 := Lib.hid hsi
                clear hsi
                go_wp2_with fail
                try rw [← hP]
                (refine (HL.out (P + k) _ HBr.out (by omega)).mono ?_; rintro e wt ⟨rfl, hb⟩; (have HBr := Lib.hid (HBr.out.trans (hb.mono HBr.out.size)); have HO := Lib.hid (own_keep HO.out hb)); clear hb)
                rw [h2]
                go_wp2_with fail
                (go_roundw; (case rel => exact ⟨j + 1, by omega, by go_num, by rw [hs.out, HSI2.out]; simp, HO.out, HBr.out⟩); (case measure => (simp [intOf] <;> omega)))
              | false =>
                cases h3 : hasI C (P + bk) with
                | true =>
                  rw [h2, h3, Bool.false_or] at hsi
                  have HSI2 := Lib.hid hsi
                  clear hsi
                  go_wp2_with fail
                  try rw [← hP]
                  (refine (HL.out (P + k) _ HBr.out (by omega)).mono ?_; rintro e wt ⟨rfl, hb⟩; (have HBr := Lib.hid (HBr.out.trans (hb.mono HBr.out.size)); have HO := Lib.hid (own_keep HO.out hb)); clear hb)
                  rw [h2]
                  go_wp2_with fail
                  try rw [← hP]
                  (refine (HL.out (P + bk) _ HBr.out (by omega)).mono ?_; rintro e wt ⟨rfl, hb⟩; (have HBr := Lib.hid (HBr.out.trans (hb.mono HBr.out.size)); have HO := Lib.hid (own_keep HO.out hb)); clear hb)
                  rw [h3]
                  go_wp2_with fail
                  (go_roundw; (case rel => exact ⟨j + 1, by omega, by go_num, by rw [hs.out, HSI2.out]; simp, HO.out, HBr.out⟩); (case measure => (simp [intOf] <;> omega)))
                | false =>
                  rw [h2, h3, Bool.false_or] at hsi
                  have HSI2 := Lib.hid hsi
                  clear hsi
                  go_wp2_with fail
                  try rw [← hP]
                  (refine (HL.out (P + k) _ HBr.out (by omega)).mono ?_; rintro e wt ⟨rfl, hb⟩; (have HBr := Lib.hid (HBr.out.trans (hb.mono HBr.out.size)); have HO := Lib.hid (own_keep HO.out hb)); clear hb)
                  rw [h2]
                  go_wp2_with fail
                  try rw [← hP]
                  (refine (HL.out (P + bk) _ HBr.out (by omega)).mono ?_; rintro e wt ⟨rfl, hb⟩; (have HBr := Lib.hid (HBr.out.trans (hb.mono HBr.out.size)); have HO := Lib.hid (own_keep HO.out hb)); clear hb)
                  rw [h3]
                  go_wp2_with fail
                  (go_roundw; (case rel => exact ⟨j + 1, by omega, by go_num, by rw [hs.out, HSI2.out]; simp, HO.out, HBr.out⟩); (case measure => (simp [intOf] <;> omega)))
            · have h1' : decide (1 < D) = false := decide_eq_false h1
              rw [h1', Bool.false_and] at hsi
              have HSI2 := Lib.hid hsi
              clear hsi
              go_wp2_with fail
              (go_roundw; (case rel => exact ⟨j + 1, by omega, by go_num, by rw [hs.out, HSI2.out]; simp, HO.out, HBr.out⟩); (case measure => (simp [intOf] <;> omega)))
          · obtain rfl : j = 3 := by omega
            have hps := Lib.hid (HPS.out k)
            have hrp := HRP.out k
            generalize endR d p k 3 = E at *
            cases E with
            | false =>
              rw [Bool.false_and] at hrp
              have hps2 := Lib.hid (show passR d p (k + 1) = passR d p k by rw [hps.out, hrp]; simp)
              clear hrp
              go_wp2_with fail
              go_roundw
              case rel => exact ⟨k + 1, by omega, by go_num, by rw [hps2.out]; exact HO.out, HBr.out⟩
              case measure => (simp [intOf] <;> omega)
            | true =>
              rw [Bool.true_and] at hrp
              go_wp2_with fail
              refine (HM.out k _ HBr.out (by omega)).mono ?_
              rintro e wt ⟨rfl, hb⟩
              (have HBr := Lib.hid (HBr.out.trans (hb.mono HBr.out.size)); have HO := Lib.hid (own_keep HO.out hb))
              clear hb
              cases h2 : hasI M k with
              | true =>
                have hps2 := Lib.hid (show passR d p (k + 1) = passR d p k by rw [hps.out, hrp, h2]; simp)
                clear hrp
                go_wp2_with fail
                go_roundw
                case rel => exact ⟨k + 1, by omega, by go_num, by rw [hps2.out]; exact HO.out, HBr.out⟩
                case measure => (simp [intOf] <;> omega)
              | false =>
                have hps2 := Lib.hid (show passR d p (k + 1) = passR d p k ++ [(k : Int)] by rw [hps.out, hrp, h2]; simp)
                clear hrp
                have zr := HBr.out.size
                go_wp2_with (at_builtin; refine wpList_append_own _ rfl _ _ 30 rfl w2.heap.size 3 i0 (.int .i64 0) 1 8 Try.underlying30 hi iz0 iz1 iz2 rfl (by decide) _ _ _ rfl (HO.out.alloc _) ⟨_, 0, none⟩ 1 1 [.int .i64 k] rfl rfl (cell_new1 _ _ _) (by simp [Value.oneCell']) ?ap3 ?ap4 ?ap5 ?_)
                case ap3 => unfold maxLen; omega
                case ap4 => omega
                case ap5 => simp; omega
                intro v6 w6 o6 g6 _
                have n6 := own_below (HO.out.alloc (.cells #[.int .i64 k] 3)) g6 (by simp; omega)
                have HO6 := Lib.hid (show w6.ownsRow w2.heap.size 3 1 v6 (passR d p (k + 1)).length (ic (passR d p (k + 1))) by rw [hps2.out, ic_app, List.length_append]; exact o6)
                have HB6 := Lib.hid ((HBr.out.alloc zr (.cells #[.int .i64 k] 3)).trans n6)
                clear n6 o6 g6
                go_wp2_with fail
                go_roundw
                case rel => exact ⟨k + 1, by omega, by go_num, HO6.out, HB6.out⟩
                case measure => (simp [intOf] <;> omega)
      · have hkn : k = d.n.toNat := by omega
        have HO2 := Lib.hid (show wn.ownsRow w2.heap.size 3 1 _ (passV d p).length (ic (passV d p)) by rw [← HPA.out, ← hkn]; exact HO.out)
        clear HO
        go_wp2_with fail
        go_returns
        exact ⟨_, rfl, row_mono HO2.out HB2.out.size, HB2.out.trans (HBr.out.mono HB2.out.size)⟩
  · have HV := Lib.hid (show passV d p = [] from if_neg hz)
    have hy : (plChk d p != 0) = true := by simpa using hz
    clear hz
    go_enter Try.func19, Try.ntmps19
    go_wp2_with ((with_reducible refine (HC.out _).mono ?_); rintro e w1 ⟨rfl, hb1⟩; (obtain ⟨hc1, hf1⟩ := bcell hb1; have hz1 := hb1.size; (try simp at hz1); have hB : Below w.heap.size w w1 := (by (repeat (first | (with_reducible exact Below.refl _ _) | (with_reducible assumption) | (with_reducible refine below_alloc ?_ _) | (with_reducible refine below_drewN ?_ _) | (with_reducible refine Below.drew ?_) | (with_reducible refine below_then ?_ (by with_reducible assumption)) | (with_reducible refine Below.setCell ?_ (by go_size) _)))); obtain ⟨hcB, hfB⟩ := bcell hB; (try have z0 : w.heap.size < w1.heap.size := by omega); (try have z1 : w.heap.size + 1 < w1.heap.size := by omega); (try have z2 : w.heap.size + 2 < w1.heap.size := by omega); (try have z3 : w.heap.size + 3 < w1.heap.size := by omega)))
    all_goals
      go_returns
      exact ⟨_, rfl, by rw [HV.out]; exact World.ownsRow_nil _ _ _ _, by (repeat (first | (with_reducible exact Below.refl _ _) | (with_reducible assumption) | (with_reducible refine below_alloc ?_ _) | (with_reducible refine below_drewN ?_ _) | (with_reducible refine Below.drew ?_) | (with_reducible refine below_then ?_ (by with_reducible assumption)) | (with_reducible refine Below.setCell ?_ (by go_size) _)))⟩
end
end Go.Proofs.Ythabpiphfaedaaa
