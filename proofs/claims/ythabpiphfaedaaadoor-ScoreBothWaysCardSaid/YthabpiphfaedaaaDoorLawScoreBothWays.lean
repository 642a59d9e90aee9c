/- ScoreBothWays: open sides are as many one way as the other; those toward two sets; none toward nothing: the call returns true. -/
import Derived.Test.YthabpiphfaedaaaDoorScoreAlive
import Derived.Test.YthabpiphfaedaaaDoorSetOf2
import Derived.Test.YthabpiphfaedaaaDoorRowTab
import Derived.Test.YthabpiphfaedaaaDoorSetSays
namespace Go.Proofs.YthabpiphfaedaaaDoor
open Go.ChangeShapes Go.WideShapes Go.ChangeAt Go.RowKit Go.Shelf

theorem openV_range (d : V3) (a b : List Nat) : 0 ≤ openV d a b ∧ openV d a b ≤ 100000 := by
  unfold openV
  split
  · next h =>
    have h1 := openTo_le d b (nums a)
    have h2 := listV_len d.n a
    rw [show listV d.n a = nums a from if_pos (openE_0 h).2.1] at h2
    omega
  · omega
set_option maxRecDepth 100000 in set_option maxHeartbeats 4000000 in
theorem law14_ScoreBothWays (d : V3) (ba bb bc : Option Addr) (ca cb cc : Nat) (a b c : List Nat) (w : World) (ha : Rd w ba (wcells a) ∧ W64 a) (hb : Rd w bb (wcells b) ∧ W64 b) (hc : Rd w bc (wcells c) ∧ W64 c)
    (hT : TabAt 0 Lib.deBruijn64tab w) (hg : 0 < w.heap.size) :
    Calls Tryd.prog 5 #[.agg #[.int .i64 d.x, .int .i64 d.y, .int .i64 d.z], .slice ba a.length ca, .slice bb b.length cb, .slice bc c.length cc] w (RB w (.bool true)) := by
  have HA := Lib.hid (fun W (hw : Below w.heap.size w W) => law14_alive W (tab_keep' hT hg hw).1 (tab_keep' hT hg hw).2)
  by_cases l1 : a.length ≤ 100
  · by_cases l2 : b.length ≤ 100
    · by_cases l3 : c.length ≤ 100
      · have SA := SetIn.mk ha.1 (by omega) ha.2
        have SB := SetIn.mk hb.1 (by omega) hb.2
        have SC := SetIn.mk hc.1 (by omega) hc.2
        have H1 := Lib.hid (fun W (hw : Below w.heap.size w W) => score_Open d ba bb ca cb a b W (SA.keep hw) (SB.keep hw) (tab_keep' hT hg hw).1 (tab_keep' hT hg hw).2)
        have H2 := Lib.hid (fun W (hw : Below w.heap.size w W) => score_Open d bb ba cb ca b a W (SB.keep hw) (SA.keep hw) (tab_keep' hT hg hw).1 (tab_keep' hT hg hw).2)
        have H3 := Lib.hid (fun W (hw : Below w.heap.size w W) => score_Open d ba bc ca cc a c W (SA.keep hw) (SC.keep hw) (tab_keep' hT hg hw).1 (tab_keep' hT hg hw).2)
        rw [openE_comm d b a] at H2
        rw [openV_comm hb.2 ha.2] at H2
        rcases openE_08 d a b with he | he
        · rcases openE_08 d a c with hf | hf
          · obtain ⟨hd, hca, hcb⟩ := openE_0 he
            obtain ⟨_, _, hcc⟩ := openE_0 hf
            obtain ⟨p1, p2, p3, p4⟩ := open_two ha.2 hb.2 hc.2 he hf
            obtain ⟨q1, q2, q3, q4⟩ := open_none ha.2 hd hca
            have h2c : sChk2 d.n b c = 0 := sChk2_of hcb hcc
            have H4 := Lib.hid (fun W (hw : Below w.heap.size w W) => show Calls Tryd.prog 25 #[.int .i64 d.n, .slice bb b.length cb, .slice bc c.length cc] W (RUE W (joinIf orW d.n b c) (sChk2 d.n b c)) from set_Or d.n bb bc cb cc b c W (SB.keep hw) (SC.keep hw))
            have H5 := Lib.hid (fun W (hw : Below w.heap.size w W) => set_Meet d.n bb bc cb cc b c W (SB.keep hw) (SC.keep hw))
            have H6 := Lib.hid (fun (bq : Option Addr) (cq : Nat) W (hw : Below w.heap.size w W) (hq : SetIn W bq (joinIf orW d.n b c)) => score_Open d ba bq ca cq a (joinIf orW d.n b c) W (SA.keep hw) hq (tab_keep' hT hg hw).1 (tab_keep' hT hg hw).2)
            have H7 := Lib.hid (fun W => set_Of d.n none 0 [] W ⟨Rd.nil _ _, by simp⟩)
            have H8 := Lib.hid (fun (bq : Option Addr) (cq : Nat) W (hw : Below w.heap.size w W) (hq : SetIn W bq (ofSet d.n [])) => score_Open d ba bq ca cq a (ofSet d.n []) W (SA.keep hw) hq (tab_keep' hT hg hw).1 (tab_keep' hT hg hw).2)
            have hxy := V3.xy_le hd
            have hnn := V3.n_le hd
            have hqn : d.n = d.x * d.y * d.z := rfl
            have F1 := Lib.hid (And.intro (joinIf_fit (n := d.n) orW_fit hb.2 hc.2) (Nat.le_trans (joinIf_len (f := orW) (n := d.n) (a := b) (b := c)) (Nat.le_trans l2 (by decide : 100 ≤ 4611686018427387904))))
            have F2 := Lib.hid (And.intro (ofSet_fit d.n []) (Nat.le_trans (ofSet_len d.n []) (by decide : 192 ≤ 4611686018427387904)))
            obtain ⟨x0, x1⟩ := openV_range d a b
            obtain ⟨z0, z1⟩ := openV_range d a c
            obtain ⟨v0, v1⟩ := openV_range d a (joinIf orW d.n b c)
            rw [he] at H1 H2
            rw [hf] at H3
            rw [h2c] at H4 H5
            rw [p2] at H6
            rw [q1] at H7
            rw [q3, q4] at H8
            generalize openV d a (joinIf orW d.n b c) = V at *
            generalize openV d a b = X at *
            generalize openV d a c = Z at *
            generalize joinIf orW d.n b c = q at *
            generalize ofSet d.n [] = r at *
            generalize anyNZ (joinIf andW d.n b c) = mt at *
            rw [hqn] at H4 H5 H7 hnn
            have hle : decide (V ≤ X + Z) = true := decide_eq_true p3
            have heq : mt = false → (V == X + Z) = true := fun h => by rw [p4 h]; simp
            have HQ := Lib.hid heq
            clear ha hb hc hT SA SB SC he hf p1 p2 p3 p4 q1 q2 q3 q4 h2c hca hcb hcc hd hqn heq
            go_enter Tryd.func5, Tryd.ntmps5
            go_wp2_with fail
            refine (HA.out _ (by (repeat (first | (with_reducible exact Below.refl _ _) | (with_reducible assumption) | (with_reducible refine below_alloc ?_ _) | (with_reducible refine below_drewN ?_ _) | (with_reducible refine Below.drew ?_) | (with_reducible refine below_then ?_ (by with_reducible assumption)) | (with_reducible refine Below.setCell ?_ (by go_size) _))))).mono ?_
            rintro e w1 ⟨rfl, hb⟩
            have BD := Lib.hid ((Blk.new w 23 #[.int .i64 d.x, .int .i64 d.y, .int .i64 d.z]).below hb)
            have hB1 := below_then (show Below w.heap.size w (w.alloc (.cells #[.int .i64 d.x, .int .i64 d.y, .int .i64 d.z] 23)) by (repeat (first | (with_reducible exact Below.refl _ _) | (with_reducible assumption) | (with_reducible refine below_alloc ?_ _) | (with_reducible refine below_drewN ?_ _) | (with_reducible refine Below.drew ?_) | (with_reducible refine below_then ?_ (by with_reducible assumption)) | (with_reducible refine Below.setCell ?_ (by go_size) _)))) hb
            clear hb
            try clear d0 d1 d2
            have d0 := BD.out.cell 0 _ rfl
            have d1 := BD.out.cell 1 _ rfl
            have d2 := BD.out.cell 2 _ rfl
            go_wp2_with fail
            refine (H1.out _ hB1).mono ?_
            rintro e w2 ⟨rfl, hb⟩
            have BD := Lib.hid (BD.out.below hb)
            have hB2 := below_then hB1 hb
            clear hb hB1
            try clear d0 d1 d2
            have d0 := BD.out.cell 0 _ rfl
            have d1 := BD.out.cell 1 _ rfl
            have d2 := BD.out.cell 2 _ rfl
            go_wp2_with fail
            refine (H2.out _ hB2).mono ?_
            rintro e w3 ⟨rfl, hb⟩
            have BD := Lib.hid (BD.out.below hb)
            have hB3 := below_then hB2 hb
            clear hb hB2
            try clear d0 d1 d2
            have d0 := BD.out.cell 0 _ rfl
            have d1 := BD.out.cell 1 _ rfl
            have d2 := BD.out.cell 2 _ rfl
            go_wp2_with fail
            refine (H3.out _ hB3).mono ?_
            rintro e w4 ⟨rfl, hb⟩
            have BD := Lib.hid (BD.out.below hb)
            have hB4 := below_then hB3 hb
            clear hb hB3
            try clear d0 d1 d2
            have d0 := BD.out.cell 0 _ rfl
            have d1 := BD.out.cell 1 _ rfl
            have d2 := BD.out.cell 2 _ rfl
            go_wp2_with fail
            refine (H4.out _ hB4).mono ?_
            rintro e w5 ⟨v, rfl, o2, hb⟩
            obtain ⟨bq, cq, rfl, sq, _⟩ := set_of_own o2 F1.out.2 F1.out.1
            have SQ := Lib.hid sq
            have BD := Lib.hid (BD.out.below hb)
            have hB5 := below_then hB4 hb
            clear hb o2 sq hB4
            try clear d0 d1 d2
            have d0 := BD.out.cell 0 _ rfl
            have d1 := BD.out.cell 1 _ rfl
            have d2 := BD.out.cell 2 _ rfl
            go_wp2_with fail
            refine (H5.out _ hB5).mono ?_
            rintro e w6 ⟨rfl, hb⟩
            have BD := Lib.hid (BD.out.below hb)
            have hB6 := below_then hB5 hb
            have SQ := Lib.hid (SQ.out.keep hb)
            clear hb hB5
            try clear d0 d1 d2
            have d0 := BD.out.cell 0 _ rfl
            have d1 := BD.out.cell 1 _ rfl
            have d2 := BD.out.cell 2 _ rfl
            go_wp2_with fail
            refine (H6.out bq cq _ hB6 SQ.out).mono ?_
            rintro e w7 ⟨rfl, hb⟩
            have BD := Lib.hid (BD.out.below hb)
            have hB7 := below_then hB6 hb
            clear hb hB6
            try clear d0 d1 d2
            have d0 := BD.out.cell 0 _ rfl
            have d1 := BD.out.cell 1 _ rfl
            have d2 := BD.out.cell 2 _ rfl
            go_wp2_with fail
            refine (H7.out _).mono ?_
            rintro e w8 ⟨v, rfl, o2, hb⟩
            obtain ⟨br, cr, rfl, sr, _⟩ := set_of_own o2 F2.out.2 F2.out.1
            have SR := Lib.hid sr
            have BD := Lib.hid (BD.out.below hb)
            have hB8 := below_then hB7 hb
            clear hb o2 sr hB7
            try clear d0 d1 d2
            have d0 := BD.out.cell 0 _ rfl
            have d1 := BD.out.cell 1 _ rfl
            have d2 := BD.out.cell 2 _ rfl
            go_wp2_with fail
            refine (H8.out br cr _ hB8 SR.out).mono ?_
            rintro e w9 ⟨rfl, hb⟩
            have hB9 := below_then hB8 hb
            clear hb hB8 d0 d1 d2
            cases mt with
            | true =>
              clear HQ
              go_wp2_with (refine wp_region_quiet_lit (by kernel_rfl) (by kernel_rfl) ?_; (repeat (any_goals (first | go_big_quiet_step (fail) | quiet_step (fail) | (refine wpQuiet_step (fun K hK => ?_); go_simp; split <;> (refine hK _ ?_; clear hK K))))); all_goals (refine wpQuiet_nil ?_; intro _ hw'; obtain ⟨nq, hw''⟩ := hw'; subst hw''))
              all_goals
                go_returns
                exact ⟨rfl, by (repeat (first | (with_reducible exact Below.refl _ _) | (with_reducible assumption) | (with_reducible refine below_alloc ?_ _) | (with_reducible refine below_drewN ?_ _) | (with_reducible refine Below.drew ?_) | (with_reducible refine below_then ?_ (by with_reducible assumption)) | (with_reducible refine Below.setCell ?_ (by go_size) _)))⟩
            | false =>
              have hq9 := HQ.out rfl
              clear HQ
              go_wp2_with (refine wp_region_quiet_lit (by kernel_rfl) (by kernel_rfl) ?_; (repeat (any_goals (first | go_big_quiet_step (fail) | quiet_step (fail) | (refine wpQuiet_step (fun K hK => ?_); go_simp; split <;> (refine hK _ ?_; clear hK K))))); all_goals (refine wpQuiet_nil ?_; intro _ hw'; obtain ⟨nq, hw''⟩ := hw'; subst hw''))
              all_goals
                go_returns
                exact ⟨rfl, by (repeat (first | (with_reducible exact Below.refl _ _) | (with_reducible assumption) | (with_reducible refine below_alloc ?_ _) | (with_reducible refine below_drewN ?_ _) | (with_reducible refine Below.drew ?_) | (with_reducible refine below_then ?_ (by with_reducible assumption)) | (with_reducible refine Below.setCell ?_ (by go_size) _)))⟩
          · rw [he] at H1 H2
            rw [hf] at H3
            generalize openV d a b = X at *
            generalize openV d a c = Z at *
            clear ha hb hc hT SA SB SC he hf
            go_enter Tryd.func5, Tryd.ntmps5
            go_wp2_with (first | ((with_reducible refine (HA.out _ (by (repeat (first | (with_reducible exact Below.refl _ _) | (with_reducible assumption) | (with_reducible refine below_alloc ?_ _) | (with_reducible refine below_drewN ?_ _) | (with_reducible refine Below.drew ?_) | (with_reducible refine below_then ?_ (by with_reducible assumption)) | (with_reducible refine Below.setCell ?_ (by go_size) _))))).mono ?_); rintro e w1 ⟨rfl, hb1⟩; (obtain ⟨hc1, hf1⟩ := bcell hb1; have hz1 := hb1.size; (try simp at hz1); have hB : Below w.heap.size w w1 := (by (repeat (first | (with_reducible exact Below.refl _ _) | (with_reducible assumption) | (with_reducible refine below_alloc ?_ _) | (with_reducible refine below_drewN ?_ _) | (with_reducible refine Below.drew ?_) | (with_reducible refine below_then ?_ (by with_reducible assumption)) | (with_reducible refine Below.setCell ?_ (by go_size) _)))); obtain ⟨hcB, hfB⟩ := bcell hB; (try have z0 : w.heap.size < w1.heap.size := by omega); (try have z1 : w.heap.size + 1 < w1.heap.size := by omega); (try have z2 : w.heap.size + 2 < w1.heap.size := by omega); (try have z3 : w.heap.size + 3 < w1.heap.size := by omega))) | ((with_reducible refine (H1.out _ (by (repeat (first | (with_reducible exact Below.refl _ _) | (with_reducible assumption) | (with_reducible refine below_alloc ?_ _) | (with_reducible refine below_drewN ?_ _) | (with_reducible refine Below.drew ?_) | (with_reducible refine below_then ?_ (by with_reducible assumption)) | (with_reducible refine Below.setCell ?_ (by go_size) _))))).mono ?_); rintro e w1 ⟨rfl, hb1⟩; (obtain ⟨hc1, hf1⟩ := bcell hb1; have hz1 := hb1.size; (try simp at hz1); have hB : Below w.heap.size w w1 := (by (repeat (first | (with_reducible exact Below.refl _ _) | (with_reducible assumption) | (with_reducible refine below_alloc ?_ _) | (with_reducible refine below_drewN ?_ _) | (with_reducible refine Below.drew ?_) | (with_reducible refine below_then ?_ (by with_reducible assumption)) | (with_reducible refine Below.setCell ?_ (by go_size) _)))); obtain ⟨hcB, hfB⟩ := bcell hB; (try have z0 : w.heap.size < w1.heap.size := by omega); (try have z1 : w.heap.size + 1 < w1.heap.size := by omega); (try have z2 : w.heap.size + 2 < w1.heap.size := by omega); (try have z3 : w.heap.size + 3 < w1.heap.size := by omega))) | ((with_reducible refine (H2.out _ (by (repeat (first | (with_reducible exact Below.refl _ _) | (with_reducible assumption) | (with_reducible refine below_alloc ?_ _) | (with_reducible refine below_drewN ?_ _) | (with_reducible refine Below.drew ?_) | (with_reducible refine below_then ?_ (by with_reducible assumption)) | (with_reducible refine Below.setCell ?_ (by go_size) _))))).mono ?_); rintro e w1 ⟨rfl, hb1⟩; (obtain ⟨hc1, hf1⟩ := bcell hb1; have hz1 := hb1.size; (try simp at hz1); have hB : Below w.heap.size w w1 := (by (repeat (first | (with_reducible exact Below.refl _ _) | (with_reducible assumption) | (with_reducible refine below_alloc ?_ _) | (with_reducible refine below_drewN ?_ _) | (with_reducible refine Below.drew ?_) | (with_reducible refine below_then ?_ (by with_reducible assumption)) | (with_reducible refine Below.setCell ?_ (by go_size) _)))); obtain ⟨hcB, hfB⟩ := bcell hB; (try have z0 : w.heap.size < w1.heap.size := by omega); (try have z1 : w.heap.size + 1 < w1.heap.size := by omega); (try have z2 : w.heap.size + 2 < w1.heap.size := by omega); (try have z3 : w.heap.size + 3 < w1.heap.size := by omega))) | ((with_reducible refine (H3.out _ (by (repeat (first | (with_reducible exact Below.refl _ _) | (with_reducible assumption) | (with_reducible refine below_alloc ?_ _) | (with_reducible refine below_drewN ?_ _) | (with_reducible refine Below.drew ?_) | (with_reducible refine below_then ?_ (by with_reducible assumption)) | (with_reducible refine Below.setCell ?_ (by go_size) _))))).mono ?_); rintro e w1 ⟨rfl, hb1⟩; (obtain ⟨hc1, hf1⟩ := bcell hb1; have hz1 := hb1.size; (try simp at hz1); have hB : Below w.heap.size w w1 := (by (repeat (first | (with_reducible exact Below.refl _ _) | (with_reducible assumption) | (with_reducible refine below_alloc ?_ _) | (with_reducible refine below_drewN ?_ _) | (with_reducible refine Below.drew ?_) | (with_reducible refine below_then ?_ (by with_reducible assumption)) | (with_reducible refine Below.setCell ?_ (by go_size) _)))); obtain ⟨hcB, hfB⟩ := bcell hB; (try have z0 : w.heap.size < w1.heap.size := by omega); (try have z1 : w.heap.size + 1 < w1.heap.size := by omega); (try have z2 : w.heap.size + 2 < w1.heap.size := by omega); (try have z3 : w.heap.size + 3 < w1.heap.size := by omega))) | (refine wp_region_quiet_lit (by kernel_rfl) (by kernel_rfl) ?_; (repeat (any_goals (first | go_big_quiet_step (fail) | quiet_step (fail) | (refine wpQuiet_step (fun K hK => ?_); go_simp; split <;> (refine hK _ ?_; clear hK K))))); all_goals (refine wpQuiet_nil ?_; intro _ hw'; obtain ⟨nq, hw''⟩ := hw'; subst hw'')))
            all_goals
              go_returns
              exact ⟨rfl, by (repeat (first | (with_reducible exact Below.refl _ _) | (with_reducible assumption) | (with_reducible refine below_alloc ?_ _) | (with_reducible refine below_drewN ?_ _) | (with_reducible refine Below.drew ?_) | (with_reducible refine below_then ?_ (by with_reducible assumption)) | (with_reducible refine Below.setCell ?_ (by go_size) _)))⟩
        · rw [he] at H1 H2
          generalize openV d a b = X at *
          generalize openV d a c = Z at *
          generalize openE d a c = e3 at *
          clear ha hb hc hT SA SB SC he
          go_enter Tryd.func5, Tryd.ntmps5
          go_wp2_with (first | ((with_reducible refine (HA.out _ (by (repeat (first | (with_reducible exact Below.refl _ _) | (with_reducible assumption) | (with_reducible refine below_alloc ?_ _) | (with_reducible refine below_drewN ?_ _) | (with_reducible refine Below.drew ?_) | (with_reducible refine below_then ?_ (by with_reducible assumption)) | (with_reducible refine Below.setCell ?_ (by go_size) _))))).mono ?_); rintro e w1 ⟨rfl, hb1⟩; (obtain ⟨hc1, hf1⟩ := bcell hb1; have hz1 := hb1.size; (try simp at hz1); have hB : Below w.heap.size w w1 := (by (repeat (first | (with_reducible exact Below.refl _ _) | (with_reducible assumption) | (with_reducible refine below_alloc ?_ _) | (with_reducible refine below_drewN ?_ _) | (with_reducible refine Below.drew ?_) | (with_reducible refine below_then ?_ (by with_reducible assumption)) | (with_reducible refine Below.setCell ?_ (by go_size) _)))); obtain ⟨hcB, hfB⟩ := bcell hB; (try have z0 : w.heap.size < w1.heap.size := by omega); (try have z1 : w.heap.size + 1 < w1.heap.size := by omega); (try have z2 : w.heap.size + 2 < w1.heap.size := by omega); (try have z3 : w.heap.size + 3 < w1.heap.size := by omega))) | ((with_reducible refine (H1.out _ (by (repeat (first | (with_reducible exact Below.refl _ _) | (with_reducible assumption) | (with_reducible refine below_alloc ?_ _) | (with_reducible refine below_drewN ?_ _) | (with_reducible refine Below.drew ?_) | (with_reducible refine below_then ?_ (by with_reducible assumption)) | (with_reducible refine Below.setCell ?_ (by go_size) _))))).mono ?_); rintro e w1 ⟨rfl, hb1⟩; (obtain ⟨hc1, hf1⟩ := bcell hb1; have hz1 := hb1.size; (try simp at hz1); have hB : Below w.heap.size w w1 := (by (repeat (first | (with_reducible exact Below.refl _ _) | (with_reducible assumption) | (with_reducible refine below_alloc ?_ _) | (with_reducible refine below_drewN ?_ _) | (with_reducible refine Below.drew ?_) | (with_reducible refine below_then ?_ (by with_reducible assumption)) | (with_reducible refine Below.setCell ?_ (by go_size) _)))); obtain ⟨hcB, hfB⟩ := bcell hB; (try have z0 : w.heap.size < w1.heap.size := by omega); (try have z1 : w.heap.size + 1 < w1.heap.size := by omega); (try have z2 : w.heap.size + 2 < w1.heap.size := by omega); (try have z3 : w.heap.size + 3 < w1.heap.size := by omega))) | ((with_reducible refine (H2.out _ (by (repeat (first | (with_reducible exact Below.refl _ _) | (with_reducible assumption) | (with_reducible refine below_alloc ?_ _) | (with_reducible refine below_drewN ?_ _) | (with_reducible refine Below.drew ?_) | (with_reducible refine below_then ?_ (by with_reducible assumption)) | (with_reducible refine Below.setCell ?_ (by go_size) _))))).mono ?_); rintro e w1 ⟨rfl, hb1⟩; (obtain ⟨hc1, hf1⟩ := bcell hb1; have hz1 := hb1.size; (try simp at hz1); have hB : Below w.heap.size w w1 := (by (repeat (first | (with_reducible exact Below.refl _ _) | (with_reducible assumption) | (with_reducible refine below_alloc ?_ _) | (with_reducible refine below_drewN ?_ _) | (with_reducible refine Below.drew ?_) | (with_reducible refine below_then ?_ (by with_reducible assumption)) | (with_reducible refine Below.setCell ?_ (by go_size) _)))); obtain ⟨hcB, hfB⟩ := bcell hB; (try have z0 : w.heap.size < w1.heap.size := by omega); (try have z1 : w.heap.size + 1 < w1.heap.size := by omega); (try have z2 : w.heap.size + 2 < w1.heap.size := by omega); (try have z3 : w.heap.size + 3 < w1.heap.size := by omega))) | ((with_reducible refine (H3.out _ (by (repeat (first | (with_reducible exact Below.refl _ _) | (with_reducible assumption) | (with_reducible refine below_alloc ?_ _) | (with_reducible refine below_drewN ?_ _) | (with_reducible refine Below.drew ?_) | (with_reducible refine below_then ?_ (by with_reducible assumption)) | (with_reducible refine Below.setCell ?_ (by go_size) _))))).mono ?_); rintro e w1 ⟨rfl, hb1⟩; (obtain ⟨hc1, hf1⟩ := bcell hb1; have hz1 := hb1.size; (try simp at hz1); have hB : Below w.heap.size w w1 := (by (repeat (first | (with_reducible exact Below.refl _ _) | (with_reducible assumption) | (with_reducible refine below_alloc ?_ _) | (with_reducible refine below_drewN ?_ _) | (with_reducible refine Below.drew ?_) | (with_reducible refine below_then ?_ (by with_reducible assumption)) | (with_reducible refine Below.setCell ?_ (by go_size) _)))); obtain ⟨hcB, hfB⟩ := bcell hB; (try have z0 : w.heap.size < w1.heap.size := by omega); (try have z1 : w.heap.size + 1 < w1.heap.size := by omega); (try have z2 : w.heap.size + 2 < w1.heap.size := by omega); (try have z3 : w.heap.size + 3 < w1.heap.size := by omega))) | (refine wp_region_quiet_lit (by kernel_rfl) (by kernel_rfl) ?_; (repeat (any_goals (first | go_big_quiet_step (fail) | quiet_step (fail) | (refine wpQuiet_step (fun K hK => ?_); go_simp; split <;> (refine hK _ ?_; clear hK K))))); all_goals (refine wpQuiet_nil ?_; intro _ hw'; obtain ⟨nq, hw''⟩ := hw'; subst hw'')))
          all_goals
            go_returns
            exact ⟨rfl, by (repeat (first | (with_reducible exact Below.refl _ _) | (with_reducible assumption) | (with_reducible refine below_alloc ?_ _) | (with_reducible refine below_drewN ?_ _) | (with_reducible refine Below.drew ?_) | (with_reducible refine below_then ?_ (by with_reducible assumption)) | (with_reducible refine Below.setCell ?_ (by go_size) _)))⟩
      · have l3' : 100 < c.length := by omega
        clear ha hb hc hT l3
        (go_enter Tryd.func5, Tryd.ntmps5; go_wp2_with (first | ((with_reducible refine (HA.out _ (by (repeat (first | (with_reducible exact Below.refl _ _) | (with_reducible assumption) | (with_reducible refine below_alloc ?_ _) | (with_reducible refine below_drewN ?_ _) | (with_reducible refine Below.drew ?_) | (with_reducible refine below_then ?_ (by with_reducible assumption)) | (with_reducible refine Below.setCell ?_ (by go_size) _))))).mono ?_); rintro e w1 ⟨rfl, hb1⟩; (obtain ⟨hc1, hf1⟩ := bcell hb1; have hz1 := hb1.size; (try simp at hz1); have hB : Below w.heap.size w w1 := (by (repeat (first | (with_reducible exact Below.refl _ _) | (with_reducible assumption) | (with_reducible refine below_alloc ?_ _) | (with_reducible refine below_drewN ?_ _) | (with_reducible refine Below.drew ?_) | (with_reducible refine below_then ?_ (by with_reducible assumption)) | (with_reducible refine Below.setCell ?_ (by go_size) _)))); obtain ⟨hcB, hfB⟩ := bcell hB; (try have z0 : w.heap.size < w1.heap.size := by omega); (try have z1 : w.heap.size + 1 < w1.heap.size := by omega); (try have z2 : w.heap.size + 2 < w1.heap.size := by omega); (try have z3 : w.heap.size + 3 < w1.heap.size := by omega))) | (refine wp_region_quiet_lit (by kernel_rfl) (by kernel_rfl) ?_; (repeat (any_goals (first | go_big_quiet_step (fail) | quiet_step (fail) | (refine wpQuiet_step (fun K hK => ?_); go_simp; split <;> (refine hK _ ?_; clear hK K))))); all_goals (refine wpQuiet_nil ?_; intro _ hw'; obtain ⟨nq, hw''⟩ := hw'; subst hw''))); all_goals (go_returns; exact ⟨rfl, by (repeat (first | (with_reducible exact Below.refl _ _) | (with_reducible assumption) | (with_reducible refine below_alloc ?_ _) | (with_reducible refine below_drewN ?_ _) | (with_reducible refine Below.drew ?_) | (with_reducible refine below_then ?_ (by with_reducible assumption)) | (with_reducible refine Below.setCell ?_ (by go_size) _)))⟩))
    · have l2' : 100 < b.length := by omega
      clear ha hb hc hT l2
      (go_enter Tryd.func5, Tryd.ntmps5; go_wp2_with (first | ((with_reducible refine (HA.out _ (by (repeat (first | (with_reducible exact Below.refl _ _) | (with_reducible assumption) | (with_reducible refine below_alloc ?_ _) | (with_reducible refine below_drewN ?_ _) | (with_reducible refine Below.drew ?_) | (with_reducible refine below_then ?_ (by with_reducible assumption)) | (with_reducible refine Below.setCell ?_ (by go_size) _))))).mono ?_); rintro e w1 ⟨rfl, hb1⟩; (obtain ⟨hc1, hf1⟩ := bcell hb1; have hz1 := hb1.size; (try simp at hz1); have hB : Below w.heap.size w w1 := (by (repeat (first | (with_reducible exact Below.refl _ _) | (with_reducible assumption) | (with_reducible refine below_alloc ?_ _) | (with_reducible refine below_drewN ?_ _) | (with_reducible refine Below.drew ?_) | (with_reducible refine below_then ?_ (by with_reducible assumption)) | (with_reducible refine Below.setCell ?_ (by go_size) _)))); obtain ⟨hcB, hfB⟩ := bcell hB; (try have z0 : w.heap.size < w1.heap.size := by omega); (try have z1 : w.heap.size + 1 < w1.heap.size := by omega); (try have z2 : w.heap.size + 2 < w1.heap.size := by omega); (try have z3 : w.heap.size + 3 < w1.heap.size := by omega))) | (refine wp_region_quiet_lit (by kernel_rfl) (by kernel_rfl) ?_; (repeat (any_goals (first | go_big_quiet_step (fail) | quiet_step (fail) | (refine wpQuiet_step (fun K hK => ?_); go_simp; split <;> (refine hK _ ?_; clear hK K))))); all_goals (refine wpQuiet_nil ?_; intro _ hw'; obtain ⟨nq, hw''⟩ := hw'; subst hw''))); all_goals (go_returns; exact ⟨rfl, by (repeat (first | (with_reducible exact Below.refl _ _) | (with_reducible assumption) | (with_reducible refine below_alloc ?_ _) | (with_reducible refine below_drewN ?_ _) | (with_reducible refine Below.drew ?_) | (with_reducible refine below_then ?_ (by with_reducible assumption)) | (with_reducible refine Below.setCell ?_ (by go_size) _)))⟩))
  · have l1' : 100 < a.length := by omega
    clear ha hb hc hT l1
    (go_enter Tryd.func5, Tryd.ntmps5; go_wp2_with (first | ((with_reducible refine (HA.out _ (by (repeat (first | (with_reducible exact Below.refl _ _) | (with_reducible assumption) | (with_reducible refine below_alloc ?_ _) | (with_reducible refine below_drewN ?_ _) | (with_reducible refine Below.drew ?_) | (with_reducible refine below_then ?_ (by with_reducible assumption)) | (with_reducible refine Below.setCell ?_ (by go_size) _))))).mono ?_); rintro e w1 ⟨rfl, hb1⟩; (obtain ⟨hc1, hf1⟩ := bcell hb1; have hz1 := hb1.size; (try simp at hz1); have hB : Below w.heap.size w w1 := (by (repeat (first | (with_reducible exact Below.refl _ _) | (with_reducible assumption) | (with_reducible refine below_alloc ?_ _) | (with_reducible refine below_drewN ?_ _) | (with_reducible refine Below.drew ?_) | (with_reducible refine below_then ?_ (by with_reducible assumption)) | (with_reducible refine Below.setCell ?_ (by go_size) _)))); obtain ⟨hcB, hfB⟩ := bcell hB; (try have z0 : w.heap.size < w1.heap.size := by omega); (try have z1 : w.heap.size + 1 < w1.heap.size := by omega); (try have z2 : w.heap.size + 2 < w1.heap.size := by omega); (try have z3 : w.heap.size + 3 < w1.heap.size := by omega))) | (refine wp_region_quiet_lit (by kernel_rfl) (by kernel_rfl) ?_; (repeat (any_goals (first | go_big_quiet_step (fail) | quiet_step (fail) | (refine wpQuiet_step (fun K hK => ?_); go_simp; split <;> (refine hK _ ?_; clear hK K))))); all_goals (refine wpQuiet_nil ?_; intro _ hw'; obtain ⟨nq, hw''⟩ := hw'; subst hw''))); all_goals (go_returns; exact ⟨rfl, by (repeat (first | (with_reducible exact Below.refl _ _) | (with_reducible assumption) | (with_reducible refine below_alloc ?_ _) | (with_reducible refine below_drewN ?_ _) | (with_reducible refine Below.drew ?_) | (with_reducible refine below_then ?_ (by with_reducible assumption)) | (with_reducible refine Below.setCell ?_ (by go_size) _)))⟩))

set_option maxRecDepth 100000 in set_option maxHeartbeats 4000000 in
theorem lift_scoreBothWays (os : Os) (started : os.Started) (H : Type) (enc : TypeId × Value → H) (F : Stop.Interp) :
    ReturnsInHanded {} Tryd.checked os 5 .any ((OpenSpec.ofChange Rows.scoreBothWaysSpec).preRow enc Tryd.prog Tryd.f5 Rows.scoreBothWaysRow.domain false Rows.scoreBothWaysRow.laid) (((OpenSpec.ofChange Rows.scoreBothWaysSpec).at F).post enc Tryd.prog Tryd.f5 false true false false) := by
  obtain ⟨places, hx⟩ : ∃ places, DataW.whole enc Tryd.prog ((laidWorld os).forCall (fun _ _ => 0) ⟨#[], #[.agg #[.int .i64 0, .int .i64 0, .int .i64 0], .slice none 0 0, .slice none 0 0, .slice none 0 0], []⟩).memory Tryd.f5.params.toList Rows.scoreBothWaysSpec.vars false #[.agg #[.int .i64 0, .int .i64 0, .int .i64 0], .slice none 0 0, .slice none 0 0, .slice none 0 0].toList 8 = some ([.agg [.lit (.int .i64 0), .lit (.int .i64 0), .lit (.int .i64 0)], .nil, .nil, .nil], [], places) := ⟨[], by kernel_rfl⟩
  refine returnsInHanded_of_row (C := Tryd.checked) (s := OpenSpec.ofChange Rows.scoreBothWaysSpec) ownKnob0 started (by kernel_rfl) Tryd.func5
    (witness_row_at (enc := enc) (C := Tryd.checked) false (laidWorld os) #[.agg #[.int .i64 0, .int .i64 0, .int .i64 0], .slice none 0 0, .slice none 0 0, .slice none 0 0] rfl (by kernel_rfl) (by kernel_rfl) (by kernel_rfl)
      (OpenSpec.preRow_of_cond 8 hx (by kernel_rfl) (fun k hk => by cases hk) (by kernel_rfl) (laidMet_of_run' 8 (by kernel_rfl) (by kernel_rfl)))) ?_
  intro W base args ds gs before hval0 hW _ _ _ hL0 _ _
  have hval : ∀ (j : Nat) t v, Tryd.f5.params[j]? = some t → args[j]? = some v → Value.okWide Tryd.prog W .any base t v := hval0
  have hT := tab_of_laid (W := W) hL0
  have hg := tab_lt hT
  have hW' := hW
  obtain ⟨p, q, hA0, hV, rfl, hfz, hnd⟩ := hW
  have hA : DataW.TrodAll enc Tryd.prog W 0 (fun _ => true) true Tryd.f5.params.toList args.toList ds p := hA0
  rw [Tryd.params5] at hA hval
  have hK := hA
  obtain ⟨v0, vs0, d0, ds0, p0, q0, hargs, rfl, rfl, h0, r0⟩ := trodAll_cons hA
  obtain ⟨v1, vs1, d1, ds1, p1, q1, rfl, rfl, rfl, h1, r1⟩ := trodAll_cons r0
  obtain ⟨v2, vs2, d2, ds2, p2, q2, rfl, rfl, rfl, h2, r2⟩ := trodAll_cons r1
  obtain ⟨v3, vs3, d3, ds3, p3, q3, rfl, rfl, rfl, h3, r3⟩ := trodAll_cons r2
  obtain ⟨rfl, rfl, rfl⟩ := trodAll_nil r3
  obtain rfl : args = #[v0, v1, v2, v3] := by cases args; simp_all
  obtain ⟨d, rfl⟩ := open_dims (hval 0 _ v0 rfl rfl)
  obtain ⟨ba, a, ca, rfl, ha, _⟩ := open_set (hval 1 _ v1 rfl rfl) h1
  obtain ⟨bb, b, cb, rfl, hb, _⟩ := open_set (hval 2 _ v2 rfl rfl) h2
  obtain ⟨bc, c, cc, rfl, hc, _⟩ := open_set (hval 3 _ v3 rfl rfl) h3
  obtain ⟨rfl, rfl⟩ := trodVars_none hV
  clear hA0 hval0
  simp only [List.append_nil] at hW'
  refine (law14_ScoreBothWays d ba bb bc ca cb cc a b c W ha hb hc hT hg).mono fun e W' ⟨he, bel⟩ => ?_
  subst he
  refine ⟨_, rfl, _, _, _, [], _, [], hW', trodAll_mk1 (shut_bool Tryd.underlying4 _), trodAll_below bel _ _ _ _ ?_ hK, rfl, bel.frame _, fun h => by cases h⟩
  intro t ht
  simp at ht <;> (rcases ht with rfl | rfl | rfl | rfl <;> exact ⟨by kernel_rfl, of_decide_eq_true (by kernel_rfl)⟩)

theorem said_scoreBothWays : Rows.ScoreBothWaysSaid :=
  OpenClaim.holds_of_cond 5 Tryd.f5 rfl rfl rfl rfl rfl rfl rfl ⟨rfl, rfl, rfl, rfl, rfl⟩ rfl rfl rfl rfl rfl (by kernel_rfl) Tryd.func5 (by kernel_rfl)
    (of_decide_eq_true (by kernel_rfl)) (by unfold Func.isWrapper; first | (rw [if_pos (by decide +kernel)]; kernel_rfl) | (rw [if_neg (by decide +kernel)]; exact ⟨rfl, rfl⟩))
    (fun os started H enc _ F => by rw [OpenClaim.pre_eq_preRow]; exact lift_scoreBothWays os started H enc F)

theorem plain_scoreBothWays (f : FuncId) (fn : Func) (hf : Tryd.pinned.checked.prog.funcNamed "tidehall/tidehalllaw14.ScoreBothWays" = some f) (hfn : Tryd.pinned.checked.prog.funcs[f]? = some fn) :
    false = Tryd.pinned.checked.prog.looks [] ∧ ∀ (j : Nat) t, fn.params[j]? = some t → Tryd.pinned.checked.prog.wantsStandIn t = false := by
  obtain rfl : f = 5 := Option.some.inj ((show Tryd.prog.funcNamed "tidehall/tidehalllaw14.ScoreBothWays" = some 5 by kernel_rfl).symm.trans hf) |>.symm
  obtain rfl : fn = Tryd.f5 := (Option.some.inj (Tryd.func5.symm.trans hfn)).symm
  refine ⟨by kernel_rfl, fun j t ht => ?_⟩
  rw [Tryd.params5] at ht
  have hm := Array.mem_of_getElem? ht
  simp at hm <;> (rcases hm with rfl | rfl | rfl | rfl <;> exact (show Tryd.prog.wantsStandIn _ = false by kernel_rfl))

theorem ScoreBothWays_holds : Rows.ScoreBothWaysCardSaid :=
  Claim7.holds_tied_plain_at .later [] _ _ _ _ said_scoreBothWays (fun _ h => by cases h) (by kernel_rfl) (fun _ h => by cases h) scoreBothWays_row_tie rfl ⟨rfl, rfl⟩ (by kernel_rfl) rfl plain_scoreBothWays (by kernel_rfl)
end Go.Proofs.YthabpiphfaedaaaDoor
