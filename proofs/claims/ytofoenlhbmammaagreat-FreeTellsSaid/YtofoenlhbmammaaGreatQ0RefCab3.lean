/- REF 06: Cables, walked (printed by gen06c.py). -/
import Derived.Test.YtofoenlhbmammaaGreatQ0RefPl
namespace Go.Proofs.YtofoenlhbmammaaGreat

section
open Go.RowKit Go.Shelf

set_option maxRecDepth 100000 in set_option maxHeartbeats 4000000 in
theorem ref06_Cables (d : V3) (p : Pl) (w : World) (hd : d.may) (hb : p.b.may d) : Calls Tryz.prog 98 #[.agg #[.int .i64 d.x, .int .i64 d.y, .int .i64 d.z], .agg #[.int .i64 p.b.b.x, .int .i64 p.b.b.y, .int .i64 p.b.b.z, .int .i64 p.b.s.x, .int .i64 p.b.s.y, .int .i64 p.b.s.z, .bool p.t0, .bool p.t1, .bool p.t2]] w (RI w (cabsV d p)) := by
  obtain ⟨i0, hi, iz0, iz1, iz2⟩ := info_parts infoInt
  have HN := Lib.hid (fun W => ref02_All d p.b W hd hb)
  have HMM := Lib.hid (fun m (hm : m ∈ p.b.all d) => Bx.mem_all' hm)
  have hal := Bx.all_len' d p.b hd
  have hnn := V3.n_le hd
  have HW := Lib.hid (fun m W (hm : 0 ≤ m ∧ m < d.n) => ref01_Where d m W hd hm.1 (by omega))
  have HT0 := Lib.hid (fun m W (hm : 0 ≤ m ∧ m < d.n) => show Calls Tryz.prog 117 #[.agg #[.int .i64 d.x, .int .i64 d.y, .int .i64 d.z], .int .i64 0, .int .i64 m, .int .i64 p.b.s.x, .bool p.t0] W (RI W (d.runV ((0 : Nat) : Int) m p.b.s.x p.t0)) from by
    have h := ref05_Took0 d m p.b.s.x p.t0 W hd hm.1 hm.2 hb.1.1.1 hb.1.1.2
    rw [V3.run_took p.t0 (by omega) (by rw [V3.askE, if_pos hd, if_pos ⟨⟨by omega, by omega⟩, hm⟩]) hb.1.1] at h
    exact h)
  have HT1 := Lib.hid (fun m W (hm : 0 ≤ m ∧ m < d.n) => show Calls Tryz.prog 117 #[.agg #[.int .i64 d.x, .int .i64 d.y, .int .i64 d.z], .int .i64 1, .int .i64 m, .int .i64 p.b.s.y, .bool p.t1] W (RI W (d.runV ((1 : Nat) : Int) m p.b.s.y p.t1)) from by
    have h := ref05_Took1 d m p.b.s.y p.t1 W hd hm.1 hm.2 hb.2.1.1.1 hb.2.1.1.2
    rw [V3.run_took p.t1 (by omega) (by rw [V3.askE, if_pos hd, if_pos ⟨⟨by omega, by omega⟩, hm⟩]) hb.2.1.1] at h
    exact h)
  have HT2 := Lib.hid (fun m W (hm : 0 ≤ m ∧ m < d.n) => show Calls Tryz.prog 117 #[.agg #[.int .i64 d.x, .int .i64 d.y, .int .i64 d.z], .int .i64 2, .int .i64 m, .int .i64 p.b.s.z, .bool p.t2] W (RI W (d.runV ((2 : Nat) : Int) m p.b.s.z p.t2)) from by
    have h := ref05_Took2 d m p.b.s.z p.t2 W hd hm.1 hm.2 hb.2.2.1.1 hb.2.2.1.2
    rw [V3.run_took p.t2 (by omega) (by rw [V3.askE, if_pos hd, if_pos ⟨⟨by omega, by omega⟩, hm⟩]) hb.2.2.1] at h
    exact h)
  have HC0 := Lib.hid (cabsF_all hd hb (show 0 < 3 by omega))
  have HC1 := Lib.hid (cabsF_all hd hb (show 1 < 3 by omega))
  have HC2 := Lib.hid (cabsF_all hd hb (show 2 < 3 by omega))
  have HVV := Lib.hid (show cabsV d p = cabs d p 0 ++ cabs d p 1 ++ cabs d p 2 from rfl)
  have hl0 := cabs_len d p 0 hd
  have hl1 := cabs_len d p 1 hd
  generalize p.b.all d = M at *
  clear hd hb
  go_enter Tryz.func98, Tryz.ntmps98
  go_wp2_with fail
  refine (HN.out _).mono ?_
  rintro e w2 ⟨vM, rfl, oM, hb2⟩
  obtain ⟨bM, cM, rfl, rd, _⟩ := own_rd oM
  have LM := Lib.hid rd
  have BD := Lib.hid (((Blk.new w 23 #[.int .i64 d.x, .int .i64 d.y, .int .i64 d.z]).alloc (.cells #[.int .i64 p.b.b.x, .int .i64 p.b.b.y, .int .i64 p.b.b.z, .int .i64 p.b.s.x, .int .i64 p.b.s.y, .int .i64 p.b.s.z, .bool p.t0, .bool p.t1, .bool p.t2] 31)).below hb2)
  have BP := Lib.hid ((by have := (Blk.new (w.alloc (.cells #[.int .i64 d.x, .int .i64 d.y, .int .i64 d.z] 23)) 31 #[.int .i64 p.b.b.x, .int .i64 p.b.b.y, .int .i64 p.b.b.z, .int .i64 p.b.s.x, .int .i64 p.b.s.y, .int .i64 p.b.s.z, .bool p.t0, .bool p.t1, .bool p.t2]).below hb2; rwa [World.size_alloc] at this : Blk w2 (w.heap.size + 1) 31 #[.int .i64 p.b.b.x, .int .i64 p.b.b.y, .int .i64 p.b.b.z, .int .i64 p.b.s.x, .int .i64 p.b.s.y, .int .i64 p.b.s.z, .bool p.t0, .bool p.t1, .bool p.t2]))
  have HB := Lib.hid (below_then (show Below w.heap.size w ((w.alloc (.cells #[.int .i64 d.x, .int .i64 d.y, .int .i64 d.z] 23)).alloc (.cells #[.int .i64 p.b.b.x, .int .i64 p.b.b.y, .int .i64 p.b.b.z, .int .i64 p.b.s.x, .int .i64 p.b.s.y, .int .i64 p.b.s.z, .bool p.t0, .bool p.t1, .bool p.t2] 31)) by (repeat (first | (with_reducible exact Below.refl _ _) | (with_reducible assumption) | (with_reducible refine below_alloc ?_ _) | (with_reducible refine below_drewN ?_ _) | (with_reducible refine Below.drew ?_) | (with_reducible refine below_then ?_ (by with_reducible assumption)) | (with_reducible refine Below.setCell ?_ (by go_size) _)))) hb2)
  clear hb2 oM rd
  go_wp2_with fail
  refine wp_loop_rounds 4 ?_
  rw [rounds_succ]
  go_wp2_with fail
  go_loopw [5, 8] (fun v x wr => ∃ i : Nat, i ≤ M.length ∧ x = .int .i64 i ∧ wr.ownsRow w2.heap.size 3 1 v ([] ++ cabsF d p 0 (M.take i)).length (ic ([] ++ cabsF d p 0 (M.take i))) ∧ Below w2.heap.size w2 wr) (fun _ x _ => M.length - (intOf x).toNat)
  case atStart => exact ⟨0, Nat.zero_le _, rfl, World.ownsRow_nil _ _ _ _, Below.refl _ _⟩
  case round =>
    obtain ⟨i, hi', rfl, hown, hbe⟩ := hrel
    have HO := Lib.hid hown
    have HBE := Lib.hid hbe
    by_cases hlt : i < M.length
    · obtain ⟨b0, off, e, hc0⟩ := LM.out i _ (getElem?_map_int hlt)
      subst e
      obtain ⟨m, hm⟩ : ∃ m, m = M[i] := ⟨_, rfl⟩
      have hmr := HMM.out m (by rw [hm]; exact List.getElem_mem hlt)
      have hc := (hbe.cell (p := ⟨b0, off + i, none⟩) (World.block_lt_of_cell? w2 _ hc0)).trans hc0
      rw [← hm] at hc
      have htk := Lib.hid (show cabsF d p 0 (M.take (i + 1)) = cabsF d p 0 (M.take i) ++ (if beginB d p.b 0 m then d.runV ((0 : Nat) : Int) m (p.b.s.at 0) (p.tor 0) else []) by rw [List.take_succ_eq_append_getElem hlt, cabsF_snoc, ← hm])
      have hol := cabsF_len d p 0 (M.take i)
      rw [List.length_take] at hol
      have bd := BD.out.below hbe
      have bp := BP.out.below hbe
      have d0 := bd.cell 0 _ rfl
      have d1 := bd.cell 1 _ rfl
      have d2 := bd.cell 2 _ rfl
      have p0 := bp.cell 0 _ rfl
      have p3 := bp.cell 3 _ rfl
      have p6 := bp.cell 6 _ rfl
      have l1 := bd.lt
      have l2 := bp.lt
      have l3 : b0 < wr.heap.size := World.block_lt_of_cell? wr _ hc
      have zr := hbe.size
      have IW := Lib.hid (fun (y : Aft wr) => Calls.aft_of (x := y) (HW.out m y.to hmr))
      have HTm := Lib.hid (fun W => HT0.out m W hmr)
      clear bd bp hown hbe hc0 hm
      cases hbg : beginB d p.b 0 m with
      | false =>
        have hne : ((d.pos m).x == p.b.b.x) = false := beq_eq_false_iff_ne.2 (of_decide_eq_false (show decide ((d.pos m).x = p.b.b.x) = false from hbg))
        rw [hbg] at htk
        clear hbg
        go_wp2_with fail
        (refine wp_region_aft (by kernel_rfl) (by kernel_rfl) ?_; (repeat (any_goals (first | go_big_quiet_step ((go_at_call 116; with_reducible exact IW.out _)) | quiet_step ((go_at_call 116; with_reducible exact IW.out _)) | (refine wpQuiet_step (fun K hK => ?_); go_simp; split <;> (refine hK _ ?_; clear hK K))))); all_goals (refine wpQuiet_nil ?_; intro wq hw'; obtain ⟨x1, hx1⟩ := hw'; have hbq := x1.h; rw [← hx1] at hbq; clear hx1 x1))
        all_goals
          have HQ := Lib.hid (show wq.ownsRow w2.heap.size 3 1 u5 ([] ++ cabsF d p 0 (M.take (i + 1))).length (ic ([] ++ cabsF d p 0 (M.take (i + 1)))) by rw [htk.out, show (if false = true then d.runV ((0 : Nat) : Int) m (p.b.s.at 0) (p.tor 0) else []) = [] from rfl, List.append_nil]; exact own_keep HO.out hbq)
          have HBQ := Lib.hid (HBE.out.trans (hbq.mono zr))
          clear hbq d0 d1 d2 p0 p3 p6 hc
          go_wp2_with fail
          exact ⟨⟨i + 1, by omega, by go_num, HQ.out, HBQ.out⟩, by simp [intOf]; omega⟩
      | true =>
        have hne : ((d.pos m).x == p.b.b.x) = true := by rw [beq_iff_eq]; exact of_decide_eq_true (show decide ((d.pos m).x = p.b.b.x) = true from hbg)
        rw [hbg] at htk
        clear hbg
        obtain ⟨R, hR⟩ : ∃ R, R = d.runV ((0 : Nat) : Int) m p.b.s.x p.t0 := ⟨_, rfl⟩
        rw [← hR] at HTm
        have hrl := d.runV_len ((0 : Nat) : Int) m p.b.s.x p.t0
        rw [← hR] at hrl
        have HRR := Lib.hid (show (if true = true then d.runV ((0 : Nat) : Int) m (p.b.s.at 0) (p.tor 0) else []) = R from hR.symm)
        clear hR
        go_wp2_with fail
        (refine wp_region_aft (by kernel_rfl) (by kernel_rfl) ?_; (repeat (any_goals (first | go_big_quiet_step ((go_at_call 116; with_reducible exact IW.out _)) | quiet_step ((go_at_call 116; with_reducible exact IW.out _)) | (refine wpQuiet_step (fun K hK => ?_); go_simp; split <;> (refine hK _ ?_; clear hK K))))); all_goals (refine wpQuiet_nil ?_; intro wq hw'; obtain ⟨x1, hx1⟩ := hw'; have hbq := x1.h; rw [← hx1] at hbq; clear hx1 x1))
        all_goals
          have HOq := Lib.hid (own_keep HO.out hbq)
          have HBQ := Lib.hid (HBE.out.trans (hbq.mono zr))
          have bd := BD.out.below HBQ.out
          have bp := BP.out.below HBQ.out
          have hcq := (hbq.cell (p := ⟨b0, off + i, none⟩) l3).trans hc
          have l4 := bd.lt
          have l5 := bp.lt
          have l6 : b0 < wq.heap.size := World.block_lt_of_cell? wq _ hcq
          have zq := HBQ.out.size
          clear hbq d0 d1 d2 p0 p3 p6 hc
          have d0 := bd.cell 0 _ rfl
          have d1 := bd.cell 1 _ rfl
          have d2 := bd.cell 2 _ rfl
          have p3 := bp.cell 3 _ rfl
          have p6 := bp.cell 6 _ rfl
          have mixed : Tryz.prog.follows .mixedOrders = true := by kernel_rfl
          clear bd bp
          go_wp2_with fail
          go_region_law (first
            | (refine step_addE _ rfl _ _ 83 rfl 3 i0 (.int .i64 0) 1 8 Tryz.underlying83 hi iz0 iz1 iz2 rfl (by decide) (by decide) w2.heap.size (by omega) _ (by rfl) _ _ HOA.out ba R.length ca (ic R) (by rfl) (by rw [ic_len]; omega) hnil HRD.out (ic_one R) (by rw [List.length_append]; simp; omega) ?_; intro vr wr' hor hbr)
            | (go_simp; go_at_call 117; (with_reducible refine (HTm.out _).mono ?_); rintro e wa ⟨va, rfl, hoa, hba⟩; have hba' := below_then (show Below wq.heap.size wq _ by (repeat (first | (with_reducible exact Below.refl _ _) | (with_reducible assumption) | (with_reducible refine below_alloc ?_ _) | (with_reducible refine below_drewN ?_ _) | (with_reducible refine Below.drew ?_) | (with_reducible refine below_then ?_ (by with_reducible assumption)) | (with_reducible refine Below.setCell ?_ (by go_size) _)))) hba; have HOA := Lib.hid (own_keep HOq.out hba'); have HBA := Lib.hid (HBQ.out.trans (hba'.mono zq)); have zA := HBA.out.size; obtain ⟨ba, ca, rfl, hrd, _⟩ := own_rd hoa; have hnil := own_none hoa; have HRD := Lib.hid hrd; clear hoa hrd hba hba'))
          all_goals
            have o6 := hor
            rw [← ic_app, ← List.length_append] at o6
            have HQ := Lib.hid (show wr'.ownsRow w2.heap.size 3 1 vr ([] ++ cabsF d p 0 (M.take (i + 1))).length (ic ([] ++ cabsF d p 0 (M.take (i + 1)))) by rw [htk.out, HRR.out, ← List.append_assoc]; exact o6)
            have HBR := Lib.hid (HBA.out.trans hbr)
            clear hor hbr o6
            go_wp2_with fail
            exact ⟨⟨i + 1, by omega, by go_num, HQ.out, HBR.out⟩, by simp [intOf]; omega⟩
    · obtain rfl : i = M.length := by omega
      rw [List.take_length, HC0.out] at hown
      have HP1 := Lib.hid hown
      have HBP1 := Lib.hid hbe
      clear hown hbe HO HBE
      go_wp2_with fail
      rw [rounds_succ]
      go_wp2_with fail
      go_loopw [5, 8] (fun v x wr => ∃ i : Nat, i ≤ M.length ∧ x = .int .i64 i ∧ wr.ownsRow w2.heap.size 3 1 v (([] ++ cabs d p 0) ++ cabsF d p 1 (M.take i)).length (ic (([] ++ cabs d p 0) ++ cabsF d p 1 (M.take i))) ∧ Below w2.heap.size w2 wr) (fun _ x _ => M.length - (intOf x).toNat)
      case atStart => exact ⟨0, Nat.zero_le _, rfl, by rw [show cabsF d p 1 (M.take 0) = [] from rfl, List.append_nil]; exact HP1.out, HBP1.out⟩
      case round =>
        obtain ⟨i, hi', rfl, hown, hbe⟩ := hrel
        have HO := Lib.hid hown
        have HBE := Lib.hid hbe
        by_cases hlt : i < M.length
        · obtain ⟨b0, off, e, hc0⟩ := LM.out i _ (getElem?_map_int hlt)
          subst e
          obtain ⟨m, hm⟩ : ∃ m, m = M[i] := ⟨_, rfl⟩
          have hmr := HMM.out m (by rw [hm]; exact List.getElem_mem hlt)
          have hc := (hbe.cell (p := ⟨b0, off + i, none⟩) (World.block_lt_of_cell? w2 _ hc0)).trans hc0
          rw [← hm] at hc
          have htk := Lib.hid (show cabsF d p 1 (M.take (i + 1)) = cabsF d p 1 (M.take i) ++ (if beginB d p.b 1 m then d.runV ((1 : Nat) : Int) m (p.b.s.at 1) (p.tor 1) else []) by rw [List.take_succ_eq_append_getElem hlt, cabsF_snoc, ← hm])
          have hol := cabsF_len d p 1 (M.take i)
          rw [List.length_take] at hol
          have bd := BD.out.below hbe
          have bp := BP.out.below hbe
          have d0 := bd.cell 0 _ rfl
          have d1 := bd.cell 1 _ rfl
          have d2 := bd.cell 2 _ rfl
          have p0 := bp.cell 1 _ rfl
          have p3 := bp.cell 4 _ rfl
          have p6 := bp.cell 7 _ rfl
          have l1 := bd.lt
          have l2 := bp.lt
          have l3 : b0 < wr.heap.size := World.block_lt_of_cell? wr _ hc
          have zr := hbe.size
          have IW := Lib.hid (fun (y : Aft wr) => Calls.aft_of (x := y) (HW.out m y.to hmr))
          have HTm := Lib.hid (fun W => HT1.out m W hmr)
          clear bd bp hown hbe hc0 hm
          cases hbg : beginB d p.b 1 m with
          | false =>
            have hne : ((d.pos m).y == p.b.b.y) = false := beq_eq_false_iff_ne.2 (of_decide_eq_false (show decide ((d.pos m).y = p.b.b.y) = false from hbg))
            rw [hbg] at htk
            clear hbg
            go_wp2_with fail
            (refine wp_region_aft (by kernel_rfl) (by kernel_rfl) ?_; (repeat (any_goals (first | go_big_quiet_step ((go_at_call 116; with_reducible exact IW.out _)) | quiet_step ((go_at_call 116; with_reducible exact IW.out _)) | (refine wpQuiet_step (fun K hK => ?_); go_simp; split <;> (refine hK _ ?_; clear hK K))))); all_goals (refine wpQuiet_nil ?_; intro wq hw'; obtain ⟨x1, hx1⟩ := hw'; have hbq := x1.h; rw [← hx1] at hbq; clear hx1 x1))
            all_goals
              have HQ := Lib.hid (show wq.ownsRow w2.heap.size 3 1 u5 (([] ++ cabs d p 0) ++ cabsF d p 1 (M.take (i + 1))).length (ic (([] ++ cabs d p 0) ++ cabsF d p 1 (M.take (i + 1)))) by rw [htk.out, show (if false = true then d.runV ((1 : Nat) : Int) m (p.b.s.at 1) (p.tor 1) else []) = [] from rfl, List.append_nil]; exact own_keep HO.out hbq)
              have HBQ := Lib.hid (HBE.out.trans (hbq.mono zr))
              clear hbq d0 d1 d2 p0 p3 p6 hc
              go_wp2_with fail
              exact ⟨⟨i + 1, by omega, by go_num, HQ.out, HBQ.out⟩, by simp [intOf]; omega⟩
          | true =>
            have hne : ((d.pos m).y == p.b.b.y) = true := by rw [beq_iff_eq]; exact of_decide_eq_true (show decide ((d.pos m).y = p.b.b.y) = true from hbg)
            rw [hbg] at htk
            clear hbg
            obtain ⟨R, hR⟩ : ∃ R, R = d.runV ((1 : Nat) : Int) m p.b.s.y p.t1 := ⟨_, rfl⟩
            rw [← hR] at HTm
            have hrl := d.runV_len ((1 : Nat) : Int) m p.b.s.y p.t1
            rw [← hR] at hrl
            have HRR := Lib.hid (show (if true = true then d.runV ((1 : Nat) : Int) m (p.b.s.at 1) (p.tor 1) else []) = R from hR.symm)
            clear hR
            go_wp2_with fail
            (refine wp_region_aft (by kernel_rfl) (by kernel_rfl) ?_; (repeat (any_goals (first | go_big_quiet_step ((go_at_call 116; with_reducible exact IW.out _)) | quiet_step ((go_at_call 116; with_reducible exact IW.out _)) | (refine wpQuiet_step (fun K hK => ?_); go_simp; split <;> (refine hK _ ?_; clear hK K))))); all_goals (refine wpQuiet_nil ?_; intro wq hw'; obtain ⟨x1, hx1⟩ := hw'; have hbq := x1.h; rw [← hx1] at hbq; clear hx1 x1))
            all_goals
              have HOq := Lib.hid (own_keep HO.out hbq)
              have HBQ := Lib.hid (HBE.out.trans (hbq.mono zr))
              have bd := BD.out.below HBQ.out
              have bp := BP.out.below HBQ.out
              have hcq := (hbq.cell (p := ⟨b0, off + i, none⟩) l3).trans hc
              have l4 := bd.lt
              have l5 := bp.lt
              have l6 : b0 < wq.heap.size := World.block_lt_of_cell? wq _ hcq
              have zq := HBQ.out.size
              clear hbq d0 d1 d2 p0 p3 p6 hc
              have d0 := bd.cell 0 _ rfl
              have d1 := bd.cell 1 _ rfl
              have d2 := bd.cell 2 _ rfl
              have p3 := bp.cell 4 _ rfl
              have p6 := bp.cell 7 _ rfl
              have mixed : Tryz.prog.follows .mixedOrders = true := by kernel_rfl
              clear bd bp
              go_wp2_with fail
              go_region_law (first
                | (refine step_addE _ rfl _ _ 83 rfl 3 i0 (.int .i64 0) 1 8 Tryz.underlying83 hi iz0 iz1 iz2 rfl (by decide) (by decide) w2.heap.size (by omega) _ (by rfl) _ _ HOA.out ba R.length ca (ic R) (by rfl) (by rw [ic_len]; omega) hnil HRD.out (ic_one R) (by rw [List.length_append]; simp; omega) ?_; intro vr wr' hor hbr)
                | (go_simp; go_at_call 117; (with_reducible refine (HTm.out _).mono ?_); rintro e wa ⟨va, rfl, hoa, hba⟩; have hba' := below_then (show Below wq.heap.size wq _ by (repeat (first | (with_reducible exact Below.refl _ _) | (with_reducible assumption) | (with_reducible refine below_alloc ?_ _) | (with_reducible refine below_drewN ?_ _) | (with_reducible refine Below.drew ?_) | (with_reducible refine below_then ?_ (by with_reducible assumption)) | (with_reducible refine Below.setCell ?_ (by go_size) _)))) hba; have HOA := Lib.hid (own_keep HOq.out hba'); have HBA := Lib.hid (HBQ.out.trans (hba'.mono zq)); have zA := HBA.out.size; obtain ⟨ba, ca, rfl, hrd, _⟩ := own_rd hoa; have hnil := own_none hoa; have HRD := Lib.hid hrd; clear hoa hrd hba hba'))
              all_goals
                have o6 := hor
                rw [← ic_app, ← List.length_append] at o6
                have HQ := Lib.hid (show wr'.ownsRow w2.heap.size 3 1 vr (([] ++ cabs d p 0) ++ cabsF d p 1 (M.take (i + 1))).length (ic (([] ++ cabs d p 0) ++ cabsF d p 1 (M.take (i + 1)))) by rw [htk.out, HRR.out, ← List.append_assoc]; exact o6)
                have HBR := Lib.hid (HBA.out.trans hbr)
                clear hor hbr o6
                go_wp2_with fail
                exact ⟨⟨i + 1, by omega, by go_num, HQ.out, HBR.out⟩, by simp [intOf]; omega⟩
        · obtain rfl : i = M.length := by omega
          rw [List.take_length, HC1.out] at hown
          have HP2 := Lib.hid hown
          have HBP2 := Lib.hid hbe
          clear hown hbe HO HBE
          go_wp2_with fail
          rw [rounds_succ]
          go_wp2_with fail
          go_loopw [5, 8] (fun v x wr => ∃ i : Nat, i ≤ M.length ∧ x = .int .i64 i ∧ wr.ownsRow w2.heap.size 3 1 v (([] ++ cabs d p 0 ++ cabs d p 1) ++ cabsF d p 2 (M.take i)).length (ic (([] ++ cabs d p 0 ++ cabs d p 1) ++ cabsF d p 2 (M.take i))) ∧ Below w2.heap.size w2 wr) (fun _ x _ => M.length - (intOf x).toNat)
          case atStart => exact ⟨0, Nat.zero_le _, rfl, by rw [show cabsF d p 2 (M.take 0) = [] from rfl, List.append_nil]; exact HP2.out, HBP2.out⟩
          case round =>
            obtain ⟨i, hi', rfl, hown, hbe⟩ := hrel
            have HO := Lib.hid hown
            have HBE := Lib.hid hbe
            by_cases hlt : i < M.length
            · obtain ⟨b0, off, e, hc0⟩ := LM.out i _ (getElem?_map_int hlt)
              subst e
              obtain ⟨m, hm⟩ : ∃ m, m = M[i] := ⟨_, rfl⟩
              have hmr := HMM.out m (by rw [hm]; exact List.getElem_mem hlt)
              have hc := (hbe.cell (p := ⟨b0, off + i, none⟩) (World.block_lt_of_cell? w2 _ hc0)).trans hc0
              rw [← hm] at hc
              have htk := Lib.hid (show cabsF d p 2 (M.take (i + 1)) = cabsF d p 2 (M.take i) ++ (if beginB d p.b 2 m then d.runV ((2 : Nat) : Int) m (p.b.s.at 2) (p.tor 2) else []) by rw [List.take_succ_eq_append_getElem hlt, cabsF_snoc, ← hm])
              have hol := cabsF_len d p 2 (M.take i)
              rw [List.length_take] at hol
              have bd := BD.out.below hbe
              have bp := BP.out.below hbe
              have d0 := bd.cell 0 _ rfl
              have d1 := bd.cell 1 _ rfl
              have d2 := bd.cell 2 _ rfl
              have p0 := bp.cell 2 _ rfl
              have p3 := bp.cell 5 _ rfl
              have p6 := bp.cell 8 _ rfl
              have l1 := bd.lt
              have l2 := bp.lt
              have l3 : b0 < wr.heap.size := World.block_lt_of_cell? wr _ hc
              have zr := hbe.size
              have IW := Lib.hid (fun (y : Aft wr) => Calls.aft_of (x := y) (HW.out m y.to hmr))
              have HTm := Lib.hid (fun W => HT2.out m W hmr)
              clear bd bp hown hbe hc0 hm
              cases hbg : beginB d p.b 2 m with
              | false =>
                have hne : ((d.pos m).z == p.b.b.z) = false := beq_eq_false_iff_ne.2 (of_decide_eq_false (show decide ((d.pos m).z = p.b.b.z) = false from hbg))
                rw [hbg] at htk
                clear hbg
                go_wp2_with fail
                (refine wp_region_aft (by kernel_rfl) (by kernel_rfl) ?_; (repeat (any_goals (first | go_big_quiet_step ((go_at_call 116; with_reducible exact IW.out _)) | quiet_step ((go_at_call 116; with_reducible exact IW.out _)) | (refine wpQuiet_step (fun K hK => ?_); go_simp; split <;> (refine hK _ ?_; clear hK K))))); all_goals (refine wpQuiet_nil ?_; intro wq hw'; obtain ⟨x1, hx1⟩ := hw'; have hbq := x1.h; rw [← hx1] at hbq; clear hx1 x1))
                all_goals
                  have HQ := Lib.hid (show wq.ownsRow w2.heap.size 3 1 u5 (([] ++ cabs d p 0 ++ cabs d p 1) ++ cabsF d p 2 (M.take (i + 1))).length (ic (([] ++ cabs d p 0 ++ cabs d p 1) ++ cabsF d p 2 (M.take (i + 1)))) by rw [htk.out, show (if false = true then d.runV ((2 : Nat) : Int) m (p.b.s.at 2) (p.tor 2) else []) = [] from rfl, List.append_nil]; exact own_keep HO.out hbq)
                  have HBQ := Lib.hid (HBE.out.trans (hbq.mono zr))
                  clear hbq d0 d1 d2 p0 p3 p6 hc
                  go_wp2_with fail
                  exact ⟨⟨i + 1, by omega, by go_num, HQ.out, HBQ.out⟩, by simp [intOf]; omega⟩
              | true =>
                have hne : ((d.pos m).z == p.b.b.z) = true := by rw [beq_iff_eq]; exact of_decide_eq_true (show decide ((d.pos m).z = p.b.b.z) = true from hbg)
                rw [hbg] at htk
                clear hbg
                obtain ⟨R, hR⟩ : ∃ R, R = d.runV ((2 : Nat) : Int) m p.b.s.z p.t2 := ⟨_, rfl⟩
                rw [← hR] at HTm
                have hrl := d.runV_len ((2 : Nat) : Int) m p.b.s.z p.t2
                rw [← hR] at hrl
                have HRR := Lib.hid (show (if true = true then d.runV ((2 : Nat) : Int) m (p.b.s.at 2) (p.tor 2) else []) = R from hR.symm)
                clear hR
                go_wp2_with fail
                (refine wp_region_aft (by kernel_rfl) (by kernel_rfl) ?_; (repeat (any_goals (first | go_big_quiet_step ((go_at_call 116; with_reducible exact IW.out _)) | quiet_step ((go_at_call 116; with_reducible exact IW.out _)) | (refine wpQuiet_step (fun K hK => ?_); go_simp; split <;> (refine hK _ ?_; clear hK K))))); all_goals (refine wpQuiet_nil ?_; intro wq hw'; obtain ⟨x1, hx1⟩ := hw'; have hbq := x1.h; rw [← hx1] at hbq; clear hx1 x1))
                all_goals
                  have HOq := Lib.hid (own_keep HO.out hbq)
                  have HBQ := Lib.hid (HBE.out.trans (hbq.mono zr))
                  have bd := BD.out.below HBQ.out
                  have bp := BP.out.below HBQ.out
                  have hcq := (hbq.cell (p := ⟨b0, off + i, none⟩) l3).trans hc
                  have l4 := bd.lt
                  have l5 := bp.lt
                  have l6 : b0 < wq.heap.size := World.block_lt_of_cell? wq _ hcq
                  have zq := HBQ.out.size
                  clear hbq d0 d1 d2 p0 p3 p6 hc
                  have d0 := bd.cell 0 _ rfl
                  have d1 := bd.cell 1 _ rfl
                  have d2 := bd.cell 2 _ rfl
                  have p3 := bp.cell 5 _ rfl
                  have p6 := bp.cell 8 _ rfl
                  have mixed : Tryz.prog.follows .mixedOrders = true := by kernel_rfl
                  clear bd bp
                  go_wp2_with fail
                  go_region_law (first
                    | (refine step_addE _ rfl _ _ 83 rfl 3 i0 (.int .i64 0) 1 8 Tryz.underlying83 hi iz0 iz1 iz2 rfl (by decide) (by decide) w2.heap.size (by omega) _ (by rfl) _ _ HOA.out ba R.length ca (ic R) (by rfl) (by rw [ic_len]; omega) hnil HRD.out (ic_one R) (by rw [List.length_append]; simp; omega) ?_; intro vr wr' hor hbr)
                    | (go_simp; go_at_call 117; (with_reducible refine (HTm.out _).mono ?_); rintro e wa ⟨va, rfl, hoa, hba⟩; have hba' := below_then (show Below wq.heap.size wq _ by (repeat (first | (with_reducible exact Below.refl _ _) | (with_reducible assumption) | (with_reducible refine below_alloc ?_ _) | (with_reducible refine below_drewN ?_ _) | (with_reducible refine Below.drew ?_) | (with_reducible refine below_then ?_ (by with_reducible assumption)) | (with_reducible refine Below.setCell ?_ (by go_size) _)))) hba; have HOA := Lib.hid (own_keep HOq.out hba'); have HBA := Lib.hid (HBQ.out.trans (hba'.mono zq)); have zA := HBA.out.size; obtain ⟨ba, ca, rfl, hrd, _⟩ := own_rd hoa; have hnil := own_none hoa; have HRD := Lib.hid hrd; clear hoa hrd hba hba'))
                  all_goals
                    have o6 := hor
                    rw [← ic_app, ← List.length_append] at o6
                    have HQ := Lib.hid (show wr'.ownsRow w2.heap.size 3 1 vr (([] ++ cabs d p 0 ++ cabs d p 1) ++ cabsF d p 2 (M.take (i + 1))).length (ic (([] ++ cabs d p 0 ++ cabs d p 1) ++ cabsF d p 2 (M.take (i + 1)))) by rw [htk.out, HRR.out, ← List.append_assoc]; exact o6)
                    have HBR := Lib.hid (HBA.out.trans hbr)
                    clear hor hbr o6
                    go_wp2_with fail
                    exact ⟨⟨i + 1, by omega, by go_num, HQ.out, HBR.out⟩, by simp [intOf]; omega⟩
            · obtain rfl : i = M.length := by omega
              rw [List.take_length, HC2.out] at hown
              have HP3 := Lib.hid hown
              have HBP3 := Lib.hid hbe
              have z3 := HB.out.size
              clear hown hbe HO HBE
              go_wp2_with fail
              rw [rounds_succ]
              go_wp2_with fail
              go_returns
              exact ⟨_, rfl, by rw [HVV.out]; exact row_mono HP3.out HB.out.size, HB.out.trans (HBP3.out.mono HB.out.size)⟩
end
end Go.Proofs.YtofoenlhbmammaaGreat
