/- PLACE: the midplanes that a place passes. -/
import Derived.Test.YthabpiphfaedaaaPasses
namespace Go.Proofs.Ythabpiphfaedaaa
open Go.RowKit Go.Shelf

theorem Blk.two {W : World} {B : Nat} {t : TypeId} {a b : Int} (h : Blk W B t #[.int .i64 a, .int .i64 b]) {j : Nat} (hj : j < 2) : W.cell? ⟨B, j, none⟩ = some (.int .i64 (if j = 0 then a else b)) := by
  match j, hj with
  | 0, _ => exact h.cell 0 _ rfl
  | 1, _ => exact h.cell 1 _ rfl
set_option maxRecDepth 100000 in set_option maxHeartbeats 4000000 in
theorem place_Passes (d : V3) (p : Pl) (w : World) : Calls Try.prog 9 #[.agg #[.int .i64 d.x, .int .i64 d.y, .int .i64 d.z], .agg #[.int .i64 p.b.b.x, .int .i64 p.b.b.y, .int .i64 p.b.b.z, .int .i64 p.b.s.x, .int .i64 p.b.s.y, .int .i64 p.b.s.z, .bool p.t0, .bool p.t1, .bool p.t2]] w (RLE w (passV d p) (plChk d p)) := by
  obtain ⟨i0, hi, iz0, iz1, iz2⟩ := info_parts infoInt
  have HC := Lib.hid (fun W => place_Check d p W)
  by_cases hz : plChk d p = 0
  · obtain ⟨hd, hb, _, _⟩ := plChk_0 hz
    have HV := Lib.hid (show passV d p = Lib.compact (sorted (outsOf d p (cabsV d p))) from if_pos hz)
    have HT := Lib.hid (fun W => place_taken d p W hd hb)
    have HR := Lib.hid (Bx.all_rise d p.b)
    have q1 := Bx.all_len' d p.b hd
    have q2 : (cabsV d p).length ≤ 200000 := by
      have := cabs_len d p 0 hd; have := cabs_len d p 1 hd; have := cabs_len d p 2 hd
      unfold cabsV; rw [List.length_append, List.length_append]; omega
    have HE := Lib.hid (fun x W => wire_Ends d x W)
    have HQ := Lib.hid (fun m => (show outQ d p m = decide (m ∉ p.b.all d) from rfl))
    rw [hz] at HC ⊢
    clear hz hd hb
    generalize p.b.all d = M at *
    generalize cabsV d p = C at *
    go_enter Try.func9, Try.ntmps9
    go_wp2_with fail
    refine (HC.out _).mono ?_
    rintro e w1 ⟨rfl, hb1⟩
    have BD := Lib.hid (((Blk.new w 23 #[.int .i64 d.x, .int .i64 d.y, .int .i64 d.z]).alloc (.cells #[.int .i64 p.b.b.x, .int .i64 p.b.b.y, .int .i64 p.b.b.z, .int .i64 p.b.s.x, .int .i64 p.b.s.y, .int .i64 p.b.s.z, .bool p.t0, .bool p.t1, .bool p.t2] 28)).below hb1)
    have BP := Lib.hid ((by have := (Blk.new (w.alloc (.cells #[.int .i64 d.x, .int .i64 d.y, .int .i64 d.z] 23)) 28 #[.int .i64 p.b.b.x, .int .i64 p.b.b.y, .int .i64 p.b.b.z, .int .i64 p.b.s.x, .int .i64 p.b.s.y, .int .i64 p.b.s.z, .bool p.t0, .bool p.t1, .bool p.t2]).below hb1; rwa [World.size_alloc] at this : Blk w1 (w.heap.size + 1) 28 #[.int .i64 p.b.b.x, .int .i64 p.b.b.y, .int .i64 p.b.b.z, .int .i64 p.b.s.x, .int .i64 p.b.s.y, .int .i64 p.b.s.z, .bool p.t0, .bool p.t1, .bool p.t2]))
    have HB := Lib.hid (below_then (show Below w.heap.size w ((w.alloc (.cells #[.int .i64 d.x, .int .i64 d.y, .int .i64 d.z] 23)).alloc (.cells #[.int .i64 p.b.b.x, .int .i64 p.b.b.y, .int .i64 p.b.b.z, .int .i64 p.b.s.x, .int .i64 p.b.s.y, .int .i64 p.b.s.z, .bool p.t0, .bool p.t1, .bool p.t2] 28)) by (repeat (first | (with_reducible exact Below.refl _ _) | (with_reducible assumption) | (with_reducible refine below_alloc ?_ _) | (with_reducible refine below_drewN ?_ _) | (with_reducible refine Below.drew ?_) | (with_reducible refine below_then ?_ (by with_reducible assumption)) | (with_reducible refine Below.setCell ?_ (by go_size) _)))) hb1)
    clear hb1
    (have d0 := (BD.out).cell 0 _ rfl; have d1 := (BD.out).cell 1 _ rfl; have d2 := (BD.out).cell 2 _ rfl)
    (have p0 := (BP.out).cell 0 _ rfl; have p1 := (BP.out).cell 1 _ rfl; have p2 := (BP.out).cell 2 _ rfl; have p3 := (BP.out).cell 3 _ rfl; have p4 := (BP.out).cell 4 _ rfl; have p5 := (BP.out).cell 5 _ rfl; have p6 := (BP.out).cell 6 _ rfl; have p7 := (BP.out).cell 7 _ rfl; have p8 := (BP.out).cell 8 _ rfl)
    go_wp2_with fail
    refine (HT.out _).mono ?_
    rintro e w3 ⟨v3, u3, rfl, o3, r3, hb3⟩
    obtain ⟨ba, ca, rfl, la, _⟩ := own_rd o3
    obtain ⟨bl, cl, rfl, ll, _⟩ := own_rd r3
    have HB3 := Lib.hid (below_then HB.out hb3)
    have BD3 := Lib.hid (BD.out.below hb3)
    have LM := Lib.hid (show IIn w3 ba M from ⟨la, by omega⟩)
    have LL := Lib.hid ll
    clear hb3 d0 d1 d2 p0 p1 p2 p3 p4 p5 p6 p7 p8 o3 r3 la ll BD BP HB
    go_wp2_with fail
    have z3 := HB3.out.size
    go_loopw [9, 34] (fun v x wr => ∃ i : Nat, i ≤ C.length ∧ x = .int .i64 i ∧ wr.ownsRow w3.heap.size 3 1 v (outsOf d p (C.take i)).length (ic (outsOf d p (C.take i))) ∧ Below w3.heap.size w3 wr) (fun _ x _ => C.length - (intOf x).toNat)
    case atStart => exact ⟨0, Nat.zero_le _, rfl, World.ownsRow_nil _ _ _ _, Below.refl _ _⟩
    case round =>
      obtain ⟨i, hi', rfl, hown, hbe⟩ := hrel
      have HO := Lib.hid hown
      have HBE := Lib.hid hbe
      by_cases hlt : i < C.length
      · obtain ⟨b0, off, e, hc0⟩ := LL.out i _ (getElem?_map_int hlt)
        subst e
        obtain ⟨x, hx⟩ : ∃ x, x = C[i] := ⟨_, rfl⟩
        have hc := (hbe.cell (p := ⟨b0, off + i, none⟩) (World.block_lt_of_cell? w3 _ hc0)).trans hc0
        rw [← hx] at hc
        have htk := Lib.hid (show outsOf d p (C.take (i + 1)) = outsOf d p (C.take i) ++ partJ d p x 2 by rw [List.take_succ_eq_append_getElem hlt, outsOf_snoc, ← hx]; rfl)
        have hol := outsOf_len d p (C.take i)
        rw [List.length_take] at hol
        have bd := BD3.out.below hbe
        (have d0 := (bd).cell 0 _ rfl; have d1 := (bd).cell 1 _ rfl; have d2 := (bd).cell 2 _ rfl)
        have zr := hbe.size
        clear bd hown hbe hc0 hx
        go_wp2_with fail
        refine (HE.out x _).mono ?_
        rintro e w4 ⟨rfl, hb4⟩
        have HO4 := Lib.hid (own_keep HO.out hb4)
        have HB4 := Lib.hid (HBE.out.trans (hb4.mono zr))
        have z4 := HB4.out.size
        clear hb4 d0 d1 d2 hc
        have HJ := Lib.hid (fun j (hj : j < 2) => partJ_succ d p x hj)
        have HJL := Lib.hid (fun j => partJ_len d p x j)
        have HJE := Lib.hid (fun j => (show endJ d x j = if j = 0 then d.endM x else d.endT x from rfl))
        generalize d.endM x = ea at *
        generalize d.endT x = eb at *
        generalize d.endA x = ex at *
        generalize d.endE x = ee at *
        obtain ⟨O, hO⟩ : ∃ O, O = outsOf d p (C.take i) := ⟨_, rfl⟩
        rw [← hO] at HO4 htk hol
        clear HO hO
        go_wp2_with fail
        go_loopw [9, 50] (fun v y wr' => ∃ j : Nat, j ≤ 2 ∧ y = .int .i64 j ∧ wr'.ownsRow w3.heap.size 3 1 v (O ++ partJ d p x j).length (ic (O ++ partJ d p x j)) ∧ Below w3.heap.size w3 wr' ∧ Blk wr' w4.heap.size 3 #[.int .i64 ea, .int .i64 eb] ∧ v.ownBlock ≠ some w4.heap.size) (fun _ y _ => 2 - (intOf y).toNat)
        case atStart => exact ⟨0, Nat.zero_le _, rfl, by rw [show partJ d p x 0 = [] from rfl, List.append_nil]; exact HO4.out.alloc _, HB4.out.alloc z4 _, Blk.new .., fun e => by have := own_lt HO4.out e; omega⟩
        case round =>
          obtain ⟨j, hj, rfl, hown, hbe, hblk, hsep⟩ := hrel
          have HOJ := Lib.hid hown
          have HBJ := Lib.hid hbe
          have HBK := Lib.hid hblk
          have HSJ := Lib.hid hsep
          have hpl := HJL.out j
          have hll : (O ++ partJ d p x j).length = O.length + (partJ d p x j).length := List.length_append
          by_cases hlj : j < 2
          · have hce := hblk.two hlj
            rw [← HJE.out j] at hce
            have hst := HJ.out j hlj
            generalize endJ d x j = m at *
            rw [HQ.out m] at hst
            have HS := Lib.hid hst
            have HBS := Lib.hid (fun W (hw : Below w3.heap.size w3 W) => bsearch ba ca M m W (LM.out.keep hw) HR.out)
            have zj := hbe.size
            clear hown hbe hblk hsep hst
            by_cases hmm : m ∈ M
            · rw [decide_eq_true hmm] at HBS
              have hst2 := Lib.hid (show partJ d p x (j + 1) = partJ d p x j by rw [HS.out, decide_eq_false (fun h => h hmm)]; simp)
              clear hmm
              go_wp2_with fail
              refine (HBS.out _ HBJ.out).mono ?_
              rintro e w5 ⟨rfl, hb5⟩
              have HO5 := Lib.hid (own_keep HOJ.out hb5)
              have HB5 := Lib.hid (HBJ.out.trans (hb5.mono zj))
              have HK5 := Lib.hid (HBK.out.below hb5)
              clear hb5 hce
              go_wp2_with fail
              go_roundw
              case rel => exact ⟨j + 1, by omega, by go_num, by rw [hst2.out]; exact HO5.out, HB5.out, HK5.out, HSJ.out⟩
              case measure => (simp [intOf] <;> omega)
            · rw [decide_eq_false hmm] at HBS
              have hst2 := Lib.hid (show partJ d p x (j + 1) = partJ d p x j ++ [m] by rw [HS.out, decide_eq_true hmm]; simp)
              clear hmm
              go_wp2_with fail
              refine (HBS.out _ HBJ.out).mono ?_
              rintro e w5 ⟨rfl, hb5⟩
              have HO5 := Lib.hid (own_keep HOJ.out hb5)
              have HB5 := Lib.hid (HBJ.out.trans (hb5.mono zj))
              have HK5 := Lib.hid (HBK.out.below hb5)
              have z5 := HB5.out.size
              clear hb5 hce
              go_wp2_with (at_builtin; refine wpList_append_own_at _ rfl _ _ 30 rfl w3.heap.size 3 i0 (.int .i64 0) 1 8 Try.underlying30 hi iz0 iz1 iz2 rfl (by decide) _ _ _ rfl (HO5.out.alloc _) ⟨_, 0, none⟩ 1 1 [.int .i64 m] rfl rfl (cell_new1 _ _ _) (by simp [Value.oneCell']) ?ap3 ?ap4 ?ap5 ?_)
              case ap3 => unfold maxLen; omega
              case ap4 => omega
              case ap5 => simp; omega
              intro v6 w6 o6 g6 _ at6
              have n6 := own_below (HO5.out.alloc (.cells #[.int .i64 m] 3)) g6 (by simp; omega)
              have B6 := own_grown (HK5.out.alloc (.cells #[.int .i64 m] 3)) g6 HSJ.out
              have S6 : v6.ownBlock ≠ some w4.heap.size := fun e => by
                rcases at6 with h | h
                · exact HSJ.out (h ▸ e)
                · rw [e] at h
                  have h2 := HK5.out.lt
                  simp at h
                  omega
              have HO6 := Lib.hid (show w6.ownsRow w3.heap.size 3 1 v6 (O ++ partJ d p x (j + 1)).length (ic (O ++ partJ d p x (j + 1))) by rw [hst2.out, ← List.append_assoc, List.length_append (bs := [m]), ic_app (O ++ partJ d p x j) [m]]; rw [hll]; exact o6)
              have HB6 := Lib.hid ((HB5.out.alloc z5 (.cells #[.int .i64 m] 3)).trans n6)
              have HK6 := Lib.hid B6
              have HS6 := Lib.hid S6
              clear n6 B6 S6 o6 g6 at6 hll
              go_wp2_with fail
              go_roundw
              case rel => exact ⟨j + 1, by omega, by go_num, HO6.out, HB6.out, HK6.out, HS6.out⟩
              case measure => (simp [intOf] <;> omega)
          · obtain rfl : j = 2 := by omega
            rw [← htk.out] at hown
            have HO2 := Lib.hid hown
            clear hown hbe hblk hsep hll
            go_wp2_with fail
            go_roundw
            case rel => exact ⟨i + 1, by omega, by go_num, HO2.out, HBJ.out⟩
            case measure => (simp [intOf] <;> omega)
      · obtain rfl : i = C.length := by omega
        rw [List.take_length] at hown
        have hol := outsOf_len d p C
        generalize outsOf d p C = O at *
        have zr := hbe.size
        rcases hown.2 with ⟨e, hn⟩ | ⟨g, cap, cur, e, _⟩
        · subst e
          obtain rfl : O = [] := List.eq_nil_of_length_eq_zero hn
          have HZ := Lib.hid (show passV d p = [] by rw [HV.out, show sorted [] = [] by unfold sorted; simp]; rfl)
          have hfin := Lib.hid (HB3.out.trans (hbe.mono z3))
          clear hown hbe HO
          go_wp2_with fail
          refine (Any.slices_Sort_int_none Try.laysSort none 0 _).mono ?_
          rintro e w5 ⟨rfl, hw5⟩
          have hw5 := hw5.symm
          subst hw5
          go_wp2_with fail
          refine (Any.slices_Compact_int_empty Try.laysCompact none 0 _).mono ?_
          rintro e w6 ⟨rfl, hw6⟩
          have hw6 := hw6.symm
          subst hw6
          go_wp2_with fail
          go_returns
          exact ⟨_, rfl, by rw [HZ.out]; exact World.ownsRow_nil _ _ _ _, hfin.out⟩
        · subst e
          have hfin := Lib.hid (HB3.out.trans (hbe.mono z3))
          have HOW := Lib.hid hown
          have zz := hfin.out.size
          clear hown hbe HO
          go_wp2_with fail
          refine (sort_own HOW.out (by omega) (by omega)).mono ?_
          rintro e w5 ⟨rfl, o5, hb5⟩
          have hsl := sorted_len O
          have o5' : w5.ownsRow w3.heap.size 3 1 (.slice (some ⟨g, 0, none⟩) (sorted O).length cap) (sorted O).length (ic (sorted O)) := by rw [hsl]; exact o5
          have HO5 := Lib.hid o5'
          have HB5 := Lib.hid (hfin.out.trans (hb5.mono z3))
          have HCC := Lib.hid (show Calls Try.prog 33 #[.slice (some ⟨g, 0, none⟩) O.length cap] w5 fun e w' => ∃ v, e = .returned v ∧ w'.ownsRow w3.heap.size 3 1 v (Lib.compact (sorted O)).length (ic (Lib.compact (sorted O))) ∧ Below w3.heap.size w5 w' from by have := compact_own o5' (by omega); rw [hsl] at this; exact this)
          clear o5 o5' hb5
          go_wp2_with fail
          refine HCC.out.mono ?_
          rintro e w6 ⟨v6, rfl, o6, hb6⟩
          have HO6 := Lib.hid (row_mono o6 z3)
          have HB6 := Lib.hid (HB5.out.trans (hb6.mono z3))
          clear o6 hb6
          go_wp2_with fail
          go_returns
          exact ⟨_, rfl, by rw [HV.out]; exact HO6.out, HB6.out⟩
  · have HV := Lib.hid (show passV d p = [] from if_neg hz)
    have hy : (plChk d p != 0) = true := by simpa using hz
    clear hz
    go_enter Try.func9, Try.ntmps9
    go_wp2_with ((with_reducible refine (HC.out _).mono ?_); rintro e w1 ⟨rfl, hb1⟩; (obtain ⟨hc1, hf1⟩ := bcell hb1; have hz1 := hb1.size; (try simp at hz1); have hB : Below w.heap.size w w1 := (by (repeat (first | (with_reducible exact Below.refl _ _) | (with_reducible assumption) | (with_reducible refine below_alloc ?_ _) | (with_reducible refine below_drewN ?_ _) | (with_reducible refine Below.drew ?_) | (with_reducible refine below_then ?_ (by with_reducible assumption)) | (with_reducible refine Below.setCell ?_ (by go_size) _)))); obtain ⟨hcB, hfB⟩ := bcell hB; (try have z0 : w.heap.size < w1.heap.size := by omega); (try have z1 : w.heap.size + 1 < w1.heap.size := by omega); (try have z2 : w.heap.size + 2 < w1.heap.size := by omega); (try have z3 : w.heap.size + 3 < w1.heap.size := by omega)))
    all_goals
      go_returns
      exact ⟨_, rfl, by rw [HV.out]; exact World.ownsRow_nil _ _ _ _, by (repeat (first | (with_reducible exact Below.refl _ _) | (with_reducible assumption) | (with_reducible refine below_alloc ?_ _) | (with_reducible refine below_drewN ?_ _) | (with_reducible refine Below.drew ?_) | (with_reducible refine below_then ?_ (by with_reducible assumption)) | (with_reducible refine Below.setCell ?_ (by go_size) _)))⟩
end Go.Proofs.Ythabpiphfaedaaa
