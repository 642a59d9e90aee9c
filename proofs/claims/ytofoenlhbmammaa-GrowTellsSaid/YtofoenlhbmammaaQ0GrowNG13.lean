/- GROW: those free boxes that lie in no other one; how many midplanes the largest has: the code's. -/
import Derived.Test.YtofoenlhbmammaaQ0GrowMG13
set_option linter.unusedVariables false
set_option linter.unusedSimpArgs false
namespace Go.Proofs.Ytofoenlhbmammaa

section
open Go.RowKit Go.Shelf

def inOther (d : V3) (b c : Bx) : Bool := boxWithin d b c && decide (b ≠ c)
set_option maxRecDepth 100000 in set_option maxHeartbeats 4000000 in
theorem grow_Most11 (d : V3) (b c : Bx) (Bd Bb : Nat) (w : World) (hd : Blk w Bd 23 #[.int .i64 d.x, .int .i64 d.y, .int .i64 d.z]) (hb : Blk w Bb 27 #[.int .i64 b.b.x, .int .i64 b.b.y, .int .i64 b.b.z, .int .i64 b.s.x, .int .i64 b.s.y, .int .i64 b.s.z]) :
    Calls Try.prog 40 #[.agg #[.int .i64 c.b.x, .int .i64 c.b.y, .int .i64 c.b.z, .int .i64 c.s.x, .int .i64 c.s.y, .int .i64 c.s.z], .pointer (some ⟨Bd, 0, none⟩), .pointer (some ⟨Bb, 0, none⟩)] w (RB w (.bool (inOther d b c))) := by
  have HW := Lib.hid (fun W => box_Within d b c W)
  have HI := Lib.hid (show inOther d b c = (boxWithin d b c && decide (b ≠ c)) from rfl)
  have hneq : ∀ w, (binOp .neq 27 (.agg #[.int .i64 b.b.x, .int .i64 b.b.y, .int .i64 b.b.z, .int .i64 b.s.x, .int .i64 b.s.y, .int .i64 b.s.z]) (.agg #[.int .i64 c.b.x, .int .i64 c.b.y, .int .i64 c.b.z, .int .i64 c.s.x, .int .i64 c.s.y, .int .i64 c.s.z])).run Try.prog w = .ok (.bool (decide (b ≠ c))) w := fun w => by rw [run_neq_box]; simp
  have d0 := hd.cell 0 _ rfl
  have d1 := hd.cell 1 _ rfl
  have d2 := hd.cell 2 _ rfl
  have b0 := hb.cell 0 _ rfl
  have b1 := hb.cell 1 _ rfl
  have b2 := hb.cell 2 _ rfl
  have b3 := hb.cell 3 _ rfl
  have b4 := hb.cell 4 _ rfl
  have b5 := hb.cell 5 _ rfl
  have dl := hd.lt
  have bl := hb.lt
  have HB := Lib.hid hb
  generalize decide (b ≠ c) = ne at *
  clear hd hb
  cases hw : boxWithin d b c with
  | false =>
    rw [hw] at HW HI
    clear hw
    go_enter Try.func40, Try.ntmps40
    go_wp2_with fail
    refine (HW.out _).mono ?_
    rintro e w1 ⟨rfl, hb1⟩
    have hBB := below_then (show Below w.heap.size w _ by (repeat (first | (with_reducible exact Below.refl _ _) | (with_reducible assumption) | (with_reducible refine below_alloc ?_ _) | (with_reducible refine below_drewN ?_ _) | (with_reducible refine Below.drew ?_) | (with_reducible refine below_then ?_ (by with_reducible assumption)) | (with_reducible refine Below.setCell ?_ (by go_size) _)))) hb1
    go_wp2_with fail
    go_returns
    exact ⟨by rw [HI.out]; rfl, hBB⟩
  | true =>
    rw [hw] at HW HI
    clear hw
    go_enter Try.func40, Try.ntmps40
    go_wp2_with fail
    refine (HW.out _).mono ?_
    rintro e w1 ⟨rfl, hb1⟩
    have hBB := below_then (show Below w.heap.size w (w.alloc (.cells #[.int .i64 c.b.x, .int .i64 c.b.y, .int .i64 c.b.z, .int .i64 c.s.x, .int .i64 c.s.y, .int .i64 c.s.z] 27)) by (repeat (first | (with_reducible exact Below.refl _ _) | (with_reducible assumption) | (with_reducible refine below_alloc ?_ _) | (with_reducible refine below_drewN ?_ _) | (with_reducible refine Below.drew ?_) | (with_reducible refine below_then ?_ (by with_reducible assumption)) | (with_reducible refine Below.setCell ?_ (by go_size) _)))) hb1
    have hX := HB.out.below hBB
    have hC := (Blk.new w 27 #[.int .i64 c.b.x, .int .i64 c.b.y, .int .i64 c.b.z, .int .i64 c.s.x, .int .i64 c.s.y, .int .i64 c.s.z]).below hb1
    clear b0 b1 b2 b3 b4 b5 d0 d1 d2
    have b0 := hX.cell 0 _ rfl
    have b1 := hX.cell 1 _ rfl
    have b2 := hX.cell 2 _ rfl
    have b3 := hX.cell 3 _ rfl
    have b4 := hX.cell 4 _ rfl
    have b5 := hX.cell 5 _ rfl
    have c0 := hC.cell 0 _ rfl
    have c1 := hC.cell 1 _ rfl
    have c2 := hC.cell 2 _ rfl
    have c3 := hC.cell 3 _ rfl
    have c4 := hC.cell 4 _ rfl
    have c5 := hC.cell 5 _ rfl
    clear hX hC hb1
    go_wp2_with fail
    go_returns
    exact ⟨by rw [HI.out]; rfl, hBB⟩
set_option maxRecDepth 100000 in set_option maxHeartbeats 4000000 in
theorem grow_Most1 (d : V3) (b : Bx) (bl : Option Addr) (cl : Nat) (l : List Bx) (Bd Bl : Nat) (w : World) (hd : Blk w Bd 23 #[.int .i64 d.x, .int .i64 d.y, .int .i64 d.z]) (hb : Blk w Bl 30 #[.slice bl l.length cl]) (hl : XIn w bl l) :
    Calls Try.prog 38 #[.agg #[.int .i64 b.b.x, .int .i64 b.b.y, .int .i64 b.b.z, .int .i64 b.s.x, .int .i64 b.s.y, .int .i64 b.s.z], .pointer (some ⟨Bl, 0, none⟩), .pointer (some ⟨Bd, 0, none⟩)] w (RB w (.bool (l.any (inOther d b)))) := by
  have eg : ∀ args w, (callFunc 40 args).run Try.prog w = .ok (.enter 40 args) w := enters_of Try.func40 (by kernel_rfl) rfl
  have l0 := hb.cell 0 _ rfl
  have ll := hb.lt
  have HD := Lib.hid hd
  have HL := Lib.hid hl
  clear hd hb hl
  go_enter Try.func38, Try.ntmps38
  go_wp2_with fail
  have hb0 : Below w.heap.size w (w.alloc (.cells #[.int .i64 b.b.x, .int .i64 b.b.y, .int .i64 b.b.z, .int .i64 b.s.x, .int .i64 b.s.y, .int .i64 b.s.z] 27)) := by (repeat (first | (with_reducible exact Below.refl _ _) | (with_reducible assumption) | (with_reducible refine below_alloc ?_ _) | (with_reducible refine below_drewN ?_ _) | (with_reducible refine Below.drew ?_) | (with_reducible refine below_then ?_ (by with_reducible assumption)) | (with_reducible refine Below.setCell ?_ (by go_size) _)))
  refine (bxs_contains 40 #[.pointer (some ⟨Bd, 0, none⟩), .pointer (some ⟨w.heap.size, 0, none⟩)] (inOther d b) bl cl l _ (HL.out.keep hb0) eg (fun c _ W hW => grow_Most11 d b c Bd w.heap.size W (HD.out.below (below_then hb0 hW)) ((Blk.new w 27 #[.int .i64 b.b.x, .int .i64 b.b.y, .int .i64 b.b.z, .int .i64 b.s.x, .int .i64 b.s.y, .int .i64 b.s.z]).below hW))).mono ?_
  rintro e w1 ⟨rfl, hb1⟩
  have hBB := below_then hb0 hb1
  go_wp2_with fail
  go_returns
  exact ⟨rfl, hBB⟩
theorem mostL_eq (d : V3) (l : List Bx) : l.filter (fun x => !l.any (inOther d x)) = mostL d l := rfl
set_option maxRecDepth 100000 in set_option maxHeartbeats 4000000 in
theorem grow_Most (d : V3) (bs : Option Addr) (cs : Nat) (ms : List Nat) (w : World) (hs : SetIn w bs ms) : Calls Try.prog 16 #[.agg #[.int .i64 d.x, .int .i64 d.y, .int .i64 d.z], .slice bs ms.length cs] w (RXE w (mostL d (frV d ms)) (frE d ms)) := by
  have HF := Lib.hid (fun W (hw : Below w.heap.size w W) => grow_Free d bs cs ms W (hs.keep hw))
  have eg : ∀ args w, (callFunc 38 args).run Try.prog w = .ok (.enter 38 args) w := enters_of Try.func38 (by kernel_rfl) rfl
  have hlen : (frV d ms).length ≤ 4096 := by
    unfold frV
    by_cases h : frE d ms = 0
    · rw [if_pos h]
      exact Nat.le_trans (List.length_filter_le _ _) (boxes_len (frE_0 h).2.2)
    · rw [if_neg h]; exact Nat.zero_le _
  have HL := Lib.hid (mostL_eq d (frV d ms))
  generalize frV d ms = l at *
  generalize frE d ms = x at *
  clear hs
  go_enter Try.func16, Try.ntmps16
  go_wp2_with fail
  have hb0 : Below w.heap.size w (w.alloc (.cells #[.int .i64 d.x, .int .i64 d.y, .int .i64 d.z] 23)) := by (repeat (first | (with_reducible exact Below.refl _ _) | (with_reducible assumption) | (with_reducible refine below_alloc ?_ _) | (with_reducible refine below_drewN ?_ _) | (with_reducible refine Below.drew ?_) | (with_reducible refine below_then ?_ (by with_reducible assumption)) | (with_reducible refine Below.setCell ?_ (by go_size) _)))
  refine (HF.out _ hb0).mono ?_
  rintro e w1 ⟨v, rfl, ho, hb1⟩
  obtain ⟨bl, cl, rfl, rd, hcl⟩ := own_rd ho
  have hnl : bl = none → l.length = 0 := by
    intro e
    subst e
    rcases ho.2 with ⟨_, h0⟩ | ⟨_, _, _, e, _⟩
    · exact h0
    · cases e
  have BD := (Blk.new w 23 #[.int .i64 d.x, .int .i64 d.y, .int .i64 d.z]).below hb1
  have HB1 := Lib.hid (below_then hb0 hb1)
  have HD := Lib.hid BD
  have HR := Lib.hid rd
  clear ho hb1 BD rd hb0 HF
  go_wp2_with fail
  have hb1 : Below w1.heap.size w1 (w1.alloc (.cells #[.slice bl l.length cl] 30)) := by (repeat (first | (with_reducible exact Below.refl _ _) | (with_reducible assumption) | (with_reducible refine below_alloc ?_ _) | (with_reducible refine below_drewN ?_ _) | (with_reducible refine Below.drew ?_) | (with_reducible refine below_then ?_ (by with_reducible assumption)) | (with_reducible refine Below.setCell ?_ (by go_size) _)))
  have HD1 := Lib.hid (HD.out.below hb1)
  have HR1 := Lib.hid (HR.out.keep hb1)
  have HL1 := Lib.hid (Blk.new w1 30 #[.slice bl l.length cl])
  have HB1' := Lib.hid (below_then HB1.out hb1)
  clear hb1
  refine (bxs_Clone bl cl l _ HR1.out hnl (by omega)).mono ?_
  rintro e w2 ⟨v2, rfl, ho2, hb2⟩
  have HD2 := Lib.hid (HD1.out.below hb2)
  have HR2 := Lib.hid (HR1.out.keep hb2)
  have HL2 := Lib.hid (HL1.out.below hb2)
  have HB2 := Lib.hid (below_then HB1'.out hb2)
  have HO2 := Lib.hid ho2
  have hzz := hb2.size
  have hz1 : (w1.alloc (.cells #[.slice bl l.length cl] 30)).heap.size = w1.heap.size + 1 := by simp
  have hdl := HD1.out.lt
  have hll := HL1.out.lt
  have hnn := HB1'.out.size
  have hrl : ∀ W, Below (w1.alloc (.cells #[.slice bl l.length cl] 30)).heap.size w2 W → Rd W bl (bxc l) := fun W hW => HR1.out.keep (hb2.trans hW)
  have HRL := Lib.hid hrl
  have hda : ∀ W, Below (w1.alloc (.cells #[.slice bl l.length cl] 30)).heap.size w2 W → Blk W w.heap.size 23 #[.int .i64 d.x, .int .i64 d.y, .int .i64 d.z] ∧ Blk W w1.heap.size 30 #[.slice bl l.length cl] := fun W hW => ⟨HD1.out.below (hb2.trans hW), HL1.out.below (hb2.trans hW)⟩
  have HDA := Lib.hid hda
  clear ho2 hb2 HD1 HR1 HL1 hrl hda
  obtain ⟨bv, cv, rfl, _, _⟩ := own_rd HO2.out
  go_wp2_with fail
  refine (bxs_delete 38 #[.pointer (some ⟨w1.heap.size, 0, none⟩), .pointer (some ⟨w.heap.size, 0, none⟩)] (fun x => l.any (inOther d x)) _ _ l w2 HO2.out hzz (by omega) eg (fun x _ W hW => grow_Most1 d x bl cl l w.heap.size w1.heap.size W (HDA.out W hW).1 (HDA.out W hW).2 ⟨HRL.out W hW, by omega⟩)).mono ?_
  rintro e w3 ⟨u, rfl, ho3, hb3⟩
  have HO3 := Lib.hid ho3
  have HB3 := Lib.hid (HB2.out.trans (hb3.mono hnn))
  clear ho3 hb3
  go_wp2_with fail
  go_returns
  exact ⟨_, rfl, by rw [← HL.out]; exact own_mono HO3.out hnn, HB3.out⟩

theorem topL_take {l : List Bx} {k : Nat} (h : k < l.length) : topL (l.take (k + 1)) = max (topL (l.take k)) (l[k].s.x * l[k].s.y * l[k].s.z) := by
  rw [List.take_succ_eq_append_getElem h, topL_snoc]; rfl
set_option maxRecDepth 100000 in set_option maxHeartbeats 4000000 in
theorem grow_Largest (d : V3) (bs : Option Addr) (cs : Nat) (ms : List Nat) (w : World) (hs : SetIn w bs ms) : Calls Try.prog 11 #[.agg #[.int .i64 d.x, .int .i64 d.y, .int .i64 d.z], .slice bs ms.length cs] w (RB w (.tuple #[.int .i64 (topL (frV d ms)), .int .i64 (frE d ms)])) := by
  have HF := Lib.hid (fun W (hw : Below w.heap.size w W) => grow_Free d bs cs ms W (hs.keep hw))
  have hlen : (frV d ms).length ≤ 4096 := by
    unfold frV
    by_cases h : frE d ms = 0
    · rw [if_pos h]
      exact Nat.le_trans (List.length_filter_le _ _) (boxes_len (frE_0 h).2.2)
    · rw [if_neg h]; exact Nat.zero_le _
  have hm : ∀ b ∈ frV d ms, (1 ≤ b.s.x ∧ b.s.x ≤ 16) ∧ (1 ≤ b.s.y ∧ b.s.y ≤ 16) ∧ (1 ≤ b.s.z ∧ b.s.z ≤ 16) := by
    intro b hb
    unfold frV at hb
    by_cases h : frE d ms = 0
    · rw [if_pos h] at hb
      obtain ⟨hd, _, _⟩ := frE_0 h
      obtain ⟨⟨⟨⟨a1, a2⟩, _⟩, ⟨⟨b1, b2⟩, _⟩, ⟨⟨c1, c2⟩, _⟩⟩, _⟩ := ((mem_freeL hd).1 hb).1
      obtain ⟨⟨_, x2⟩, ⟨_, y2⟩, ⟨_, z2⟩⟩ := hd
      omega
    · rw [if_neg h] at hb; cases hb
  have HM := Lib.hid hm
  generalize frV d ms = l at *
  generalize frE d ms = x at *
  clear hs hm
  go_enter Try.func11, Try.ntmps11
  go_wp2_with fail
  refine (HF.out _ (by (repeat (first | (with_reducible exact Below.refl _ _) | (with_reducible assumption) | (with_reducible refine below_alloc ?_ _) | (with_reducible refine below_drewN ?_ _) | (with_reducible refine Below.drew ?_) | (with_reducible refine below_then ?_ (by with_reducible assumption)) | (with_reducible refine Below.setCell ?_ (by go_size) _))))).mono ?_
  rintro e w1 ⟨v, rfl, ho, hb1⟩
  obtain ⟨bl, cl, rfl, rd, hcl⟩ := own_rd ho
  have HB1 := Lib.hid (below_then (show Below w.heap.size w (w.alloc (.cells #[.int .i64 d.x, .int .i64 d.y, .int .i64 d.z] 23)) by (repeat (first | (with_reducible exact Below.refl _ _) | (with_reducible assumption) | (with_reducible refine below_alloc ?_ _) | (with_reducible refine below_drewN ?_ _) | (with_reducible refine Below.drew ?_) | (with_reducible refine below_then ?_ (by with_reducible assumption)) | (with_reducible refine Below.setCell ?_ (by go_size) _)))) hb1)
  have HR := Lib.hid (show XIn w1 bl l from ⟨rd, by omega⟩)
  clear ho hb1 rd HF
  go_wp2_with fail
  go_loopw [6, 19] (fun m i wr => ∃ k : Nat, k ≤ l.length ∧ i = .int .i64 k ∧ m = .int .i64 (topL (l.take k)) ∧ Below w1.heap.size w1 wr) (fun _ i _ => l.length - (intOf i).toNat)
  case atStart => exact ⟨0, Nat.zero_le _, rfl, rfl, Below.refl _ _⟩
  case round =>
    obtain ⟨k, hk, rfl, rfl, hb⟩ := hrel
    have HB := Lib.hid hb
    clear hb
    by_cases hlt : k < l.length
    · obtain ⟨b, off, rfl, hO⟩ := (HR.out.keep HB.out).at hlt
      obtain ⟨⟨p1, p2⟩, ⟨q1, q2⟩, ⟨r1, r2⟩⟩ := HM.out l[k] (List.getElem_mem hlt)
      have HT := Lib.hid (topL_take hlt)
      obtain ⟨x, hxx⟩ : ∃ x, x = l[k] := ⟨_, rfl⟩
      rw [← hxx] at hO p1 p2 q1 q2 r1 r2 HT
      obtain ⟨c0, c1, c2, c3, c4, c5, hcl⟩ := hO
      clear hxx
      have m1 : 1 ≤ x.s.x * x.s.y := Int.mul_pos (by omega) (by omega)
      have m2 : x.s.x * x.s.y ≤ 256 := Int.le_trans (Int.mul_le_mul p2 q2 (by omega) (by omega)) (by omega)
      have m3 : 1 ≤ x.s.x * x.s.y * x.s.z := Int.mul_pos (by omega) (by omega)
      have m4 : x.s.x * x.s.y * x.s.z ≤ 4096 := Int.le_trans (Int.mul_le_mul m2 r2 (by omega) (by omega)) (by omega)
      have e1 : IntKind.i64.wrap (x.s.x * x.s.y) = x.s.x * x.s.y := IntWalk.i64_in _ (by omega)
      have e2 : IntKind.i64.wrap (x.s.x * x.s.y * x.s.z) = x.s.x * x.s.y * x.s.z := IntWalk.i64_in _ (by omega)
      generalize topL (l.take k) = tp at *
      go_wp2_with fail
      go_roundw
      case rel => exact ⟨k + 1, by omega, by go_num, by rw [HT.out], below_alloc HB.out _⟩
      case measure => (simp [intOf] <;> omega)
    · obtain rfl : k = l.length := by omega
      have HT := Lib.hid (show topL (l.take l.length) = topL l by rw [List.take_length])
      generalize topL (l.take l.length) = tp at *
      go_wp2_with fail
      go_returns
      exact ⟨by rw [HT.out]; rfl, HB1.out.trans (HB.out.mono HB1.out.size)⟩
end
end Go.Proofs.Ytofoenlhbmammaa
