/- REF 14: lists of truths; the sides counted. -/
import Derived.Test.YthabpiphfaedaaaDoorQ5ScoreTells
import Derived.Test.YthabpiphfaedaaaDoorQ9ScoreTells
namespace Go.Proofs.YthabpiphfaedaaaDoor

section
open Go.RowKit Go.Shelf

def bc (l : List Bool) : List Value := l.map Value.bool
theorem bc_len (l : List Bool) : (bc l).length = l.length := by simp [bc]
theorem bc_app (a b : List Bool) : bc (a ++ b) = bc a ++ bc b := by simp [bc]
/-- A list of truths that may be read. -/
structure BIn (w : World) (base : Option Addr) (l : List Bool) : Prop where
  rd : Rd w base (bc l)
  len : l.length ≤ 100000
theorem BIn.keep {w W : World} {base : Option Addr} {l : List Bool} (h : BIn w base l) (hb : Below w.heap.size w W) : BIn W base l := ⟨h.rd.keep hb, h.len⟩
theorem BIn.at {w : World} {base : Option Addr} {l : List Bool} (h : BIn w base l) {k : Nat} (hk : k < l.length) : ∃ b off, base = some ⟨b, off, none⟩ ∧ w.cell? ⟨b, off + k, none⟩ = some (.bool (tAt l k)) ∧ b < w.heap.size := by
  obtain ⟨b, off, e, hc⟩ := h.rd k (.bool (tAt l k)) (by rw [tAt_in hk]; simp [bc, hk])
  exact ⟨b, off, e, hc, World.block_lt_of_cell? w _ hc⟩
/-- A new list of truths. -/
def RBL (w : World) (l : List Bool) : Ending → World → Prop := fun e w' => ∃ v, e = .returned v ∧ w'.ownsRow w.heap.size 4 1 v l.length (bc l) ∧ Below w.heap.size w w'
theorem bools_of_own {W : World} {B : Nat} {v : Value} {l : List Bool} (h : W.ownsRow B 4 1 v l.length (bc l)) (hl : l.length ≤ 100000) : ∃ base cap, v = .slice base l.length cap ∧ BIn W base l := by
  obtain ⟨base, cap, rfl, rd, _⟩ := own_rd h
  exact ⟨base, cap, rfl, rd, hl⟩
theorem infoBool : (Tryd.prog.info? 4).map (fun i => (i.zero, i.size, i.bytes)) = some (some (.bool false), 1, 1) := by kernel_rfl
set_option maxRecDepth 100000 in set_option maxHeartbeats 4000000 in
theorem ref14_truths (d : V3) (bs : Option Addr) (cs : Nat) (s : List Nat) (w : World) (hd : d.may) (hs : SetIn w bs s) : Calls Tryd.prog 68 #[.agg #[.int .i64 d.x, .int .i64 d.y, .int .i64 d.z], .slice bs s.length cs] w (RBL w (trL s d.n.toNat)) := by
  obtain ⟨i0, hi, iz0, iz1, iz2⟩ := info_parts infoBool
  have HN := Lib.hid (fun W => ref01_N d W hd)
  have HT := Lib.hid (fun (k : Nat) W (h : Below w.heap.size w W) (hk : k ≤ 1000000) => ref03_There bs cs s k W (hs.keep h) hk)
  have hnn := V3.n_le hd
  have HL := Lib.hid (trL_len s)
  have HS := Lib.hid (trL_succ s)
  clear hs hd
  go_enter Tryd.func68, Tryd.ntmps68
  go_wp2_with fail
  have BD := Lib.hid (Blk.new w 23 #[.int .i64 d.x, .int .i64 d.y, .int .i64 d.z])
  have hbw : Below w.heap.size w (w.alloc (.cells #[.int .i64 d.x, .int .i64 d.y, .int .i64 d.z] 23)) := by (repeat (first | (with_reducible exact Below.refl _ _) | (with_reducible assumption) | (with_reducible refine below_alloc ?_ _) | (with_reducible refine below_drewN ?_ _) | (with_reducible refine Below.drew ?_) | (with_reducible refine below_then ?_ (by with_reducible assumption)) | (with_reducible refine Below.setCell ?_ (by go_size) _)))
  obtain ⟨w1, hw1⟩ : ∃ w1, w1 = w.alloc (.cells #[.int .i64 d.x, .int .i64 d.y, .int .i64 d.z] 23) := ⟨_, rfl⟩
  rw [← hw1] at BD hbw ⊢
  have HB := Lib.hid hbw
  have hz1 : w1.heap.size = w.heap.size + 1 := by rw [hw1]; simp
  clear hw1 hbw
  go_loopw [5, 6] (fun v x wr => ∃ k : Nat, (k : Int) ≤ d.n ∧ x = .int .i64 k ∧ wr.ownsRow (w.heap.size + 1) 4 1 v (trL s k).length (bc (trL s k)) ∧ Below w1.heap.size w1 wr) (fun _ x _ => d.n.toNat - (intOf x).toNat)
  case atStart => exact ⟨0, by omega, rfl, World.ownsRow_nil _ _ _ _, Below.refl _ _⟩
  case round =>
    obtain ⟨k, hk, rfl, hown, hbe⟩ := hrel
    have HO := Lib.hid hown
    have HBr := Lib.hid hbe
    clear hown hbe
    have bd := BD.out.below HBr.out
    have bdl := bd.lt
    have hll := HL.out k
    (have d0 := (bd).cell 0 _ rfl; have d1 := (bd).cell 1 _ rfl; have d2 := (bd).cell 2 _ rfl)
    clear bd
    go_wp2_with fail
    refine (HN.out _).mono ?_
    rintro e w2 ⟨rfl, hb2⟩
    have HO := Lib.hid (own_keep HO.out hb2)
    have HBr := Lib.hid (HBr.out.trans (hb2.mono HBr.out.size))
    clear hb2 d0 d1 d2 bdl
    by_cases hlt : (k : Int) < d.n
    · have HT2 := Lib.hid (HT.out k w2 (HB.out.trans (HBr.out.mono HB.out.size)) (by omega))
      have zr := HBr.out.size
      have HS2 := Lib.hid (HS.out k)
      go_wp2_with (first
        | ((with_reducible refine HT2.out.mono ?_); rintro e w3 ⟨rfl, hw3⟩; have hw3 := hw3.symm; subst hw3)
        | (at_builtin; refine wpList_append_own _ rfl _ _ 97 rfl (w.heap.size + 1) 4 i0 (.bool false) 1 1 Tryd.underlying97 hi iz0 iz1 iz2 rfl (by decide) _ _ _ rfl (HO.out.alloc _) ⟨_, 0, none⟩ 1 1 [.bool (there s k)] rfl rfl (cell_new1 _ _ _) (by simp [Value.oneCell']) ?ap3 ?ap4 ?ap5 ?_))
      case ap3 => unfold maxLen; omega
      case ap4 => omega
      case ap5 => simp; omega
      intro v6 w6 o6 g6 _
      have n6 := own_below (HO.out.alloc (.cells #[.bool (there s k)] 4)) g6 (by simp; omega)
      have HO6 := Lib.hid (show w6.ownsRow (w.heap.size + 1) 4 1 v6 (trL s (k + 1)).length (bc (trL s (k + 1))) by rw [HS2.out, bc_app, List.length_append, hll]; exact o6)
      have HB6 := Lib.hid ((HBr.out.alloc zr (.cells #[.bool (there s k)] 4)).trans (hz1 ▸ n6))
      clear n6 o6 g6
      go_wp2_with fail
      go_roundw
      case rel => exact ⟨k + 1, by omega, by go_num, HO6.out, HB6.out⟩
      case measure => (simp [intOf] <;> omega)
    · have hkn : k = d.n.toNat := by omega
      rw [hkn] at HO
      go_wp2_with fail
      go_returns
      exact ⟨_, rfl, own_mono HO.out (by omega), HB.out.trans (HBr.out.mono HB.out.size)⟩
set_option maxRecDepth 100000 in set_option maxHeartbeats 4000000 in
theorem ref14_not (ba bb : Option Addr) (ca cb : Nat) (l less : List Bool) (w : World) (hl : BIn w ba l) (hm : BIn w bb less) (he : l.length = less.length) :
    Calls Tryd.prog 71 #[.slice ba l.length ca, .slice bb less.length cb] w (RBL w (notL l less l.length)) := by
  obtain ⟨i0, hi, iz0, iz1, iz2⟩ := info_parts infoBool
  have HA := Lib.hid hl
  have HM := Lib.hid hm
  have hlen := hl.len
  have HL := Lib.hid (notL_len l less)
  have HS := Lib.hid (notL_succ l less)
  have HE := Lib.hid he
  clear hl hm he
  go_enter Tryd.func71, Tryd.ntmps71
  go_wp2_with fail
  go_loopw [5, 6] (fun v x wr => ∃ k : Nat, k ≤ l.length ∧ x = .int .i64 k ∧ wr.ownsRow w.heap.size 4 1 v (notL l less k).length (bc (notL l less k)) ∧ Below w.heap.size w wr) (fun _ x _ => l.length - (intOf x).toNat)
  case atStart => exact ⟨0, by omega, rfl, World.ownsRow_nil _ _ _ _, Below.refl _ _⟩
  case round =>
    obtain ⟨k, hk, rfl, hown, hbe⟩ := hrel
    have HO := Lib.hid hown
    have HBr := Lib.hid hbe
    clear hown hbe
    have hll := HL.out k
    by_cases hlt : k < l.length
    · obtain ⟨b1, o1, rfl, c1, _⟩ := HA.out.at hlt
      obtain ⟨b2, o2, rfl, c2, _⟩ := HM.out.at (show k < less.length by have := HE.out; omega)
      have f1 := (HBr.out.cell (p := ⟨b1, o1 + k, none⟩) (World.block_lt_of_cell? w _ c1)).trans c1
      have f2 := (HBr.out.cell (p := ⟨b2, o2 + k, none⟩) (World.block_lt_of_cell? w _ c2)).trans c2
      have hlt2 : k < less.length := by have := HE.out; omega
      have zr := HBr.out.size
      have HS2 := Lib.hid (HS.out k)
      generalize tAt l k = x at *
      generalize tAt less k = y at *
      clear c1 c2
      cases x <;> cases y
      all_goals
        go_wp2_with (at_builtin; refine wpList_append_own _ rfl _ _ 97 rfl w.heap.size 4 i0 (.bool false) 1 1 Tryd.underlying97 hi iz0 iz1 iz2 rfl (by decide) _ _ _ rfl (HO.out.alloc _) ⟨_, 0, none⟩ 1 1 [.bool (_)] rfl rfl (cell_new1 _ _ _) (by simp [Value.oneCell']) ?ap3 ?ap4 ?ap5 ?_)
        case ap3 => unfold maxLen; omega
        case ap4 => omega
        case ap5 => simp; omega
        intro v6 w6 o6 g6 _
        have n6 := own_below (HO.out.alloc _) g6 (by simp; omega)
        have HO6 := Lib.hid (show w6.ownsRow w.heap.size 4 1 v6 (notL l less (k + 1)).length (bc (notL l less (k + 1))) by rw [HS2.out, bc_app, List.length_append, hll]; exact o6)
        have HB6 := Lib.hid ((HBr.out.alloc zr _).trans n6)
        clear n6 o6 g6
        go_wp2_with fail
        go_roundw
        case rel => exact ⟨k + 1, by omega, by go_num, HO6.out, HB6.out⟩
        case measure => (simp [intOf] <;> omega)
    · obtain rfl : k = l.length := by omega
      go_wp2_with fail
      go_returns
      exact ⟨_, rfl, HO.out, HBr.out⟩
end
end Go.Proofs.YthabpiphfaedaaaDoor
