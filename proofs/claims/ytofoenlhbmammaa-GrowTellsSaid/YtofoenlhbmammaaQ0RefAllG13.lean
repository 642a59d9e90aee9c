/- REF: boxes: their checks, their midplanes; what is in them. -/
import Derived.Test.YtofoenlhbmammaaProg
import Derived.Test.YtofoenlhbmammaaQ0Pos1G13
import Derived.Test.YtofoenlhbmammaaQ0Box2G13
import Derived.Test.YtofoenlhbmammaaQ0OwnG13
import Derived.Test.YtofoenlhbmammaaQ0Ref1G13
set_option linter.unusedVariables false
set_option linter.unusedSimpArgs false
namespace Go.Proofs.Ytofoenlhbmammaa

section
section
open Go.RowKit Go.Shelf

/-- A box's midplanes below k, rising. -/
def Bx.upto (d : V3) (b : Bx) (k : Nat) : List Int := ((List.range k).map (fun (j : Nat) => (j : Int))).filter (b.has d)
def Bx.all (d : V3) (b : Bx) : List Int := b.upto d d.n.toNat
theorem Bx.upto_succ (d : V3) (b : Bx) (k : Nat) : b.upto d (k + 1) = if b.has d k then b.upto d k ++ [(k : Int)] else b.upto d k := by
  simp only [Bx.upto, List.range_succ, List.map_append, List.map_cons, List.map_nil, List.filter_append, List.filter_cons, List.filter_nil]
  split <;> simp
theorem Bx.upto_len (d : V3) (b : Bx) (k : Nat) : (b.upto d k).length ≤ k := by
  have := List.length_filter_le (b.has d) ((List.range k).map (fun (j : Nat) => (j : Int)))
  simpa [Bx.upto] using this

set_option maxRecDepth 100000 in set_option maxHeartbeats 4000000 in
theorem ref02_All (d : V3) (b : Bx) (w : World) (h : d.may) (hb : b.may d) : Calls Try.prog 47 #[.agg #[.int .i64 d.x, .int .i64 d.y, .int .i64 d.z], .agg #[.int .i64 b.b.x, .int .i64 b.b.y, .int .i64 b.b.z, .int .i64 b.s.x, .int .i64 b.s.y, .int .i64 b.s.z]] w (RI w (b.all d)) := by
  have hn := V3.n_le h
  obtain ⟨i0, hi, iz0, iz1, iz2⟩ := info_parts infoInt
  have H := Lib.hid h
  have HB := Lib.hid hb
  clear h hb
  go_enter Try.func47, Try.ntmps47
  go_wp2_with fail
  go_loopw [5, 6] (fun v i wr => ∃ k : Nat, (k : Int) ≤ d.n ∧ i = .int .i64 k ∧ wr.ownsRow (w.heap.size + 2) 3 1 v (b.upto d k).length ((b.upto d k).map (Value.int .i64)) ∧ Below w.heap.size w wr ∧ w.heap.size + 2 ≤ wr.heap.size ∧ DimsAt wr w.heap.size d ∧ BxAt wr (w.heap.size + 1) b) (fun _ i _ => d.n.toNat - (intOf i).toNat)
  case atStart => exact ⟨0, by omega, rfl, World.ownsRow_nil _ _ _ _, by (repeat (first | (with_reducible exact Below.refl _ _) | (with_reducible assumption) | (with_reducible refine below_alloc ?_ _) | (with_reducible refine below_drewN ?_ _) | (with_reducible refine Below.drew ?_) | (with_reducible refine below_then ?_ (by with_reducible assumption)) | (with_reducible refine Below.setCell ?_ (by go_size) _))), by simp, by constructor <;> simp [go_sem], by constructor <;> simp [go_sem]⟩
  case round =>
    obtain ⟨k, hk, rfl, hown, hbel, hsz, hD, hBx⟩ := hrel
    obtain ⟨d0, d1, d2⟩ := hD
    obtain ⟨b0, b1, b2, b3, b4, b5⟩ := hBx
    have hup := Lib.hid (Bx.upto_succ d b k)
    have hul := Bx.upto_len d b k
    go_wp2_with fail
    refine (ref01_N d _ H.out).mono ?_
    rintro e w1 ⟨rfl, hb1⟩
    have o1 := own_keep hown hb1
    have e1 := below_then hbel hb1
    obtain ⟨d0, d1, d2⟩ := (DimsAt.mk d0 d1 d2).keep hb1 (by omega)
    obtain ⟨b0, b1, b2, b3, b4, b5⟩ := (BxAt.mk b0 b1 b2 b3 b4 b5).keep hb1 (by omega)
    have hz1 := hb1.size
    clear hown
    by_cases hlt : (k : Int) < d.n
    · go_wp2_with fail
      refine (ref02_In d b k _ H.out HB.out (by omega) (by omega)).mono ?_
      rintro e w2 ⟨rfl, hb2⟩
      have o2 := own_keep o1 hb2
      have e2 := below_then e1 hb2
      obtain ⟨d0, d1, d2⟩ := (DimsAt.mk d0 d1 d2).keep hb2 (by omega)
      obtain ⟨b0, b1, b2, b3, b4, b5⟩ := (BxAt.mk b0 b1 b2 b3 b4 b5).keep hb2 (by omega)
      have hz2 := hb2.size
      clear o1 e1
      cases hh : b.has d k with
      | false =>
        have hu2 : b.upto d (k + 1) = b.upto d k := by rw [hup.out, hh]; rfl
        have hu2 := Lib.hid hu2
        go_wp2_with fail
        go_roundw
        case rel => exact ⟨k + 1, by omega, by go_num, by rw [hu2.out]; exact o2, e2, by omega, ⟨d0, d1, d2⟩, ⟨b0, b1, b2, b3, b4, b5⟩⟩
        case measure => simp [intOf]; omega
      | true =>
        have hu2 : b.upto d (k + 1) = b.upto d k ++ [(k : Int)] := by rw [hup.out, hh]; rfl
        have hu2 := Lib.hid hu2
        go_wp2_with (at_builtin; refine wpList_append_own _ rfl _ _ 39 rfl (w.heap.size + 2) 3 i0 (.int .i64 0) 1 8 Try.underlying39 hi iz0 iz1 iz2 rfl (by decide) _ _ _ rfl ((o2).alloc _) ⟨_, 0, none⟩ 1 1 [.int .i64 (k)] rfl rfl (cell_new1 _ _ _) (by simp [Value.oneCell']) ?ap3 ?ap4 ?ap5 ?_)
        case ap3 => unfold maxLen; omega
        case ap4 => omega
        case ap5 => simp; omega
        intro v' w3 o3 hg3 _
        have n3 := own_below (o2.alloc _) hg3 (by simp; omega)
        have s3 := n3.size
        have m3 := ((Below.refl w2.heap.size w2).alloc (Nat.le_refl _) _).mono (show w.heap.size + 2 ≤ w2.heap.size by omega) |>.trans n3
        have e3 : Below w.heap.size w w3 := e2.trans (m3.mono (by omega))
        obtain ⟨d0, d1, d2⟩ := (DimsAt.mk d0 d1 d2).keep m3 (by omega)
        obtain ⟨b0, b1, b2, b3, b4, b5⟩ := (BxAt.mk b0 b1 b2 b3 b4 b5).keep m3 (by omega)
        simp at s3
        clear m3 n3
        go_wp2_with fail
        go_roundw
        case rel => exact ⟨k + 1, by omega, by go_num, by rw [hu2.out]; simpa using o3, e3, by omega, ⟨d0, d1, d2⟩, ⟨b0, b1, b2, b3, b4, b5⟩⟩
        case measure => simp [intOf]; omega
    · obtain rfl : k = d.n.toNat := by omega
      clear hup
      go_wp2_with fail
      go_returns
      exact ⟨_, rfl, own_mono o1 (by omega), e1⟩

theorem chk2_of {d : V3} {a b : Bx} (h : chk d a = 0) : chk2 d a b = chk d b := by
  unfold chk chk2 okIf at *
  by_cases hd : d.may
  · simp only [if_pos hd] at *
    by_cases ha : a.may d
    · simp [ha]
    · rw [if_neg ha] at h; omega
  · simp only [if_neg hd]
theorem chk2_no {d : V3} {a b : Bx} (h : ¬ chk d a = 0) : chk2 d a b = chk d a := by
  unfold chk chk2 okIf at *
  by_cases hd : d.may
  · simp only [if_pos hd] at *
    by_cases ha : a.may d
    · simp [ha] at h
    · simp [ha]
  · simp only [if_neg hd]

end

section
open Go.RowKit Go.Shelf

theorem Bx.mem_all {d : V3} {b : Bx} {m : Int} : m ∈ b.all d ↔ (0 ≤ m ∧ m < d.n) ∧ b.has d m = true := by
  simp only [Bx.all, Bx.upto, List.mem_filter, List.mem_map, List.mem_range]
  constructor
  · rintro ⟨⟨a, ha, rfl⟩, h⟩
    exact ⟨⟨by omega, by omega⟩, h⟩
  · rintro ⟨⟨h0, h1⟩, h⟩
    exact ⟨⟨m.toNat, by omega, by omega⟩, h⟩

/-- A test of a list's first numbers. -/
def anyTo (q : Int → Bool) (l : List Int) (k : Nat) : Bool := (l.take k).any q
theorem anyTo_zero (q : Int → Bool) (l : List Int) : anyTo q l 0 = false := by simp [anyTo]
theorem anyTo_succ (q : Int → Bool) (l : List Int) (k : Nat) (h : k < l.length) : anyTo q l (k + 1) = (anyTo q l k || q l[k]) := by
  unfold anyTo; rw [List.take_succ_eq_append_getElem h, List.any_append]; simp
theorem anyTo_all (q : Int → Bool) (l : List Int) : anyTo q l l.length = l.any q := by simp [anyTo]
theorem any_of_anyTo (q : Int → Bool) (l : List Int) (k : Nat) (h : k < l.length) (hq : q l[k] = true) : l.any q = true := by
  rw [List.any_eq_true]; exact ⟨_, List.getElem_mem h, hq⟩

def refMeet (d : V3) (a b : Bx) : Bool := decide (chk2 d a b = 0) && (a.all d).any (b.has d)
def refWithin (d : V3) (a b : Bx) : Bool := decide (chk2 d a b = 0) && !(a.all d).any (fun m => !b.has d m)
theorem refMeet_ok {d : V3} {a b : Bx} (h : chk2 d a b = 0) : refMeet d a b = (a.all d).any (b.has d) := by simp [refMeet, h]
theorem refMeet_no {d : V3} {a b : Bx} (h : ¬ chk2 d a b = 0) : refMeet d a b = false := by simp [refMeet, h]

theorem chk2_0' {d : V3} {a b : Bx} (h : chk2 d a b = 0) : d.may ∧ a.may d ∧ b.may d := by
  unfold chk2 okIf at h
  by_cases hd : d.may
  · rw [if_pos hd] at h
    by_cases hab : a.may d ∧ b.may d
    · exact ⟨hd, hab⟩
    · rw [if_neg hab] at h; omega
  · rw [if_neg hd] at h; omega

theorem refWithin_ok {d : V3} {a b : Bx} (h : chk2 d a b = 0) : refWithin d a b = !(a.all d).any (fun m => !b.has d m) := by simp [refWithin, h]
theorem refWithin_no {d : V3} {a b : Bx} (h : ¬ chk2 d a b = 0) : refWithin d a b = false := by simp [refWithin, h]
end
end
end Go.Proofs.Ytofoenlhbmammaa
