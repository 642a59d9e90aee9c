/- WIRE: runs along an axis. -/
import Derived.Test.YtofoenlhbmammaaGreatQ6F11
import Derived.Test.YtofoenlhbmammaaGreatQ0OnAxF11
set_option linter.unusedVariables false
set_option linter.unusedSimpArgs false
namespace Go.Proofs.YtofoenlhbmammaaGreat

section
section
open Go.RowKit Go.Shelf

theorem own_slice_ne {w : World} {B n : Nat} {v : Value} {xs : List Value} (h : w.ownsRow B 3 1 v n xs) (hn : n ≠ 0) : ∃ g cap, v = .slice (some ⟨g, 0, none⟩) n cap := by
  rcases h.2 with ⟨_, hz⟩ | ⟨g, cap, _, rfl, _⟩
  · exact absurd hz hn
  · exact ⟨g, cap, rfl⟩
set_option maxRecDepth 100000 in set_option maxHeartbeats 4000000 in
theorem slices_Sorted (g : Nat) (lb : Array Value) (eg : ∀ args w, (callFunc g args).run Tryz.prog w = .ok (.enter g args) w) (xs : List Int) (w : World) (hl : xs.length ≤ 20000) (hne : xs.length ≠ 0) (hseq : Gives g lb xs w.heap.size w) :
    Calls Tryz.prog 102 #[.func (.func g) #[] lb] w (RL w (sorted xs)) := by
  have HC := Lib.hid (collect g lb eg xs w hl hseq)
  have HS := Lib.hid (fun B gg cap W h hB => sort_own (B := B) (g := gg) (cap := cap) (l := xs) (W := W) h hB (by omega))
  have HL := Lib.hid (sorted_len xs)
  clear hseq
  go_enter Tryz.func102, Tryz.ntmps102
  go_wp2_with fail
  refine HC.out.mono ?_
  rintro e w1 ⟨v, rfl, ho, hb⟩
  obtain ⟨gg, cap, rfl⟩ := own_slice_ne ho hne
  have HO := Lib.hid ho
  have HB := Lib.hid hb
  clear ho hb
  go_wp2_with fail
  refine (HS.out _ _ _ _ HO.out HB.out.size).mono ?_
  rintro e w2 ⟨rfl, ho2, hb2⟩
  have HO2 := Lib.hid ho2
  have HB2 := Lib.hid (HB.out.trans hb2)
  clear ho2 hb2
  go_wp2_with fail
  go_returns
  exact ⟨_, rfl, by have := HO2.out; rw [HL.out]; exact this, HB2.out⟩

/-- A new list with an error is handed back. -/
def RLE (w : World) (l : List Int) (n : Int) : Ending → World → Prop := fun e w' => ∃ v, e = .returned (.tuple #[v, .int .i64 n]) ∧ w'.ownsRow w.heap.size 3 1 v l.length (ic l) ∧ Below w.heap.size w w'
theorem rle_nil {w w' : World} (n : Int) (hb : Below w.heap.size w w') : RLE w [] n (.returned (.tuple #[.slice none 0 0, .int .i64 n])) w' := ⟨_, rfl, ⟨rfl, .inl ⟨rfl, rfl⟩⟩, hb⟩
set_option maxRecDepth 100000 in set_option maxHeartbeats 4000000 in
theorem wire_Run0 (d : V3) (m long : Int) (torus : Bool) (many : Nat) (w : World) (hd : d.may) (m0 : 0 ≤ m) (m1 : m < d.n) (hl1 : 1 < long) (hl2 : long ≤ d.x) (hm : (torus = true ∧ (many : Int) = d.x) ∨ (torus = false ∧ (many : Int) = long - 1)) :
    Calls Tryz.prog 94 #[.agg #[.int .i64 d.x, .int .i64 d.y, .int .i64 d.z], .int .i64 0, .int .i64 m, .int .i64 long, .bool torus] w (RLE w (sorted (d.links 0 m many)) 0) := by
  have HA := Lib.hid (fun W => by have := wire_asked d 0 m W; rw [show d.askE 0 m = 0 by rw [V3.askE, if_pos hd, if_pos ⟨by decide, m0, m1⟩]] at this; exact this)
  have hdd := hd
  unfold V3.may at hdd
  have eg : ∀ args w, (callFunc 130 args).run Tryz.prog w = .ok (.enter 130 args) w := enters_of Tryz.func130 (by kernel_rfl) rfl
  have hml : many ≤ 16 := by omega
  have hm0 : many ≠ 0 := by omega
  have HOn := Lib.hid (fun W => wire_on d 0 m many W)
  have HS := Lib.hid (fun b1 b2 b3 b4 W (hb1 : b1 < W.heap.size) (hb2 : b2 < W.heap.size) (hb3 : b3 < W.heap.size) (hb4 : b4 < W.heap.size) (ho : OnAt W b1 b2 b3 b4 d 0 m many) =>
    slices_Sorted 130 #[.pointer (some ⟨b1, 0, none⟩), .pointer (some ⟨b2, 0, none⟩), .pointer (some ⟨b3, 0, none⟩), .pointer (some ⟨b4, 0, none⟩)] eg (d.links 0 m many) W (by rw [V3.links_len]; omega) (by rw [V3.links_len]; exact hm0)
      (on_gives b1 b2 b3 b4 W.heap.size d 0 m many W hd (by decide) m0 m1 (show d.x ≠ 1 by omega) (by omega) hb1 hb2 hb3 hb4 (Nat.le_refl _) ho))
  have h1 : decide (long < 1) = false := decide_eq_false (by omega)
  have h2 : decide (d.x < long) = false := decide_eq_false (by omega)
  have h3 : (long == 1) = false := by simp; omega
  clear hd m0 m1 eg
  generalize sorted (d.links 0 m many) = R at *
  rcases hm with ⟨rfl, hm⟩ | ⟨rfl, hm⟩
  · have HOn := Lib.hid (fun W => (by have := HOn.out W; rw [hm] at this; exact this))
    have e1 : d.x + 1 - 1 = d.x := by omega
    clear hm
    (go_enter Tryz.func94, Tryz.ntmps94; go_wp2_with fail; refine (HA.out _).mono ?_; rintro e w1 ⟨rfl, hb1⟩; have BD := Lib.hid (((Blk.new w 23 #[.int .i64 d.x, .int .i64 d.y, .int .i64 d.z]).below hb1).dims); have HB := Lib.hid (below_then (show Below w.heap.size w (w.alloc (.cells #[.int .i64 d.x, .int .i64 d.y, .int .i64 d.z] 23)) by (repeat (first | (with_reducible exact Below.refl _ _) | (with_reducible assumption) | (with_reducible refine below_alloc ?_ _) | (with_reducible refine below_drewN ?_ _) | (with_reducible refine Below.drew ?_) | (with_reducible refine below_then ?_ (by with_reducible assumption)) | (with_reducible refine Below.setCell ?_ (by go_size) _)))) hb1); clear hb1; (have hlt := BD.out.lt; obtain ⟨d0, d1, d2⟩ := BD.out; go_wp2_with fail; clear d0 d1 d2 hlt))
    refine (HOn.out _).mono ?_
    rintro e w2 ⟨rfl, hon, hlt2, hb2⟩
    have HB := Lib.hid (below_then HB.out hb2)
    have HX := Lib.hid hon
    clear hon hb2
    go_wp2_with fail
    refine (HS.out _ _ _ _ _ (by omega) (by omega) (by omega) (by omega) HX.out).mono ?_
    rintro e w3 ⟨v, rfl, ho, hb3⟩
    have HO := Lib.hid (own_mono ho HB.out.size)
    have HB := Lib.hid (below_then HB.out hb3)
    clear ho hb3
    go_wp2_with fail
    go_returns
    exact ⟨_, rfl, HO.out, HB.out⟩
  · have HOn := Lib.hid (fun W => (by have := HOn.out W; rw [hm] at this; exact this))
    clear hm
    (go_enter Tryz.func94, Tryz.ntmps94; go_wp2_with fail; refine (HA.out _).mono ?_; rintro e w1 ⟨rfl, hb1⟩; have BD := Lib.hid (((Blk.new w 23 #[.int .i64 d.x, .int .i64 d.y, .int .i64 d.z]).below hb1).dims); have HB := Lib.hid (below_then (show Below w.heap.size w (w.alloc (.cells #[.int .i64 d.x, .int .i64 d.y, .int .i64 d.z] 23)) by (repeat (first | (with_reducible exact Below.refl _ _) | (with_reducible assumption) | (with_reducible refine below_alloc ?_ _) | (with_reducible refine below_drewN ?_ _) | (with_reducible refine Below.drew ?_) | (with_reducible refine below_then ?_ (by with_reducible assumption)) | (with_reducible refine Below.setCell ?_ (by go_size) _)))) hb1); clear hb1; (have hlt := BD.out.lt; obtain ⟨d0, d1, d2⟩ := BD.out; go_wp2_with fail; clear d0 d1 d2 hlt))
    refine (HOn.out _).mono ?_
    rintro e w2 ⟨rfl, hon, hlt2, hb2⟩
    have HB := Lib.hid (below_then HB.out hb2)
    have HX := Lib.hid hon
    clear hon hb2
    go_wp2_with fail
    refine (HS.out _ _ _ _ _ (by omega) (by omega) (by omega) (by omega) HX.out).mono ?_
    rintro e w3 ⟨v, rfl, ho, hb3⟩
    have HO := Lib.hid (own_mono ho HB.out.size)
    have HB := Lib.hid (below_then HB.out hb3)
    clear ho hb3
    go_wp2_with fail
    go_returns
    exact ⟨_, rfl, HO.out, HB.out⟩
set_option maxRecDepth 100000 in set_option maxHeartbeats 4000000 in
theorem wire_Run1 (d : V3) (m long : Int) (torus : Bool) (many : Nat) (w : World) (hd : d.may) (m0 : 0 ≤ m) (m1 : m < d.n) (hl1 : 1 < long) (hl2 : long ≤ d.y) (hm : (torus = true ∧ (many : Int) = d.y) ∨ (torus = false ∧ (many : Int) = long - 1)) :
    Calls Tryz.prog 94 #[.agg #[.int .i64 d.x, .int .i64 d.y, .int .i64 d.z], .int .i64 1, .int .i64 m, .int .i64 long, .bool torus] w (RLE w (sorted (d.links 1 m many)) 0) := by
  have HA := Lib.hid (fun W => by have := wire_asked d 1 m W; rw [show d.askE 1 m = 0 by rw [V3.askE, if_pos hd, if_pos ⟨by decide, m0, m1⟩]] at this; exact this)
  have hdd := hd
  unfold V3.may at hdd
  have eg : ∀ args w, (callFunc 130 args).run Tryz.prog w = .ok (.enter 130 args) w := enters_of Tryz.func130 (by kernel_rfl) rfl
  have hml : many ≤ 16 := by omega
  have hm0 : many ≠ 0 := by omega
  have HOn := Lib.hid (fun W => wire_on d 1 m many W)
  have HS := Lib.hid (fun b1 b2 b3 b4 W (hb1 : b1 < W.heap.size) (hb2 : b2 < W.heap.size) (hb3 : b3 < W.heap.size) (hb4 : b4 < W.heap.size) (ho : OnAt W b1 b2 b3 b4 d 1 m many) =>
    slices_Sorted 130 #[.pointer (some ⟨b1, 0, none⟩), .pointer (some ⟨b2, 0, none⟩), .pointer (some ⟨b3, 0, none⟩), .pointer (some ⟨b4, 0, none⟩)] eg (d.links 1 m many) W (by rw [V3.links_len]; omega) (by rw [V3.links_len]; exact hm0)
      (on_gives b1 b2 b3 b4 W.heap.size d 1 m many W hd (by decide) m0 m1 (show d.y ≠ 1 by omega) (by omega) hb1 hb2 hb3 hb4 (Nat.le_refl _) ho))
  have h1 : decide (long < 1) = false := decide_eq_false (by omega)
  have h2 : decide (d.y < long) = false := decide_eq_false (by omega)
  have h3 : (long == 1) = false := by simp; omega
  clear hd m0 m1 eg
  generalize sorted (d.links 1 m many) = R at *
  rcases hm with ⟨rfl, hm⟩ | ⟨rfl, hm⟩
  · have HOn := Lib.hid (fun W => (by have := HOn.out W; rw [hm] at this; exact this))
    have e1 : d.y + 1 - 1 = d.y := by omega
    clear hm
    (go_enter Tryz.func94, Tryz.ntmps94; go_wp2_with fail; refine (HA.out _).mono ?_; rintro e w1 ⟨rfl, hb1⟩; have BD := Lib.hid (((Blk.new w 23 #[.int .i64 d.x, .int .i64 d.y, .int .i64 d.z]).below hb1).dims); have HB := Lib.hid (below_then (show Below w.heap.size w (w.alloc (.cells #[.int .i64 d.x, .int .i64 d.y, .int .i64 d.z] 23)) by (repeat (first | (with_reducible exact Below.refl _ _) | (with_reducible assumption) | (with_reducible refine below_alloc ?_ _) | (with_reducible refine below_drewN ?_ _) | (with_reducible refine Below.drew ?_) | (with_reducible refine below_then ?_ (by with_reducible assumption)) | (with_reducible refine Below.setCell ?_ (by go_size) _)))) hb1); clear hb1; (have hlt := BD.out.lt; obtain ⟨d0, d1, d2⟩ := BD.out; go_wp2_with fail; clear d0 d1 d2 hlt))
    refine (HOn.out _).mono ?_
    rintro e w2 ⟨rfl, hon, hlt2, hb2⟩
    have HB := Lib.hid (below_then HB.out hb2)
    have HX := Lib.hid hon
    clear hon hb2
    go_wp2_with fail
    refine (HS.out _ _ _ _ _ (by omega) (by omega) (by omega) (by omega) HX.out).mono ?_
    rintro e w3 ⟨v, rfl, ho, hb3⟩
    have HO := Lib.hid (own_mono ho HB.out.size)
    have HB := Lib.hid (below_then HB.out hb3)
    clear ho hb3
    go_wp2_with fail
    go_returns
    exact ⟨_, rfl, HO.out, HB.out⟩
  · have HOn := Lib.hid (fun W => (by have := HOn.out W; rw [hm] at this; exact this))
    clear hm
    (go_enter Tryz.func94, Tryz.ntmps94; go_wp2_with fail; refine (HA.out _).mono ?_; rintro e w1 ⟨rfl, hb1⟩; have BD := Lib.hid (((Blk.new w 23 #[.int .i64 d.x, .int .i64 d.y, .int .i64 d.z]).below hb1).dims); have HB := Lib.hid (below_then (show Below w.heap.size w (w.alloc (.cells #[.int .i64 d.x, .int .i64 d.y, .int .i64 d.z] 23)) by (repeat (first | (with_reducible exact Below.refl _ _) | (with_reducible assumption) | (with_reducible refine below_alloc ?_ _) | (with_reducible refine below_drewN ?_ _) | (with_reducible refine Below.drew ?_) | (with_reducible refine below_then ?_ (by with_reducible assumption)) | (with_reducible refine Below.setCell ?_ (by go_size) _)))) hb1); clear hb1; (have hlt := BD.out.lt; obtain ⟨d0, d1, d2⟩ := BD.out; go_wp2_with fail; clear d0 d1 d2 hlt))
    refine (HOn.out _).mono ?_
    rintro e w2 ⟨rfl, hon, hlt2, hb2⟩
    have HB := Lib.hid (below_then HB.out hb2)
    have HX := Lib.hid hon
    clear hon hb2
    go_wp2_with fail
    refine (HS.out _ _ _ _ _ (by omega) (by omega) (by omega) (by omega) HX.out).mono ?_
    rintro e w3 ⟨v, rfl, ho, hb3⟩
    have HO := Lib.hid (own_mono ho HB.out.size)
    have HB := Lib.hid (below_then HB.out hb3)
    clear ho hb3
    go_wp2_with fail
    go_returns
    exact ⟨_, rfl, HO.out, HB.out⟩
set_option maxRecDepth 100000 in set_option maxHeartbeats 4000000 in
theorem wire_Run2 (d : V3) (m long : Int) (torus : Bool) (many : Nat) (w : World) (hd : d.may) (m0 : 0 ≤ m) (m1 : m < d.n) (hl1 : 1 < long) (hl2 : long ≤ d.z) (hm : (torus = true ∧ (many : Int) = d.z) ∨ (torus = false ∧ (many : Int) = long - 1)) :
    Calls Tryz.prog 94 #[.agg #[.int .i64 d.x, .int .i64 d.y, .int .i64 d.z], .int .i64 2, .int .i64 m, .int .i64 long, .bool torus] w (RLE w (sorted (d.links 2 m many)) 0) := by
  have HA := Lib.hid (fun W => by have := wire_asked d 2 m W; rw [show d.askE 2 m = 0 by rw [V3.askE, if_pos hd, if_pos ⟨by decide, m0, m1⟩]] at this; exact this)
  have hdd := hd
  unfold V3.may at hdd
  have eg : ∀ args w, (callFunc 130 args).run Tryz.prog w = .ok (.enter 130 args) w := enters_of Tryz.func130 (by kernel_rfl) rfl
  have hml : many ≤ 16 := by omega
  have hm0 : many ≠ 0 := by omega
  have HOn := Lib.hid (fun W => wire_on d 2 m many W)
  have HS := Lib.hid (fun b1 b2 b3 b4 W (hb1 : b1 < W.heap.size) (hb2 : b2 < W.heap.size) (hb3 : b3 < W.heap.size) (hb4 : b4 < W.heap.size) (ho : OnAt W b1 b2 b3 b4 d 2 m many) =>
    slices_Sorted 130 #[.pointer (some ⟨b1, 0, none⟩), .pointer (some ⟨b2, 0, none⟩), .pointer (some ⟨b3, 0, none⟩), .pointer (some ⟨b4, 0, none⟩)] eg (d.links 2 m many) W (by rw [V3.links_len]; omega) (by rw [V3.links_len]; exact hm0)
      (on_gives b1 b2 b3 b4 W.heap.size d 2 m many W hd (by decide) m0 m1 (show d.z ≠ 1 by omega) (by omega) hb1 hb2 hb3 hb4 (Nat.le_refl _) ho))
  have h1 : decide (long < 1) = false := decide_eq_false (by omega)
  have h2 : decide (d.z < long) = false := decide_eq_false (by omega)
  have h3 : (long == 1) = false := by simp; omega
  clear hd m0 m1 eg
  generalize sorted (d.links 2 m many) = R at *
  rcases hm with ⟨rfl, hm⟩ | ⟨rfl, hm⟩
  · have HOn := Lib.hid (fun W => (by have := HOn.out W; rw [hm] at this; exact this))
    have e1 : d.z + 1 - 1 = d.z := by omega
    clear hm
    (go_enter Tryz.func94, Tryz.ntmps94; go_wp2_with fail; refine (HA.out _).mono ?_; rintro e w1 ⟨rfl, hb1⟩; have BD := Lib.hid (((Blk.new w 23 #[.int .i64 d.x, .int .i64 d.y, .int .i64 d.z]).below hb1).dims); have HB := Lib.hid (below_then (show Below w.heap.size w (w.alloc (.cells #[.int .i64 d.x, .int .i64 d.y, .int .i64 d.z] 23)) by (repeat (first | (with_reducible exact Below.refl _ _) | (with_reducible assumption) | (with_reducible refine below_alloc ?_ _) | (with_reducible refine below_drewN ?_ _) | (with_reducible refine Below.drew ?_) | (with_reducible refine below_then ?_ (by with_reducible assumption)) | (with_reducible refine Below.setCell ?_ (by go_size) _)))) hb1); clear hb1; (have hlt := BD.out.lt; obtain ⟨d0, d1, d2⟩ := BD.out; go_wp2_with fail; clear d0 d1 d2 hlt))
    refine (HOn.out _).mono ?_
    rintro e w2 ⟨rfl, hon, hlt2, hb2⟩
    have HB := Lib.hid (below_then HB.out hb2)
    have HX := Lib.hid hon
    clear hon hb2
    go_wp2_with fail
    refine (HS.out _ _ _ _ _ (by omega) (by omega) (by omega) (by omega) HX.out).mono ?_
    rintro e w3 ⟨v, rfl, ho, hb3⟩
    have HO := Lib.hid (own_mono ho HB.out.size)
    have HB := Lib.hid (below_then HB.out hb3)
    clear ho hb3
    go_wp2_with fail
    go_returns
    exact ⟨_, rfl, HO.out, HB.out⟩
  · have HOn := Lib.hid (fun W => (by have := HOn.out W; rw [hm] at this; exact this))
    clear hm
    (go_enter Tryz.func94, Tryz.ntmps94; go_wp2_with fail; refine (HA.out _).mono ?_; rintro e w1 ⟨rfl, hb1⟩; have BD := Lib.hid (((Blk.new w 23 #[.int .i64 d.x, .int .i64 d.y, .int .i64 d.z]).below hb1).dims); have HB := Lib.hid (below_then (show Below w.heap.size w (w.alloc (.cells #[.int .i64 d.x, .int .i64 d.y, .int .i64 d.z] 23)) by (repeat (first | (with_reducible exact Below.refl _ _) | (with_reducible assumption) | (with_reducible refine below_alloc ?_ _) | (with_reducible refine below_drewN ?_ _) | (with_reducible refine Below.drew ?_) | (with_reducible refine below_then ?_ (by with_reducible assumption)) | (with_reducible refine Below.setCell ?_ (by go_size) _)))) hb1); clear hb1; (have hlt := BD.out.lt; obtain ⟨d0, d1, d2⟩ := BD.out; go_wp2_with fail; clear d0 d1 d2 hlt))
    refine (HOn.out _).mono ?_
    rintro e w2 ⟨rfl, hon, hlt2, hb2⟩
    have HB := Lib.hid (below_then HB.out hb2)
    have HX := Lib.hid hon
    clear hon hb2
    go_wp2_with fail
    refine (HS.out _ _ _ _ _ (by omega) (by omega) (by omega) (by omega) HX.out).mono ?_
    rintro e w3 ⟨v, rfl, ho, hb3⟩
    have HO := Lib.hid (own_mono ho HB.out.size)
    have HB := Lib.hid (below_then HB.out hb3)
    clear ho hb3
    go_wp2_with fail
    go_returns
    exact ⟨_, rfl, HO.out, HB.out⟩
end

section
open Go.RowKit Go.Shelf

def V3.runE (d : V3) (axis m long : Int) : Int := if d.askE axis m = 0 then if 1 ≤ long ∧ long ≤ d.at axis.toNat then 0 else 2 else d.askE axis m
def V3.runV (d : V3) (axis m long : Int) (torus : Bool) : List Int := if d.runE axis m long = 0 ∧ 1 < long then sorted (d.links axis.toNat m (if torus then (d.at axis.toNat).toNat else (long - 1).toNat)) else []
set_option maxRecDepth 100000 in set_option maxHeartbeats 4000000 in
theorem wire_Run_bad (d : V3) (axis m long : Int) (torus : Bool) (w : World) (h : d.askE axis m ≠ 0) :
    Calls Tryz.prog 94 #[.agg #[.int .i64 d.x, .int .i64 d.y, .int .i64 d.z], .int .i64 axis, .int .i64 m, .int .i64 long, .bool torus] w (RLE w [] (d.askE axis m)) := by
  have HA := Lib.hid (fun W => wire_asked d axis m W)
  have g1 : (d.askE axis m == 0) = false := by simpa using h
  have g2 : (d.askE axis m != 0) = true := by simpa using h
  clear h
  generalize d.askE axis m = E at *
  (go_enter Tryz.func94, Tryz.ntmps94; go_wp2_with fail; refine (HA.out _).mono ?_; rintro e w1 ⟨rfl, hb1⟩; have BD := Lib.hid (((Blk.new w 23 #[.int .i64 d.x, .int .i64 d.y, .int .i64 d.z]).below hb1).dims); have HB := Lib.hid (below_then (show Below w.heap.size w (w.alloc (.cells #[.int .i64 d.x, .int .i64 d.y, .int .i64 d.z] 23)) by (repeat (first | (with_reducible exact Below.refl _ _) | (with_reducible assumption) | (with_reducible refine below_alloc ?_ _) | (with_reducible refine below_drewN ?_ _) | (with_reducible refine Below.drew ?_) | (with_reducible refine below_then ?_ (by with_reducible assumption)) | (with_reducible refine Below.setCell ?_ (by go_size) _)))) hb1); clear hb1; (have hlt := BD.out.lt; obtain ⟨d0, d1, d2⟩ := BD.out; go_wp2_with fail; clear d0 d1 d2 hlt); go_returns; exact rle_nil _ HB.out)
set_option maxRecDepth 100000 in set_option maxHeartbeats 4000000 in
theorem wire_Run_no0 (d : V3) (m long : Int) (torus : Bool) (w : World) (h : d.askE 0 m = 0) (hl : ¬ (1 ≤ long ∧ long ≤ d.x)) :
    Calls Tryz.prog 94 #[.agg #[.int .i64 d.x, .int .i64 d.y, .int .i64 d.z], .int .i64 0, .int .i64 m, .int .i64 long, .bool torus] w (RLE w [] 2) := by
  have HA := Lib.hid (fun W => by have := wire_asked d 0 m W; rw [h] at this; exact this)
  clear h
  by_cases h1 : long < 1
  · have d1 : decide (long < 1) = true := decide_eq_true h1
    clear hl
    (go_enter Tryz.func94, Tryz.ntmps94; go_wp2_with fail; refine (HA.out _).mono ?_; rintro e w1 ⟨rfl, hb1⟩; have BD := Lib.hid (((Blk.new w 23 #[.int .i64 d.x, .int .i64 d.y, .int .i64 d.z]).below hb1).dims); have HB := Lib.hid (below_then (show Below w.heap.size w (w.alloc (.cells #[.int .i64 d.x, .int .i64 d.y, .int .i64 d.z] 23)) by (repeat (first | (with_reducible exact Below.refl _ _) | (with_reducible assumption) | (with_reducible refine below_alloc ?_ _) | (with_reducible refine below_drewN ?_ _) | (with_reducible refine Below.drew ?_) | (with_reducible refine below_then ?_ (by with_reducible assumption)) | (with_reducible refine Below.setCell ?_ (by go_size) _)))) hb1); clear hb1; (have hlt := BD.out.lt; obtain ⟨d0, d1, d2⟩ := BD.out; go_wp2_with fail; clear d0 d1 d2 hlt); go_returns; exact rle_nil _ HB.out)
  · have d1 : decide (long < 1) = false := decide_eq_false h1
    have d2 : decide (d.x < long) = true := decide_eq_true (by omega)
    clear hl
    (go_enter Tryz.func94, Tryz.ntmps94; go_wp2_with fail; refine (HA.out _).mono ?_; rintro e w1 ⟨rfl, hb1⟩; have BD := Lib.hid (((Blk.new w 23 #[.int .i64 d.x, .int .i64 d.y, .int .i64 d.z]).below hb1).dims); have HB := Lib.hid (below_then (show Below w.heap.size w (w.alloc (.cells #[.int .i64 d.x, .int .i64 d.y, .int .i64 d.z] 23)) by (repeat (first | (with_reducible exact Below.refl _ _) | (with_reducible assumption) | (with_reducible refine below_alloc ?_ _) | (with_reducible refine below_drewN ?_ _) | (with_reducible refine Below.drew ?_) | (with_reducible refine below_then ?_ (by with_reducible assumption)) | (with_reducible refine Below.setCell ?_ (by go_size) _)))) hb1); clear hb1; (have hlt := BD.out.lt; obtain ⟨d0, d1, d2⟩ := BD.out; go_wp2_with fail; clear d0 d1 d2 hlt); go_returns; exact rle_nil _ HB.out)
set_option maxRecDepth 100000 in set_option maxHeartbeats 4000000 in
theorem wire_Run_one0 (d : V3) (m : Int) (torus : Bool) (w : World) (h : d.askE 0 m = 0) (hl : 1 ≤ d.x) :
    Calls Tryz.prog 94 #[.agg #[.int .i64 d.x, .int .i64 d.y, .int .i64 d.z], .int .i64 0, .int .i64 m, .int .i64 1, .bool torus] w (RLE w [] 0) := by
  have HA := Lib.hid (fun W => by have := wire_asked d 0 m W; rw [h] at this; exact this)
  have d2 : decide (d.x < 1) = false := decide_eq_false (by omega)
  clear h
  (go_enter Tryz.func94, Tryz.ntmps94; go_wp2_with fail; refine (HA.out _).mono ?_; rintro e w1 ⟨rfl, hb1⟩; have BD := Lib.hid (((Blk.new w 23 #[.int .i64 d.x, .int .i64 d.y, .int .i64 d.z]).below hb1).dims); have HB := Lib.hid (below_then (show Below w.heap.size w (w.alloc (.cells #[.int .i64 d.x, .int .i64 d.y, .int .i64 d.z] 23)) by (repeat (first | (with_reducible exact Below.refl _ _) | (with_reducible assumption) | (with_reducible refine below_alloc ?_ _) | (with_reducible refine below_drewN ?_ _) | (with_reducible refine Below.drew ?_) | (with_reducible refine below_then ?_ (by with_reducible assumption)) | (with_reducible refine Below.setCell ?_ (by go_size) _)))) hb1); clear hb1; (have hlt := BD.out.lt; obtain ⟨d0, d1, d2⟩ := BD.out; go_wp2_with fail; clear d0 d1 d2 hlt); go_returns; exact rle_nil _ HB.out)
theorem wire_Run_ax0 (d : V3) (m long : Int) (torus : Bool) (w : World) (h : d.askE 0 m = 0) :
    Calls Tryz.prog 94 #[.agg #[.int .i64 d.x, .int .i64 d.y, .int .i64 d.z], .int .i64 0, .int .i64 m, .int .i64 long, .bool torus] w (RLE w (d.runV 0 m long torus) (d.runE 0 m long)) := by
  obtain ⟨hd, _, m0, m1⟩ := V3.askE_0 h
  have hE : d.runE 0 m long = if 1 ≤ long ∧ long ≤ d.x then 0 else 2 := by rw [V3.runE, if_pos h]; rfl
  by_cases hl : 1 ≤ long ∧ long ≤ d.x
  · have e0 : d.runE 0 m long = 0 := hE.trans (if_pos hl)
    by_cases h1 : long = 1
    · subst h1
      rw [show d.runV 0 m 1 torus = [] from if_neg (by omega), e0]
      exact wire_Run_one0 d m torus w h hl.2
    · rw [show d.runV 0 m long torus = sorted (d.links 0 m (if torus then (d.x).toNat else (long - 1).toNat)) from if_pos ⟨e0, by omega⟩, e0]
      refine wire_Run0 d m long torus _ w hd m0 m1 (by omega) hl.2 ?_
      cases torus
      · exact .inr ⟨rfl, by show (((long - 1).toNat : Nat) : Int) = long - 1; omega⟩
      · exact .inl ⟨rfl, by show (((d.x).toNat : Nat) : Int) = d.x; omega⟩
  · have e0 : d.runE 0 m long = 2 := hE.trans (if_neg hl)
    rw [show d.runV 0 m long torus = [] from if_neg (by omega), e0]
    exact wire_Run_no0 d m long torus w h hl
set_option maxRecDepth 100000 in set_option maxHeartbeats 4000000 in
theorem wire_Run_no1 (d : V3) (m long : Int) (torus : Bool) (w : World) (h : d.askE 1 m = 0) (hl : ¬ (1 ≤ long ∧ long ≤ d.y)) :
    Calls Tryz.prog 94 #[.agg #[.int .i64 d.x, .int .i64 d.y, .int .i64 d.z], .int .i64 1, .int .i64 m, .int .i64 long, .bool torus] w (RLE w [] 2) := by
  have HA := Lib.hid (fun W => by have := wire_asked d 1 m W; rw [h] at this; exact this)
  clear h
  by_cases h1 : long < 1
  · have d1 : decide (long < 1) = true := decide_eq_true h1
    clear hl
    (go_enter Tryz.func94, Tryz.ntmps94; go_wp2_with fail; refine (HA.out _).mono ?_; rintro e w1 ⟨rfl, hb1⟩; have BD := Lib.hid (((Blk.new w 23 #[.int .i64 d.x, .int .i64 d.y, .int .i64 d.z]).below hb1).dims); have HB := Lib.hid (below_then (show Below w.heap.size w (w.alloc (.cells #[.int .i64 d.x, .int .i64 d.y, .int .i64 d.z] 23)) by (repeat (first | (with_reducible exact Below.refl _ _) | (with_reducible assumption) | (with_reducible refine below_alloc ?_ _) | (with_reducible refine below_drewN ?_ _) | (with_reducible refine Below.drew ?_) | (with_reducible refine below_then ?_ (by with_reducible assumption)) | (with_reducible refine Below.setCell ?_ (by go_size) _)))) hb1); clear hb1; (have hlt := BD.out.lt; obtain ⟨d0, d1, d2⟩ := BD.out; go_wp2_with fail; clear d0 d1 d2 hlt); go_returns; exact rle_nil _ HB.out)
  · have d1 : decide (long < 1) = false := decide_eq_false h1
    have d2 : decide (d.y < long) = true := decide_eq_true (by omega)
    clear hl
    (go_enter Tryz.func94, Tryz.ntmps94; go_wp2_with fail; refine (HA.out _).mono ?_; rintro e w1 ⟨rfl, hb1⟩; have BD := Lib.hid (((Blk.new w 23 #[.int .i64 d.x, .int .i64 d.y, .int .i64 d.z]).below hb1).dims); have HB := Lib.hid (below_then (show Below w.heap.size w (w.alloc (.cells #[.int .i64 d.x, .int .i64 d.y, .int .i64 d.z] 23)) by (repeat (first | (with_reducible exact Below.refl _ _) | (with_reducible assumption) | (with_reducible refine below_alloc ?_ _) | (with_reducible refine below_drewN ?_ _) | (with_reducible refine Below.drew ?_) | (with_reducible refine below_then ?_ (by with_reducible assumption)) | (with_reducible refine Below.setCell ?_ (by go_size) _)))) hb1); clear hb1; (have hlt := BD.out.lt; obtain ⟨d0, d1, d2⟩ := BD.out; go_wp2_with fail; clear d0 d1 d2 hlt); go_returns; exact rle_nil _ HB.out)
set_option maxRecDepth 100000 in set_option maxHeartbeats 4000000 in
theorem wire_Run_one1 (d : V3) (m : Int) (torus : Bool) (w : World) (h : d.askE 1 m = 0) (hl : 1 ≤ d.y) :
    Calls Tryz.prog 94 #[.agg #[.int .i64 d.x, .int .i64 d.y, .int .i64 d.z], .int .i64 1, .int .i64 m, .int .i64 1, .bool torus] w (RLE w [] 0) := by
  have HA := Lib.hid (fun W => by have := wire_asked d 1 m W; rw [h] at this; exact this)
  have d2 : decide (d.y < 1) = false := decide_eq_false (by omega)
  clear h
  (go_enter Tryz.func94, Tryz.ntmps94; go_wp2_with fail; refine (HA.out _).mono ?_; rintro e w1 ⟨rfl, hb1⟩; have BD := Lib.hid (((Blk.new w 23 #[.int .i64 d.x, .int .i64 d.y, .int .i64 d.z]).below hb1).dims); have HB := Lib.hid (below_then (show Below w.heap.size w (w.alloc (.cells #[.int .i64 d.x, .int .i64 d.y, .int .i64 d.z] 23)) by (repeat (first | (with_reducible exact Below.refl _ _) | (with_reducible assumption) | (with_reducible refine below_alloc ?_ _) | (with_reducible refine below_drewN ?_ _) | (with_reducible refine Below.drew ?_) | (with_reducible refine below_then ?_ (by with_reducible assumption)) | (with_reducible refine Below.setCell ?_ (by go_size) _)))) hb1); clear hb1; (have hlt := BD.out.lt; obtain ⟨d0, d1, d2⟩ := BD.out; go_wp2_with fail; clear d0 d1 d2 hlt); go_returns; exact rle_nil _ HB.out)
theorem wire_Run_ax1 (d : V3) (m long : Int) (torus : Bool) (w : World) (h : d.askE 1 m = 0) :
    Calls Tryz.prog 94 #[.agg #[.int .i64 d.x, .int .i64 d.y, .int .i64 d.z], .int .i64 1, .int .i64 m, .int .i64 long, .bool torus] w (RLE w (d.runV 1 m long torus) (d.runE 1 m long)) := by
  obtain ⟨hd, _, m0, m1⟩ := V3.askE_0 h
  have hE : d.runE 1 m long = if 1 ≤ long ∧ long ≤ d.y then 0 else 2 := by rw [V3.runE, if_pos h]; rfl
  by_cases hl : 1 ≤ long ∧ long ≤ d.y
  · have e0 : d.runE 1 m long = 0 := hE.trans (if_pos hl)
    by_cases h1 : long = 1
    · subst h1
      rw [show d.runV 1 m 1 torus = [] from if_neg (by omega), e0]
      exact wire_Run_one1 d m torus w h hl.2
    · rw [show d.runV 1 m long torus = sorted (d.links 1 m (if torus then (d.y).toNat else (long - 1).toNat)) from if_pos ⟨e0, by omega⟩, e0]
      refine wire_Run1 d m long torus _ w hd m0 m1 (by omega) hl.2 ?_
      cases torus
      · exact .inr ⟨rfl, by show (((long - 1).toNat : Nat) : Int) = long - 1; omega⟩
      · exact .inl ⟨rfl, by show (((d.y).toNat : Nat) : Int) = d.y; omega⟩
  · have e0 : d.runE 1 m long = 2 := hE.trans (if_neg hl)
    rw [show d.runV 1 m long torus = [] from if_neg (by omega), e0]
    exact wire_Run_no1 d m long torus w h hl
set_option maxRecDepth 100000 in set_option maxHeartbeats 4000000 in
theorem wire_Run_no2 (d : V3) (m long : Int) (torus : Bool) (w : World) (h : d.askE 2 m = 0) (hl : ¬ (1 ≤ long ∧ long ≤ d.z)) :
    Calls Tryz.prog 94 #[.agg #[.int .i64 d.x, .int .i64 d.y, .int .i64 d.z], .int .i64 2, .int .i64 m, .int .i64 long, .bool torus] w (RLE w [] 2) := by
  have HA := Lib.hid (fun W => by have := wire_asked d 2 m W; rw [h] at this; exact this)
  clear h
  by_cases h1 : long < 1
  · have d1 : decide (long < 1) = true := decide_eq_true h1
    clear hl
    (go_enter Tryz.func94, Tryz.ntmps94; go_wp2_with fail; refine (HA.out _).mono ?_; rintro e w1 ⟨rfl, hb1⟩; have BD := Lib.hid (((Blk.new w 23 #[.int .i64 d.x, .int .i64 d.y, .int .i64 d.z]).below hb1).dims); have HB := Lib.hid (below_then (show Below w.heap.size w (w.alloc (.cells #[.int .i64 d.x, .int .i64 d.y, .int .i64 d.z] 23)) by (repeat (first | (with_reducible exact Below.refl _ _) | (with_reducible assumption) | (with_reducible refine below_alloc ?_ _) | (with_reducible refine below_drewN ?_ _) | (with_reducible refine Below.drew ?_) | (with_reducible refine below_then ?_ (by with_reducible assumption)) | (with_reducible refine Below.setCell ?_ (by go_size) _)))) hb1); clear hb1; (have hlt := BD.out.lt; obtain ⟨d0, d1, d2⟩ := BD.out; go_wp2_with fail; clear d0 d1 d2 hlt); go_returns; exact rle_nil _ HB.out)
  · have d1 : decide (long < 1) = false := decide_eq_false h1
    have d2 : decide (d.z < long) = true := decide_eq_true (by omega)
    clear hl
    (go_enter Tryz.func94, Tryz.ntmps94; go_wp2_with fail; refine (HA.out _).mono ?_; rintro e w1 ⟨rfl, hb1⟩; have BD := Lib.hid (((Blk.new w 23 #[.int .i64 d.x, .int .i64 d.y, .int .i64 d.z]).below hb1).dims); have HB := Lib.hid (below_then (show Below w.heap.size w (w.alloc (.cells #[.int .i64 d.x, .int .i64 d.y, .int .i64 d.z] 23)) by (repeat (first | (with_reducible exact Below.refl _ _) | (with_reducible assumption) | (with_reducible refine below_alloc ?_ _) | (with_reducible refine below_drewN ?_ _) | (with_reducible refine Below.drew ?_) | (with_reducible refine below_then ?_ (by with_reducible assumption)) | (with_reducible refine Below.setCell ?_ (by go_size) _)))) hb1); clear hb1; (have hlt := BD.out.lt; obtain ⟨d0, d1, d2⟩ := BD.out; go_wp2_with fail; clear d0 d1 d2 hlt); go_returns; exact rle_nil _ HB.out)
set_option maxRecDepth 100000 in set_option maxHeartbeats 4000000 in
theorem wire_Run_one2 (d : V3) (m : Int) (torus : Bool) (w : World) (h : d.askE 2 m = 0) (hl : 1 ≤ d.z) :
    Calls Tryz.prog 94 #[.agg #[.int .i64 d.x, .int .i64 d.y, .int .i64 d.z], .int .i64 2, .int .i64 m, .int .i64 1, .bool torus] w (RLE w [] 0) := by
  have HA := Lib.hid (fun W => by have := wire_asked d 2 m W; rw [h] at this; exact this)
  have d2 : decide (d.z < 1) = false := decide_eq_false (by omega)
  clear h
  (go_enter Tryz.func94, Tryz.ntmps94; go_wp2_with fail; refine (HA.out _).mono ?_; rintro e w1 ⟨rfl, hb1⟩; have BD := Lib.hid (((Blk.new w 23 #[.int .i64 d.x, .int .i64 d.y, .int .i64 d.z]).below hb1).dims); have HB := Lib.hid (below_then (show Below w.heap.size w (w.alloc (.cells #[.int .i64 d.x, .int .i64 d.y, .int .i64 d.z] 23)) by (repeat (first | (with_reducible exact Below.refl _ _) | (with_reducible assumption) | (with_reducible refine below_alloc ?_ _) | (with_reducible refine below_drewN ?_ _) | (with_reducible refine Below.drew ?_) | (with_reducible refine below_then ?_ (by with_reducible assumption)) | (with_reducible refine Below.setCell ?_ (by go_size) _)))) hb1); clear hb1; (have hlt := BD.out.lt; obtain ⟨d0, d1, d2⟩ := BD.out; go_wp2_with fail; clear d0 d1 d2 hlt); go_returns; exact rle_nil _ HB.out)
theorem wire_Run_ax2 (d : V3) (m long : Int) (torus : Bool) (w : World) (h : d.askE 2 m = 0) :
    Calls Tryz.prog 94 #[.agg #[.int .i64 d.x, .int .i64 d.y, .int .i64 d.z], .int .i64 2, .int .i64 m, .int .i64 long, .bool torus] w (RLE w (d.runV 2 m long torus) (d.runE 2 m long)) := by
  obtain ⟨hd, _, m0, m1⟩ := V3.askE_0 h
  have hE : d.runE 2 m long = if 1 ≤ long ∧ long ≤ d.z then 0 else 2 := by rw [V3.runE, if_pos h]; rfl
  by_cases hl : 1 ≤ long ∧ long ≤ d.z
  · have e0 : d.runE 2 m long = 0 := hE.trans (if_pos hl)
    by_cases h1 : long = 1
    · subst h1
      rw [show d.runV 2 m 1 torus = [] from if_neg (by omega), e0]
      exact wire_Run_one2 d m torus w h hl.2
    · rw [show d.runV 2 m long torus = sorted (d.links 2 m (if torus then (d.z).toNat else (long - 1).toNat)) from if_pos ⟨e0, by omega⟩, e0]
      refine wire_Run2 d m long torus _ w hd m0 m1 (by omega) hl.2 ?_
      cases torus
      · exact .inr ⟨rfl, by show (((long - 1).toNat : Nat) : Int) = long - 1; omega⟩
      · exact .inl ⟨rfl, by show (((d.z).toNat : Nat) : Int) = d.z; omega⟩
  · have e0 : d.runE 2 m long = 2 := hE.trans (if_neg hl)
    rw [show d.runV 2 m long torus = [] from if_neg (by omega), e0]
    exact wire_Run_no2 d m long torus w h hl
theorem wire_Run (d : V3) (axis m long : Int) (torus : Bool) (w : World) :
    Calls Tryz.prog 94 #[.agg #[.int .i64 d.x, .int .i64 d.y, .int .i64 d.z], .int .i64 axis, .int .i64 m, .int .i64 long, .bool torus] w (RLE w (d.runV axis m long torus) (d.runE axis m long)) := by
  by_cases h : d.askE axis m = 0
  · obtain ⟨_, ⟨a0, a1⟩, _⟩ := V3.askE_0 h
    have hax : axis = 0 ∨ axis = 1 ∨ axis = 2 := by omega
    rcases hax with rfl | rfl | rfl
    · exact wire_Run_ax0 d m long torus w h
    · exact wire_Run_ax1 d m long torus w h
    · exact wire_Run_ax2 d m long torus w h
  · have e0 : d.runE axis m long = d.askE axis m := by rw [V3.runE, if_neg h]
    rw [show d.runV axis m long torus = [] from if_neg (by rw [e0]; exact fun h2 => h h2.1), e0]
    exact wire_Run_bad d axis m long torus w h
theorem V3.runV_len (d : V3) (axis m long : Int) (torus : Bool) : (d.runV axis m long torus).length ≤ 16 := by
  unfold V3.runV
  split
  · next h =>
    rw [sorted_len, V3.links_len]
    have h1 := h.1
    unfold V3.runE at h1
    split at h1
    · next ha =>
      split at h1
      · next hl =>
        obtain ⟨hd, ⟨a0, a1⟩, _⟩ := V3.askE_0 ha
        have := V3.at_pos hd axis.toNat (by omega)
        split <;> omega
      · cases h1
    · next ha => exact absurd h1 ha
  · exact Nat.zero_le _
end
end
end Go.Proofs.YtofoenlhbmammaaGreat
