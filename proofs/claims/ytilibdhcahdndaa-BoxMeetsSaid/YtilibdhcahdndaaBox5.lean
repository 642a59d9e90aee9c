/- BOX: Meet and Within. -/
import Derived.Test.YtilibdhcahdndaaProg
import Derived.Test.YtilibdhcahdndaaBase
import Derived.Test.YtilibdhcahdndaaBox4
import Derived.Test.YtilibdhcahdndaaBox2
namespace Go.Proofs.Ytilibdhcahdndaa
open Go.RowKit Go.Shelf

def boxMeet (d : V3) (a b : Bx) : Bool := decide (chk2 d a b = 0) && all3 (fun i => meets1 a b (d.at i) i)
def boxWithin (d : V3) (a b : Bx) : Bool := decide (chk2 d a b = 0) && all3 (fun i => within1 a b (d.at i) i)
theorem boxMeet_ok {d : V3} {a b : Bx} (h : chk2 d a b = 0) : boxMeet d a b = all3 (fun i => meets1 a b (d.at i) i) := by simp [boxMeet, h]
theorem boxMeet_no {d : V3} {a b : Bx} (h : ¬ chk2 d a b = 0) : boxMeet d a b = false := by simp [boxMeet, h]
theorem boxWithin_ok {d : V3} {a b : Bx} (h : chk2 d a b = 0) : boxWithin d a b = all3 (fun i => within1 a b (d.at i) i) := by simp [boxWithin, h]
theorem boxWithin_no {d : V3} {a b : Bx} (h : ¬ chk2 d a b = 0) : boxWithin d a b = false := by simp [boxWithin, h]

theorem chk2_0 {d : V3} {a b : Bx} (h : chk2 d a b = 0) : d.may ∧ a.may d ∧ b.may d := by
  unfold chk2 okIf at h
  by_cases hd : d.may
  · rw [if_pos hd] at h
    by_cases hab : a.may d ∧ b.may d
    · exact ⟨hd, hab⟩
    · rw [if_neg hab] at h; omega
  · rw [if_neg hd] at h; omega

theorem asks_of {P : Program} {d : V3} {g : Nat} {lb : Array Value} {q : Nat → Bool} {w : World}
    (h0 : ∀ W, Below w.heap.size w W → Calls P g (#[.int .i64 0, .int .i64 d.x] ++ lb) W (RB W (.bool (q 0))))
    (h1 : ∀ W, Below w.heap.size w W → Calls P g (#[.int .i64 1, .int .i64 d.y] ++ lb) W (RB W (.bool (q 1))))
    (h2 : ∀ W, Below w.heap.size w W → Calls P g (#[.int .i64 2, .int .i64 d.z] ++ lb) W (RB W (.bool (q 2)))) : Asks P d g lb q w := by
  intro i W hi hb
  match i, hi with
  | 0, _ => exact h0 W hb
  | 1, _ => exact h1 W hb
  | 2, _ => exact h2 W hb

theorem meet_asks (d : V3) (a b : Bx) (w : World) (A B : Nat) (ha : BoxAt w A a) (hb : BoxAt w B b) (h : chk2 d a b = 0) :
    Asks Try.prog d 52 #[.pointer (some ⟨A, 0, none⟩), .pointer (some ⟨B, 0, none⟩)] (fun i => meets1 a b (d.at i) i) w := by
  obtain ⟨hd, h1, h2⟩ := chk2_0 h
  unfold V3.may at hd
  unfold Bx.may at h1 h2
  refine asks_of (fun W hW => ?_) (fun W hW => ?_) (fun W hW => ?_)
  · exact meet_ask0 a b d.x W A B (ha.keep hW) (hb.keep hW) (by omega) (by omega) (by omega) (by omega) (by omega) (by omega)
  · exact meet_ask1 a b d.y W A B (ha.keep hW) (hb.keep hW) (by omega) (by omega) (by omega) (by omega) (by omega) (by omega)
  · exact meet_ask2 a b d.z W A B (ha.keep hW) (hb.keep hW) (by omega) (by omega) (by omega) (by omega) (by omega) (by omega)

theorem within_asks (d : V3) (a b : Bx) (w : World) (A B : Nat) (ha : BoxAt w A a) (hb : BoxAt w B b) (h : chk2 d a b = 0) :
    Asks Try.prog d 57 #[.pointer (some ⟨B, 0, none⟩), .pointer (some ⟨A, 0, none⟩)] (fun i => within1 a b (d.at i) i) w := by
  obtain ⟨hd, h1, h2⟩ := chk2_0 h
  unfold V3.may at hd
  unfold Bx.may at h1 h2
  refine asks_of (fun W hW => ?_) (fun W hW => ?_) (fun W hW => ?_)
  · exact within_ask0 a b d.x W A B (ha.keep hW) (hb.keep hW) (by omega) (by omega) (by omega) (by omega) (by omega) (by omega) (by omega) (by omega)
  · exact within_ask1 a b d.y W A B (ha.keep hW) (hb.keep hW) (by omega) (by omega) (by omega) (by omega) (by omega) (by omega) (by omega) (by omega)
  · exact within_ask2 a b d.z W A B (ha.keep hW) (hb.keep hW) (by omega) (by omega) (by omega) (by omega) (by omega) (by omega) (by omega) (by omega)

/-- A box in a block that is written out. -/
theorem boxAt_mk {w : World} {B : Nat} {b : Bx} (h0 : w.cell? ⟨B, 0, none⟩ = some (.int .i64 b.b.x)) (h1 : w.cell? ⟨B, 1, none⟩ = some (.int .i64 b.b.y)) (h2 : w.cell? ⟨B, 2, none⟩ = some (.int .i64 b.b.z))
    (h3 : w.cell? ⟨B, 3, none⟩ = some (.int .i64 b.s.x)) (h4 : w.cell? ⟨B, 4, none⟩ = some (.int .i64 b.s.y)) (h5 : w.cell? ⟨B, 5, none⟩ = some (.int .i64 b.s.z)) : BoxAt w B b :=
  ⟨h0, h1, h2, h3, h4, h5, World.block_lt_of_cell? w _ h0⟩

set_option maxRecDepth 100000 in set_option maxHeartbeats 4000000 in
theorem box_Meet (d : V3) (a b : Bx) (w : World) : Calls Try.prog 21 #[.agg #[.int .i64 d.x, .int .i64 d.y, .int .i64 d.z], .agg #[.int .i64 a.b.x, .int .i64 a.b.y, .int .i64 a.b.z, .int .i64 a.s.x, .int .i64 a.s.y, .int .i64 a.s.z], .agg #[.int .i64 b.b.x, .int .i64 b.b.y, .int .i64 b.b.z, .int .i64 b.s.x, .int .i64 b.s.y, .int .i64 b.s.z]] w (RB w (.tuple #[.bool (boxMeet d a b), .int .i64 (chk2 d a b)])) := by
  by_cases h : chk2 d a b = 0
  · have hq := Lib.hid (boxMeet_ok h)
    have hh := Lib.hid h
    have eg : ∀ args w, (callFunc 52 args).run Try.prog w = .ok (.enter 52 args) w := enters_of Try.func52 (by kernel_rfl) rfl
    go_enter Try.func21, Try.ntmps21
    go_wp2_with fail
    refine (box_checked d a b _ _ ?_).mono ?_
    · constructor <;> simp [go_sem]
    rintro e w1 ⟨rfl, hb1⟩
    (obtain ⟨hc1, hf1⟩ := bcell hb1; have hz1 := hb1.size; (try simp at hz1); have hB : Below w.heap.size w w1 := (by (repeat (first | (with_reducible exact Below.refl _ _) | (with_reducible assumption) | (with_reducible refine below_alloc ?_ _) | (with_reducible refine below_drewN ?_ _) | (with_reducible refine Below.drew ?_) | (with_reducible refine below_then ?_ (by with_reducible assumption)) | (with_reducible refine Below.setCell ?_ (by go_size) _)))); obtain ⟨hcB, hfB⟩ := bcell hB; (try have z0 : w.heap.size < w1.heap.size := by omega); (try have z1 : w.heap.size + 1 < w1.heap.size := by omega); (try have z2 : w.heap.size + 2 < w1.heap.size := by omega); (try have z3 : w.heap.size + 3 < w1.heap.size := by omega))
    go_wp2_with fail
    refine (box_along d _ _ _ _ eg (meet_asks d a b _ _ _ ?_ ?_ hh.out)).mono ?_
    · apply boxAt_mk <;> simp [hc1, go_sem]
    · apply boxAt_mk <;> simp [hc1, go_sem]
    rintro e w2 ⟨rfl, hb2⟩
    go_wp2_with fail
    go_returns
    exact ⟨by rw [hq.out, hh.out]; rfl, by (repeat (first | (with_reducible exact Below.refl _ _) | (with_reducible assumption) | (with_reducible refine below_alloc ?_ _) | (with_reducible refine below_drewN ?_ _) | (with_reducible refine Below.drew ?_) | (with_reducible refine below_then ?_ (by with_reducible assumption)) | (with_reducible refine Below.setCell ?_ (by go_size) _)))⟩
  · have hq := Lib.hid (boxMeet_no h)
    have hn : (chk2 d a b == 0) = false := by simpa using h
    have hm : (chk2 d a b != 0) = true := by simpa using h
    go_enter Try.func21, Try.ntmps21
    go_wp2_with fail
    refine (box_checked d a b _ _ ?_).mono ?_
    · constructor <;> simp [go_sem]
    rintro e w1 ⟨rfl, hb1⟩
    go_wp2_with fail
    go_returns
    exact ⟨by rw [hq.out]; rfl, by (repeat (first | (with_reducible exact Below.refl _ _) | (with_reducible assumption) | (with_reducible refine below_alloc ?_ _) | (with_reducible refine below_drewN ?_ _) | (with_reducible refine Below.drew ?_) | (with_reducible refine below_then ?_ (by with_reducible assumption)) | (with_reducible refine Below.setCell ?_ (by go_size) _)))⟩
set_option maxRecDepth 100000 in set_option maxHeartbeats 4000000 in
theorem box_Within (d : V3) (a b : Bx) (w : World) : Calls Try.prog 23 #[.agg #[.int .i64 d.x, .int .i64 d.y, .int .i64 d.z], .agg #[.int .i64 a.b.x, .int .i64 a.b.y, .int .i64 a.b.z, .int .i64 a.s.x, .int .i64 a.s.y, .int .i64 a.s.z], .agg #[.int .i64 b.b.x, .int .i64 b.b.y, .int .i64 b.b.z, .int .i64 b.s.x, .int .i64 b.s.y, .int .i64 b.s.z]] w (RB w (.tuple #[.bool (boxWithin d a b), .int .i64 (chk2 d a b)])) := by
  by_cases h : chk2 d a b = 0
  · have hq := Lib.hid (boxWithin_ok h)
    have hh := Lib.hid h
    have eg : ∀ args w, (callFunc 57 args).run Try.prog w = .ok (.enter 57 args) w := enters_of Try.func57 (by kernel_rfl) rfl
    go_enter Try.func23, Try.ntmps23
    go_wp2_with fail
    refine (box_checked d a b _ _ ?_).mono ?_
    · constructor <;> simp [go_sem]
    rintro e w1 ⟨rfl, hb1⟩
    (obtain ⟨hc1, hf1⟩ := bcell hb1; have hz1 := hb1.size; (try simp at hz1); have hB : Below w.heap.size w w1 := (by (repeat (first | (with_reducible exact Below.refl _ _) | (with_reducible assumption) | (with_reducible refine below_alloc ?_ _) | (with_reducible refine below_drewN ?_ _) | (with_reducible refine Below.drew ?_) | (with_reducible refine below_then ?_ (by with_reducible assumption)) | (with_reducible refine Below.setCell ?_ (by go_size) _)))); obtain ⟨hcB, hfB⟩ := bcell hB; (try have z0 : w.heap.size < w1.heap.size := by omega); (try have z1 : w.heap.size + 1 < w1.heap.size := by omega); (try have z2 : w.heap.size + 2 < w1.heap.size := by omega); (try have z3 : w.heap.size + 3 < w1.heap.size := by omega))
    go_wp2_with fail
    refine (box_along d _ _ _ _ eg (within_asks d a b _ _ _ ?_ ?_ hh.out)).mono ?_
    · apply boxAt_mk <;> simp [hc1, go_sem]
    · apply boxAt_mk <;> simp [hc1, go_sem]
    rintro e w2 ⟨rfl, hb2⟩
    go_wp2_with fail
    go_returns
    exact ⟨by rw [hq.out, hh.out]; rfl, by (repeat (first | (with_reducible exact Below.refl _ _) | (with_reducible assumption) | (with_reducible refine below_alloc ?_ _) | (with_reducible refine below_drewN ?_ _) | (with_reducible refine Below.drew ?_) | (with_reducible refine below_then ?_ (by with_reducible assumption)) | (with_reducible refine Below.setCell ?_ (by go_size) _)))⟩
  · have hq := Lib.hid (boxWithin_no h)
    have hn : (chk2 d a b == 0) = false := by simpa using h
    have hm : (chk2 d a b != 0) = true := by simpa using h
    go_enter Try.func23, Try.ntmps23
    go_wp2_with fail
    refine (box_checked d a b _ _ ?_).mono ?_
    · constructor <;> simp [go_sem]
    rintro e w1 ⟨rfl, hb1⟩
    go_wp2_with fail
    go_returns
    exact ⟨by rw [hq.out]; rfl, by (repeat (first | (with_reducible exact Below.refl _ _) | (with_reducible assumption) | (with_reducible refine below_alloc ?_ _) | (with_reducible refine below_drewN ?_ _) | (with_reducible refine Below.drew ?_) | (with_reducible refine below_then ?_ (by with_reducible assumption)) | (with_reducible refine Below.setCell ?_ (by go_size) _)))⟩
end Go.Proofs.Ytilibdhcahdndaa
