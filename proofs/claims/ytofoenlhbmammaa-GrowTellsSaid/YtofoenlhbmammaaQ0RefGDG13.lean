/- REF 13: a box one step greater: the document's. -/
import Derived.Deep.RegionWith
import Derived.Test.YtofoenlhbmammaaQ0GrowPG13
import Derived.Test.YtofoenlhbmammaaQ0RefGAG13
set_option linter.unusedVariables false
set_option linter.unusedSimpArgs false
namespace Go.Proofs.Ytofoenlhbmammaa

section
open Go.RowKit Go.Shelf

theorem ld_box {W : World} {k : Nat} {x : Bx} (H : Blk W k 27 #[.int .i64 x.b.x, .int .i64 x.b.y, .int .i64 x.b.z, .int .i64 x.s.x, .int .i64 x.s.y, .int .i64 x.s.z]) : (loadVar 27 ⟨k, 0, none⟩).run Try.prog W = .ok (.agg #[.int .i64 x.b.x, .int .i64 x.b.y, .int .i64 x.b.z, .int .i64 x.s.x, .int .i64 x.s.y, .int .i64 x.s.z]) W := by
  have r0 := H.cell 0 _ rfl
  have r1 := H.cell 1 _ rfl
  have r2 := H.cell 2 _ rfl
  have r3 := H.cell 3 _ rfl
  have r4 := H.cell 4 _ rfl
  have r5 := H.cell 5 _ rfl
  simp [go_sem, r0, r1, r2, r3, r4, r5]; try rfl
theorem ret_box {fn : Func} {tmps : Array Value} {a : Tmp} {t : TypeId} {p : Addr} {v : Value} {w : World} {P : Program} (hf : fn.results = #[.cell a t]) (ht : tmps.getD a undef = .pointer (some p)) (hl : (loadVar t p).run P w = .ok v w) :
    (results fn tmps).run P w = .ok v w := by
  have ht2 := ht
  simp only [Array.getD_eq_getD_getElem?] at ht2
  unfold results
  generalize loadVar = LL at hl ⊢
  simp [hf, ht, ht2, asAddr, go_sem, hl]
set_option maxRecDepth 100000 in set_option maxHeartbeats 4000000 in
theorem ref01_RoundG (n b : Int) (w : World) (hn : 0 ≤ n) (hn9 : n ≤ 100000) (hb : 1 ≤ b) (hb9 : b ≤ 100000) :
    Calls Try.prog 92 #[.int .i64 n, .int .i64 b] w fun e w' => e = .returned (.int .i64 (n % b)) ∧ w' = w := by
  have hz : b ≠ 0 := by omega
  have h1 : 0 ≤ n % b := Int.emod_nonneg _ hz
  have h2 : decide (n % b < 0) = false := decide_eq_false (by omega)
  have h3 : n % b < b := Int.emod_lt_of_pos _ (by omega)
  go_enter Try.func92, Try.ntmps92
  go_wp2_with fail
  go_returns
  exact ⟨rfl, rfl⟩
set_option maxRecDepth 100000 in set_option maxHeartbeats 4000000 in
theorem ref01_RoundGM (b : Int) (w : World) (hb : 1 ≤ b) (hb9 : b ≤ 100000) :
    Calls Try.prog 92 #[.int .i64 (-1), .int .i64 b] w fun e w' => e = .returned (.int .i64 (b - 1)) ∧ w' = w := by
  have hz : b ≠ 0 := by omega
  by_cases h1 : b = 1
  · subst h1
    go_enter Try.func92, Try.ntmps92
    go_wp2_with fail
    go_returns
    exact ⟨rfl, rfl⟩
  · have hm : Int.tmod (-1) b = -1 := by rw [Int.neg_tmod, Int.tmod_eq_of_lt (by omega) (by omega)]
    have hq : -1 + b = b - 1 := by omega
    go_enter Try.func92, Try.ntmps92
    go_wp2_with fail
    go_returns
    exact ⟨by rw [← hq]; rfl, rfl⟩
theorem ref01_RoundB (a n back : Int) (w : World) (ha : 0 ≤ a ∧ a < n) (hn : n ≤ 16) (hb : back = 0 ∨ back = 1) :
    Calls Try.prog 92 #[.int .i64 (a - back), .int .i64 n] w fun e w' => e = .returned (.int .i64 ((a + n - back) % n)) ∧ w' = w := by
  by_cases h : 0 ≤ a - back
  · have e : (a + n - back) % n = (a - back) % n := by rw [show a + n - back = (a - back) + n by omega, Int.add_emod_right]
    rw [e]
    exact ref01_RoundG (a - back) n w h (by omega) (by omega) (by omega)
  · have h1 : back = 1 := by omega
    have h2 : a = 0 := by omega
    subst h1 h2
    have e : ((0 : Int) + n - 1) % n = n - 1 := by rw [show (0 : Int) + n - 1 = n - 1 by omega]; exact Int.emod_eq_of_lt (by omega) (by omega)
    rw [e]
    exact ref01_RoundGM n w (by omega) (by omega)
theorem step_can_may {d : V3} {b : Bx} {k : Nat} {back : Int} (hb : b.may d) (hk : k < 3) (hh : back = 0 ∨ back = 1) : ((b.stepG d k back).can d).may d ↔ (b.stepG d k back).may d := by
  constructor
  · intro h
    refine step_may hb hk ?_ hh
    obtain ⟨⟨sx, _⟩, ⟨sy, _⟩, ⟨sz, _⟩⟩ := h
    match k, hk with
    | 0, _ => have := sx.2; simp [Bx.can, Bx.stepG, V3.put] at this; simp; omega
    | 1, _ => have := sy.2; simp [Bx.can, Bx.stepG, V3.put] at this; simp; omega
    | 2, _ => have := sz.2; simp [Bx.can, Bx.stepG, V3.put] at this; simp; omega
  · exact fun h => Bx.can_may h
/-- What a step comes to. -/
def stepR (d : V3) (s : List Nat) (b : Bx) (k : Nat) (back : Int) : Bx := if okStep d s b k back then (b.stepG d k back).can d else b
/-- What lies when the step has been made. -/
structure StW (w W : World) (d : V3) (b y : Bx) : Prop where
  d : Blk W w.heap.size 23 #[.int .i64 d.x, .int .i64 d.y, .int .i64 d.z]
  b : Blk W (w.heap.size + 1) 27 #[.int .i64 b.b.x, .int .i64 b.b.y, .int .i64 b.b.z, .int .i64 b.s.x, .int .i64 b.s.y, .int .i64 b.s.z]
  o : Blk W (w.heap.size + 1 + 1) 27 #[.int .i64 0, .int .i64 0, .int .i64 0, .int .i64 0, .int .i64 0, .int .i64 0]
  c : Blk W (w.heap.size + 1 + 1 + 1) 27 #[.int .i64 y.b.x, .int .i64 y.b.y, .int .i64 y.b.z, .int .i64 y.s.x, .int .i64 y.s.y, .int .i64 y.s.z]
  hb : Below w.heap.size w W
theorem StW.keep {w W W' : World} {d : V3} {b y : Bx} (h : StW w W d b y) (hb : Below W.heap.size W W') : StW w W' d b y := ⟨h.d.below hb, h.b.below hb, h.o.below hb, h.c.below hb, below_then h.hb hb⟩
theorem st_new (w : World) (d : V3) (b : Bx) (y0 y1 y2 y3 y4 y5 : Int) : StW w ((((w.alloc (.cells #[.int .i64 d.x, .int .i64 d.y, .int .i64 d.z] 23)).alloc (.cells #[.int .i64 b.b.x, .int .i64 b.b.y, .int .i64 b.b.z, .int .i64 b.s.x, .int .i64 b.s.y, .int .i64 b.s.z] 27)).alloc (.cells #[.int .i64 0, .int .i64 0, .int .i64 0, .int .i64 0, .int .i64 0, .int .i64 0] 27)).alloc (.cells #[.int .i64 y0, .int .i64 y1, .int .i64 y2, .int .i64 y3, .int .i64 y4, .int .i64 y5] 27)).drew d b ⟨⟨y0, y1, y2⟩, ⟨y3, y4, y5⟩⟩ := by
  have h1 := Blk.new (w.alloc (.cells #[.int .i64 d.x, .int .i64 d.y, .int .i64 d.z] 23)) 27 #[.int .i64 b.b.x, .int .i64 b.b.y, .int .i64 b.b.z, .int .i64 b.s.x, .int .i64 b.s.y, .int .i64 b.s.z]
  have h2 := Blk.new ((w.alloc (.cells #[.int .i64 d.x, .int .i64 d.y, .int .i64 d.z] 23)).alloc (.cells #[.int .i64 b.b.x, .int .i64 b.b.y, .int .i64 b.b.z, .int .i64 b.s.x, .int .i64 b.s.y, .int .i64 b.s.z] 27)) 27 #[.int .i64 0, .int .i64 0, .int .i64 0, .int .i64 0, .int .i64 0, .int .i64 0]
  have h3 := Blk.new (((w.alloc (.cells #[.int .i64 d.x, .int .i64 d.y, .int .i64 d.z] 23)).alloc (.cells #[.int .i64 b.b.x, .int .i64 b.b.y, .int .i64 b.b.z, .int .i64 b.s.x, .int .i64 b.s.y, .int .i64 b.s.z] 27)).alloc (.cells #[.int .i64 0, .int .i64 0, .int .i64 0, .int .i64 0, .int .i64 0, .int .i64 0] 27)) 27 #[.int .i64 y0, .int .i64 y1, .int .i64 y2, .int .i64 y3, .int .i64 y4, .int .i64 y5]
  simp only [World.size_alloc] at h1 h2 h3
  exact ⟨((((Blk.new w _ _).alloc _).alloc _).alloc _).drew, ((h1.alloc _).alloc _).drew, (h2.alloc _).drew, h3.drew, by (repeat (first | (with_reducible exact Below.refl _ _) | (with_reducible assumption) | (with_reducible refine below_alloc ?_ _) | (with_reducible refine below_drewN ?_ _) | (with_reducible refine Below.drew ?_) | (with_reducible refine below_then ?_ (by with_reducible assumption)) | (with_reducible refine Below.setCell ?_ (by go_size) _)))⟩
theorem st_set {w W : World} {d : V3} {b y : Bx} (h : StW w W d b y) (c : Bx) : StW w ((((((W.setCell ⟨w.heap.size + 1 + 1 + 1, 0, none⟩ (.int .i64 c.b.x)).setCell ⟨w.heap.size + 1 + 1 + 1, 1, none⟩ (.int .i64 c.b.y)).setCell ⟨w.heap.size + 1 + 1 + 1, 2, none⟩ (.int .i64 c.b.z)).setCell ⟨w.heap.size + 1 + 1 + 1, 3, none⟩ (.int .i64 c.s.x)).setCell ⟨w.heap.size + 1 + 1 + 1, 4, none⟩ (.int .i64 c.s.y)).setCell ⟨w.heap.size + 1 + 1 + 1, 5, none⟩ (.int .i64 c.s.z)) d b c :=
  ⟨(((((((h.d).other (w.heap.size + 1 + 1 + 1) 0 (.int .i64 c.b.x) (by omega)).other (w.heap.size + 1 + 1 + 1) 1 (.int .i64 c.b.y) (by omega)).other (w.heap.size + 1 + 1 + 1) 2 (.int .i64 c.b.z) (by omega)).other (w.heap.size + 1 + 1 + 1) 3 (.int .i64 c.s.x) (by omega)).other (w.heap.size + 1 + 1 + 1) 4 (.int .i64 c.s.y) (by omega)).other (w.heap.size + 1 + 1 + 1) 5 (.int .i64 c.s.z) (by omega)), (((((((h.b).other (w.heap.size + 1 + 1 + 1) 0 (.int .i64 c.b.x) (by omega)).other (w.heap.size + 1 + 1 + 1) 1 (.int .i64 c.b.y) (by omega)).other (w.heap.size + 1 + 1 + 1) 2 (.int .i64 c.b.z) (by omega)).other (w.heap.size + 1 + 1 + 1) 3 (.int .i64 c.s.x) (by omega)).other (w.heap.size + 1 + 1 + 1) 4 (.int .i64 c.s.y) (by omega)).other (w.heap.size + 1 + 1 + 1) 5 (.int .i64 c.s.z) (by omega)), (((((((h.o).other (w.heap.size + 1 + 1 + 1) 0 (.int .i64 c.b.x) (by omega)).other (w.heap.size + 1 + 1 + 1) 1 (.int .i64 c.b.y) (by omega)).other (w.heap.size + 1 + 1 + 1) 2 (.int .i64 c.b.z) (by omega)).other (w.heap.size + 1 + 1 + 1) 3 (.int .i64 c.s.x) (by omega)).other (w.heap.size + 1 + 1 + 1) 4 (.int .i64 c.s.y) (by omega)).other (w.heap.size + 1 + 1 + 1) 5 (.int .i64 c.s.z) (by omega)), (((((((h.c).set 0 (.int .i64 c.b.x)).set 1 (.int .i64 c.b.y)).set 2 (.int .i64 c.b.z)).set 3 (.int .i64 c.s.x)).set 4 (.int .i64 c.s.y)).set 5 (.int .i64 c.s.z)), ((((((((h.hb).setCell (p := ⟨(w.heap.size + 1 + 1 + 1), 0, none⟩) (show w.heap.size ≤ (w.heap.size + 1 + 1 + 1) by omega) (.int .i64 c.b.x)).setCell (p := ⟨(w.heap.size + 1 + 1 + 1), 1, none⟩) (show w.heap.size ≤ (w.heap.size + 1 + 1 + 1) by omega) (.int .i64 c.b.y)).setCell (p := ⟨(w.heap.size + 1 + 1 + 1), 2, none⟩) (show w.heap.size ≤ (w.heap.size + 1 + 1 + 1) by omega) (.int .i64 c.b.z)).setCell (p := ⟨(w.heap.size + 1 + 1 + 1), 3, none⟩) (show w.heap.size ≤ (w.heap.size + 1 + 1 + 1) by omega) (.int .i64 c.s.x)).setCell (p := ⟨(w.heap.size + 1 + 1 + 1), 4, none⟩) (show w.heap.size ≤ (w.heap.size + 1 + 1 + 1) by omega) (.int .i64 c.s.y)).setCell (p := ⟨(w.heap.size + 1 + 1 + 1), 5, none⟩) (show w.heap.size ≤ (w.heap.size + 1 + 1 + 1) by omega) (.int .i64 c.s.z)))⟩
set_option maxRecDepth 100000 in set_option maxHeartbeats 4000000 in
theorem ref13_step0 (d : V3) (b : Bx) (back : Int) (bs : Option Addr) (cs : Nat) (ms : List Nat) (w : World) (u v : Int) (c R : Bx) (mb cb : Bool) (hu : u = b.s.x + 1) (h1 : 1 ≤ d.x ∧ d.x ≤ 16) (h2 : 0 ≤ b.b.x ∧ b.b.x < d.x) (h3 : 1 ≤ b.s.x ∧ b.s.x ≤ d.x) (h4 : 0 ≤ back ∧ back ≤ 1)
    (HR : RowKit.Hid (∀ W, Calls Try.prog 92 #[.int .i64 (b.b.x - back), .int .i64 d.x] W fun e w' => e = .returned (.int .i64 v) ∧ w' = W))
    (HT : RowKit.Hid (∀ W, Calls Try.prog 50 #[.agg #[.int .i64 d.x, .int .i64 d.y, .int .i64 d.z], .agg #[.int .i64 v, .int .i64 b.b.y, .int .i64 b.b.z, .int .i64 u, .int .i64 b.s.y, .int .i64 b.s.z]] W (RB W (.agg #[.int .i64 c.b.x, .int .i64 c.b.y, .int .i64 c.b.z, .int .i64 c.s.x, .int .i64 c.s.y, .int .i64 c.s.z]))))
    (HM : RowKit.Hid (∀ W, Calls Try.prog 48 #[.agg #[.int .i64 d.x, .int .i64 d.y, .int .i64 d.z], .agg #[.int .i64 c.b.x, .int .i64 c.b.y, .int .i64 c.b.z, .int .i64 c.s.x, .int .i64 c.s.y, .int .i64 c.s.z]] W (RB W (.bool mb))))
    (HC : RowKit.Hid (mb = true → ∀ W, Below w.heap.size w W → Calls Try.prog 49 #[.agg #[.int .i64 d.x, .int .i64 d.y, .int .i64 d.z], .agg #[.int .i64 c.b.x, .int .i64 c.b.y, .int .i64 c.b.z, .int .i64 c.s.x, .int .i64 c.s.y, .int .i64 c.s.z], .slice bs ms.length cs] W (RB W (.bool cb))))
    (HRR : RowKit.Hid (R = if mb && cb then c else b)) :
    Calls Try.prog 76 #[.agg #[.int .i64 d.x, .int .i64 d.y, .int .i64 d.z], .agg #[.int .i64 b.b.x, .int .i64 b.b.y, .int .i64 b.b.z, .int .i64 b.s.x, .int .i64 b.s.y, .int .i64 b.s.z], .slice bs ms.length cs, .int .i64 0, .int .i64 back] w (RB w (.agg #[.int .i64 R.b.x, .int .i64 R.b.y, .int .i64 R.b.z, .int .i64 R.s.x, .int .i64 R.s.y, .int .i64 R.s.z])) := by
  have e1 : IntKind.i64.wrap (b.s.x + 1) = u := by rw [hu]; exact IntWalk.i64_in _ (by omega)
  have e3 : IntKind.i64.wrap (b.b.x - back) = b.b.x - back := IntWalk.i64_in _ (by omega)
  have e7 : wrap64 (b.s.x + 1) = u := (IntWalk.i64_left _).symm.trans e1
  clear hu h4
  go_enter Try.func76, Try.ntmps76
  go_wp2_with fail
  go_region_with (first | (go_at_call 92; (with_reducible refine (HR.out _).mono ?_); rintro e w3 ⟨rfl, hw3⟩; have hw3 := hw3.symm; subst hw3))
  all_goals
    go_wp2_with fail
    refine (HT.out _).mono ?_
    rintro e w5 ⟨rfl, hb⟩
    have T := Lib.hid ((st_new w d b v b.b.y b.b.z u b.s.y b.s.z).keep hb)
    clear hb
    (have o0 := (T.out.c).cell 0 _ rfl; have o1 := (T.out.c).cell 1 _ rfl; have o2 := (T.out.c).cell 2 _ rfl; have o3 := (T.out.c).cell 3 _ rfl; have o4 := (T.out.c).cell 4 _ rfl; have o5 := (T.out.c).cell 5 _ rfl; have f0 := (T.out.c).frozen 0; have f1 := (T.out.c).frozen 1; have f2 := (T.out.c).frozen 2; have f3 := (T.out.c).frozen 3; have f4 := (T.out.c).frozen 4; have f5 := (T.out.c).frozen 5; have ol := (T.out.c).lt)
    have T := Lib.hid (st_set T.out c)
    (have d0 := (T.out.d).cell 0 _ rfl; have d1 := (T.out.d).cell 1 _ rfl; have d2 := (T.out.d).cell 2 _ rfl; have dl := (T.out.d).lt)
    go_wp2_with fail
    refine (HM.out _).mono ?_
    rintro e w6 ⟨rfl, hb⟩
    have T := Lib.hid (T.out.keep hb)
    clear hb o0 o1 o2 o3 o4 o5 f0 f1 f2 f3 f4 f5 ol d0 d1 d2 dl
    (have g0 := (T.out.c).cell 0 _ rfl; have g1 := (T.out.c).cell 1 _ rfl; have g2 := (T.out.c).cell 2 _ rfl; have g3 := (T.out.c).cell 3 _ rfl; have g4 := (T.out.c).cell 4 _ rfl; have g5 := (T.out.c).cell 5 _ rfl; have gl := (T.out.c).lt)
    (have a0 := (T.out.b).cell 0 _ rfl; have a1 := (T.out.b).cell 1 _ rfl; have a2 := (T.out.b).cell 2 _ rfl; have a3 := (T.out.b).cell 3 _ rfl; have a4 := (T.out.b).cell 4 _ rfl; have a5 := (T.out.b).cell 5 _ rfl; have al := (T.out.b).lt)
    (have d0 := (T.out.d).cell 0 _ rfl; have d1 := (T.out.d).cell 1 _ rfl; have d2 := (T.out.d).cell 2 _ rfl; have dl := (T.out.d).lt)
    (have z0 := (T.out.o).cell 0 _ rfl; have z1 := (T.out.o).cell 1 _ rfl; have z2 := (T.out.o).cell 2 _ rfl; have z3 := (T.out.o).cell 3 _ rfl; have z4 := (T.out.o).cell 4 _ rfl; have z5 := (T.out.o).cell 5 _ rfl; have q0 := (T.out.o).frozen 0; have q1 := (T.out.o).frozen 1; have q2 := (T.out.o).frozen 2; have q3 := (T.out.o).frozen 3; have q4 := (T.out.o).frozen 4; have q5 := (T.out.o).frozen 5; have zl := (T.out.o).lt)
    cases mb with
    | false =>
      have HS := Lib.hid (((((((T.out.o).set 0 (.int .i64 b.b.x)).set 1 (.int .i64 b.b.y)).set 2 (.int .i64 b.b.z)).set 3 (.int .i64 b.s.x)).set 4 (.int .i64 b.s.y)).set 5 (.int .i64 b.s.z))
      have HE := Lib.hid ((((((((T.out.hb).setCell (p := ⟨(w.heap.size + 1 + 1), 0, none⟩) (show w.heap.size ≤ (w.heap.size + 1 + 1) by omega) (.int .i64 b.b.x)).setCell (p := ⟨(w.heap.size + 1 + 1), 1, none⟩) (show w.heap.size ≤ (w.heap.size + 1 + 1) by omega) (.int .i64 b.b.y)).setCell (p := ⟨(w.heap.size + 1 + 1), 2, none⟩) (show w.heap.size ≤ (w.heap.size + 1 + 1) by omega) (.int .i64 b.b.z)).setCell (p := ⟨(w.heap.size + 1 + 1), 3, none⟩) (show w.heap.size ≤ (w.heap.size + 1 + 1) by omega) (.int .i64 b.s.x)).setCell (p := ⟨(w.heap.size + 1 + 1), 4, none⟩) (show w.heap.size ≤ (w.heap.size + 1 + 1) by omega) (.int .i64 b.s.y)).setCell (p := ⟨(w.heap.size + 1 + 1), 5, none⟩) (show w.heap.size ≤ (w.heap.size + 1 + 1) by omega) (.int .i64 b.s.z)))
      go_wp2_with fail
      (refine bodyPost_ret (ret_box Try.results76 rfl (ld_box (x := b) HS.out)) rfl ?_)
      exact ⟨by rw [HRR.out]; rfl, HE.out⟩
    | true =>
      go_wp2_with fail
      refine (HC.out (by first | rfl | trivial) _ T.out.hb).mono ?_
      rintro e w7 ⟨rfl, hb⟩
      have T := Lib.hid (T.out.keep hb)
      clear hb g0 g1 g2 g3 g4 g5 gl a0 a1 a2 a3 a4 a5 al d0 d1 d2 dl z0 z1 z2 z3 z4 z5 q0 q1 q2 q3 q4 q5 zl
      (have g0 := (T.out.c).cell 0 _ rfl; have g1 := (T.out.c).cell 1 _ rfl; have g2 := (T.out.c).cell 2 _ rfl; have g3 := (T.out.c).cell 3 _ rfl; have g4 := (T.out.c).cell 4 _ rfl; have g5 := (T.out.c).cell 5 _ rfl; have gl := (T.out.c).lt)
      (have a0 := (T.out.b).cell 0 _ rfl; have a1 := (T.out.b).cell 1 _ rfl; have a2 := (T.out.b).cell 2 _ rfl; have a3 := (T.out.b).cell 3 _ rfl; have a4 := (T.out.b).cell 4 _ rfl; have a5 := (T.out.b).cell 5 _ rfl; have al := (T.out.b).lt)
      (have z0 := (T.out.o).cell 0 _ rfl; have z1 := (T.out.o).cell 1 _ rfl; have z2 := (T.out.o).cell 2 _ rfl; have z3 := (T.out.o).cell 3 _ rfl; have z4 := (T.out.o).cell 4 _ rfl; have z5 := (T.out.o).cell 5 _ rfl; have q0 := (T.out.o).frozen 0; have q1 := (T.out.o).frozen 1; have q2 := (T.out.o).frozen 2; have q3 := (T.out.o).frozen 3; have q4 := (T.out.o).frozen 4; have q5 := (T.out.o).frozen 5; have zl := (T.out.o).lt)
      cases cb with
      | false =>
        have HS := Lib.hid (((((((T.out.o).set 0 (.int .i64 b.b.x)).set 1 (.int .i64 b.b.y)).set 2 (.int .i64 b.b.z)).set 3 (.int .i64 b.s.x)).set 4 (.int .i64 b.s.y)).set 5 (.int .i64 b.s.z))
        have HE := Lib.hid ((((((((T.out.hb).setCell (p := ⟨(w.heap.size + 1 + 1), 0, none⟩) (show w.heap.size ≤ (w.heap.size + 1 + 1) by omega) (.int .i64 b.b.x)).setCell (p := ⟨(w.heap.size + 1 + 1), 1, none⟩) (show w.heap.size ≤ (w.heap.size + 1 + 1) by omega) (.int .i64 b.b.y)).setCell (p := ⟨(w.heap.size + 1 + 1), 2, none⟩) (show w.heap.size ≤ (w.heap.size + 1 + 1) by omega) (.int .i64 b.b.z)).setCell (p := ⟨(w.heap.size + 1 + 1), 3, none⟩) (show w.heap.size ≤ (w.heap.size + 1 + 1) by omega) (.int .i64 b.s.x)).setCell (p := ⟨(w.heap.size + 1 + 1), 4, none⟩) (show w.heap.size ≤ (w.heap.size + 1 + 1) by omega) (.int .i64 b.s.y)).setCell (p := ⟨(w.heap.size + 1 + 1), 5, none⟩) (show w.heap.size ≤ (w.heap.size + 1 + 1) by omega) (.int .i64 b.s.z)))
        go_wp2_with fail
        (refine bodyPost_ret (ret_box Try.results76 rfl (ld_box (x := b) HS.out)) rfl ?_)
        exact ⟨by rw [HRR.out]; rfl, HE.out⟩
      | true =>
        have HS := Lib.hid (((((((T.out.o).set 0 (.int .i64 c.b.x)).set 1 (.int .i64 c.b.y)).set 2 (.int .i64 c.b.z)).set 3 (.int .i64 c.s.x)).set 4 (.int .i64 c.s.y)).set 5 (.int .i64 c.s.z))
        have HE := Lib.hid ((((((((T.out.hb).setCell (p := ⟨(w.heap.size + 1 + 1), 0, none⟩) (show w.heap.size ≤ (w.heap.size + 1 + 1) by omega) (.int .i64 c.b.x)).setCell (p := ⟨(w.heap.size + 1 + 1), 1, none⟩) (show w.heap.size ≤ (w.heap.size + 1 + 1) by omega) (.int .i64 c.b.y)).setCell (p := ⟨(w.heap.size + 1 + 1), 2, none⟩) (show w.heap.size ≤ (w.heap.size + 1 + 1) by omega) (.int .i64 c.b.z)).setCell (p := ⟨(w.heap.size + 1 + 1), 3, none⟩) (show w.heap.size ≤ (w.heap.size + 1 + 1) by omega) (.int .i64 c.s.x)).setCell (p := ⟨(w.heap.size + 1 + 1), 4, none⟩) (show w.heap.size ≤ (w.heap.size + 1 + 1) by omega) (.int .i64 c.s.y)).setCell (p := ⟨(w.heap.size + 1 + 1), 5, none⟩) (show w.heap.size ≤ (w.heap.size + 1 + 1) by omega) (.int .i64 c.s.z)))
        go_wp2_with fail
        (refine bodyPost_ret (ret_box Try.results76 rfl (ld_box (x := c) HS.out)) rfl ?_)
        exact ⟨by rw [HRR.out]; rfl, HE.out⟩
set_option maxRecDepth 100000 in set_option maxHeartbeats 4000000 in
theorem ref13_step1 (d : V3) (b : Bx) (back : Int) (bs : Option Addr) (cs : Nat) (ms : List Nat) (w : World) (u v : Int) (c R : Bx) (mb cb : Bool) (hu : u = b.s.y + 1) (h1 : 1 ≤ d.y ∧ d.y ≤ 16) (h2 : 0 ≤ b.b.y ∧ b.b.y < d.y) (h3 : 1 ≤ b.s.y ∧ b.s.y ≤ d.y) (h4 : 0 ≤ back ∧ back ≤ 1)
    (HR : RowKit.Hid (∀ W, Calls Try.prog 92 #[.int .i64 (b.b.y - back), .int .i64 d.y] W fun e w' => e = .returned (.int .i64 v) ∧ w' = W))
    (HT : RowKit.Hid (∀ W, Calls Try.prog 50 #[.agg #[.int .i64 d.x, .int .i64 d.y, .int .i64 d.z], .agg #[.int .i64 b.b.x, .int .i64 v, .int .i64 b.b.z, .int .i64 b.s.x, .int .i64 u, .int .i64 b.s.z]] W (RB W (.agg #[.int .i64 c.b.x, .int .i64 c.b.y, .int .i64 c.b.z, .int .i64 c.s.x, .int .i64 c.s.y, .int .i64 c.s.z]))))
    (HM : RowKit.Hid (∀ W, Calls Try.prog 48 #[.agg #[.int .i64 d.x, .int .i64 d.y, .int .i64 d.z], .agg #[.int .i64 c.b.x, .int .i64 c.b.y, .int .i64 c.b.z, .int .i64 c.s.x, .int .i64 c.s.y, .int .i64 c.s.z]] W (RB W (.bool mb))))
    (HC : RowKit.Hid (mb = true → ∀ W, Below w.heap.size w W → Calls Try.prog 49 #[.agg #[.int .i64 d.x, .int .i64 d.y, .int .i64 d.z], .agg #[.int .i64 c.b.x, .int .i64 c.b.y, .int .i64 c.b.z, .int .i64 c.s.x, .int .i64 c.s.y, .int .i64 c.s.z], .slice bs ms.length cs] W (RB W (.bool cb))))
    (HRR : RowKit.Hid (R = if mb && cb then c else b)) :
    Calls Try.prog 76 #[.agg #[.int .i64 d.x, .int .i64 d.y, .int .i64 d.z], .agg #[.int .i64 b.b.x, .int .i64 b.b.y, .int .i64 b.b.z, .int .i64 b.s.x, .int .i64 b.s.y, .int .i64 b.s.z], .slice bs ms.length cs, .int .i64 1, .int .i64 back] w (RB w (.agg #[.int .i64 R.b.x, .int .i64 R.b.y, .int .i64 R.b.z, .int .i64 R.s.x, .int .i64 R.s.y, .int .i64 R.s.z])) := by
  have e1 : IntKind.i64.wrap (b.s.y + 1) = u := by rw [hu]; exact IntWalk.i64_in _ (by omega)
  have e3 : IntKind.i64.wrap (b.b.y - back) = b.b.y - back := IntWalk.i64_in _ (by omega)
  have e7 : wrap64 (b.s.y + 1) = u := (IntWalk.i64_left _).symm.trans e1
  clear hu h4
  go_enter Try.func76, Try.ntmps76
  go_wp2_with fail
  go_region_with (first | (go_at_call 92; (with_reducible refine (HR.out _).mono ?_); rintro e w3 ⟨rfl, hw3⟩; have hw3 := hw3.symm; subst hw3))
  all_goals
    go_wp2_with fail
    refine (HT.out _).mono ?_
    rintro e w5 ⟨rfl, hb⟩
    have T := Lib.hid ((st_new w d b b.b.x v b.b.z b.s.x u b.s.z).keep hb)
    clear hb
    (have o0 := (T.out.c).cell 0 _ rfl; have o1 := (T.out.c).cell 1 _ rfl; have o2 := (T.out.c).cell 2 _ rfl; have o3 := (T.out.c).cell 3 _ rfl; have o4 := (T.out.c).cell 4 _ rfl; have o5 := (T.out.c).cell 5 _ rfl; have f0 := (T.out.c).frozen 0; have f1 := (T.out.c).frozen 1; have f2 := (T.out.c).frozen 2; have f3 := (T.out.c).frozen 3; have f4 := (T.out.c).frozen 4; have f5 := (T.out.c).frozen 5; have ol := (T.out.c).lt)
    have T := Lib.hid (st_set T.out c)
    (have d0 := (T.out.d).cell 0 _ rfl; have d1 := (T.out.d).cell 1 _ rfl; have d2 := (T.out.d).cell 2 _ rfl; have dl := (T.out.d).lt)
    go_wp2_with fail
    refine (HM.out _).mono ?_
    rintro e w6 ⟨rfl, hb⟩
    have T := Lib.hid (T.out.keep hb)
    clear hb o0 o1 o2 o3 o4 o5 f0 f1 f2 f3 f4 f5 ol d0 d1 d2 dl
    (have g0 := (T.out.c).cell 0 _ rfl; have g1 := (T.out.c).cell 1 _ rfl; have g2 := (T.out.c).cell 2 _ rfl; have g3 := (T.out.c).cell 3 _ rfl; have g4 := (T.out.c).cell 4 _ rfl; have g5 := (T.out.c).cell 5 _ rfl; have gl := (T.out.c).lt)
    (have a0 := (T.out.b).cell 0 _ rfl; have a1 := (T.out.b).cell 1 _ rfl; have a2 := (T.out.b).cell 2 _ rfl; have a3 := (T.out.b).cell 3 _ rfl; have a4 := (T.out.b).cell 4 _ rfl; have a5 := (T.out.b).cell 5 _ rfl; have al := (T.out.b).lt)
    (have d0 := (T.out.d).cell 0 _ rfl; have d1 := (T.out.d).cell 1 _ rfl; have d2 := (T.out.d).cell 2 _ rfl; have dl := (T.out.d).lt)
    (have z0 := (T.out.o).cell 0 _ rfl; have z1 := (T.out.o).cell 1 _ rfl; have z2 := (T.out.o).cell 2 _ rfl; have z3 := (T.out.o).cell 3 _ rfl; have z4 := (T.out.o).cell 4 _ rfl; have z5 := (T.out.o).cell 5 _ rfl; have q0 := (T.out.o).frozen 0; have q1 := (T.out.o).frozen 1; have q2 := (T.out.o).frozen 2; have q3 := (T.out.o).frozen 3; have q4 := (T.out.o).frozen 4; have q5 := (T.out.o).frozen 5; have zl := (T.out.o).lt)
    cases mb with
    | false =>
      have HS := Lib.hid (((((((T.out.o).set 0 (.int .i64 b.b.x)).set 1 (.int .i64 b.b.y)).set 2 (.int .i64 b.b.z)).set 3 (.int .i64 b.s.x)).set 4 (.int .i64 b.s.y)).set 5 (.int .i64 b.s.z))
      have HE := Lib.hid ((((((((T.out.hb).setCell (p := ⟨(w.heap.size + 1 + 1), 0, none⟩) (show w.heap.size ≤ (w.heap.size + 1 + 1) by omega) (.int .i64 b.b.x)).setCell (p := ⟨(w.heap.size + 1 + 1), 1, none⟩) (show w.heap.size ≤ (w.heap.size + 1 + 1) by omega) (.int .i64 b.b.y)).setCell (p := ⟨(w.heap.size + 1 + 1), 2, none⟩) (show w.heap.size ≤ (w.heap.size + 1 + 1) by omega) (.int .i64 b.b.z)).setCell (p := ⟨(w.heap.size + 1 + 1), 3, none⟩) (show w.heap.size ≤ (w.heap.size + 1 + 1) by omega) (.int .i64 b.s.x)).setCell (p := ⟨(w.heap.size + 1 + 1), 4, none⟩) (show w.heap.size ≤ (w.heap.size + 1 + 1) by omega) (.int .i64 b.s.y)).setCell (p := ⟨(w.heap.size + 1 + 1), 5, none⟩) (show w.heap.size ≤ (w.heap.size + 1 + 1) by omega) (.int .i64 b.s.z)))
      go_wp2_with fail
      (refine bodyPost_ret (ret_box Try.results76 rfl (ld_box (x := b) HS.out)) rfl ?_)
      exact ⟨by rw [HRR.out]; rfl, HE.out⟩
    | true =>
      go_wp2_with fail
      refine (HC.out (by first | rfl | trivial) _ T.out.hb).mono ?_
      rintro e w7 ⟨rfl, hb⟩
      have T := Lib.hid (T.out.keep hb)
      clear hb g0 g1 g2 g3 g4 g5 gl a0 a1 a2 a3 a4 a5 al d0 d1 d2 dl z0 z1 z2 z3 z4 z5 q0 q1 q2 q3 q4 q5 zl
      (have g0 := (T.out.c).cell 0 _ rfl; have g1 := (T.out.c).cell 1 _ rfl; have g2 := (T.out.c).cell 2 _ rfl; have g3 := (T.out.c).cell 3 _ rfl; have g4 := (T.out.c).cell 4 _ rfl; have g5 := (T.out.c).cell 5 _ rfl; have gl := (T.out.c).lt)
      (have a0 := (T.out.b).cell 0 _ rfl; have a1 := (T.out.b).cell 1 _ rfl; have a2 := (T.out.b).cell 2 _ rfl; have a3 := (T.out.b).cell 3 _ rfl; have a4 := (T.out.b).cell 4 _ rfl; have a5 := (T.out.b).cell 5 _ rfl; have al := (T.out.b).lt)
      (have z0 := (T.out.o).cell 0 _ rfl; have z1 := (T.out.o).cell 1 _ rfl; have z2 := (T.out.o).cell 2 _ rfl; have z3 := (T.out.o).cell 3 _ rfl; have z4 := (T.out.o).cell 4 _ rfl; have z5 := (T.out.o).cell 5 _ rfl; have q0 := (T.out.o).frozen 0; have q1 := (T.out.o).frozen 1; have q2 := (T.out.o).frozen 2; have q3 := (T.out.o).frozen 3; have q4 := (T.out.o).frozen 4; have q5 := (T.out.o).frozen 5; have zl := (T.out.o).lt)
      cases cb with
      | false =>
        have HS := Lib.hid (((((((T.out.o).set 0 (.int .i64 b.b.x)).set 1 (.int .i64 b.b.y)).set 2 (.int .i64 b.b.z)).set 3 (.int .i64 b.s.x)).set 4 (.int .i64 b.s.y)).set 5 (.int .i64 b.s.z))
        have HE := Lib.hid ((((((((T.out.hb).setCell (p := ⟨(w.heap.size + 1 + 1), 0, none⟩) (show w.heap.size ≤ (w.heap.size + 1 + 1) by omega) (.int .i64 b.b.x)).setCell (p := ⟨(w.heap.size + 1 + 1), 1, none⟩) (show w.heap.size ≤ (w.heap.size + 1 + 1) by omega) (.int .i64 b.b.y)).setCell (p := ⟨(w.heap.size + 1 + 1), 2, none⟩) (show w.heap.size ≤ (w.heap.size + 1 + 1) by omega) (.int .i64 b.b.z)).setCell (p := ⟨(w.heap.size + 1 + 1), 3, none⟩) (show w.heap.size ≤ (w.heap.size + 1 + 1) by omega) (.int .i64 b.s.x)).setCell (p := ⟨(w.heap.size + 1 + 1), 4, none⟩) (show w.heap.size ≤ (w.heap.size + 1 + 1) by omega) (.int .i64 b.s.y)).setCell (p := ⟨(w.heap.size + 1 + 1), 5, none⟩) (show w.heap.size ≤ (w.heap.size + 1 + 1) by omega) (.int .i64 b.s.z)))
        go_wp2_with fail
        (refine bodyPost_ret (ret_box Try.results76 rfl (ld_box (x := b) HS.out)) rfl ?_)
        exact ⟨by rw [HRR.out]; rfl, HE.out⟩
      | true =>
        have HS := Lib.hid (((((((T.out.o).set 0 (.int .i64 c.b.x)).set 1 (.int .i64 c.b.y)).set 2 (.int .i64 c.b.z)).set 3 (.int .i64 c.s.x)).set 4 (.int .i64 c.s.y)).set 5 (.int .i64 c.s.z))
        have HE := Lib.hid ((((((((T.out.hb).setCell (p := ⟨(w.heap.size + 1 + 1), 0, none⟩) (show w.heap.size ≤ (w.heap.size + 1 + 1) by omega) (.int .i64 c.b.x)).setCell (p := ⟨(w.heap.size + 1 + 1), 1, none⟩) (show w.heap.size ≤ (w.heap.size + 1 + 1) by omega) (.int .i64 c.b.y)).setCell (p := ⟨(w.heap.size + 1 + 1), 2, none⟩) (show w.heap.size ≤ (w.heap.size + 1 + 1) by omega) (.int .i64 c.b.z)).setCell (p := ⟨(w.heap.size + 1 + 1), 3, none⟩) (show w.heap.size ≤ (w.heap.size + 1 + 1) by omega) (.int .i64 c.s.x)).setCell (p := ⟨(w.heap.size + 1 + 1), 4, none⟩) (show w.heap.size ≤ (w.heap.size + 1 + 1) by omega) (.int .i64 c.s.y)).setCell (p := ⟨(w.heap.size + 1 + 1), 5, none⟩) (show w.heap.size ≤ (w.heap.size + 1 + 1) by omega) (.int .i64 c.s.z)))
        go_wp2_with fail
        (refine bodyPost_ret (ret_box Try.results76 rfl (ld_box (x := c) HS.out)) rfl ?_)
        exact ⟨by rw [HRR.out]; rfl, HE.out⟩
set_option maxRecDepth 100000 in set_option maxHeartbeats 4000000 in
theorem ref13_step2 (d : V3) (b : Bx) (back : Int) (bs : Option Addr) (cs : Nat) (ms : List Nat) (w : World) (u v : Int) (c R : Bx) (mb cb : Bool) (hu : u = b.s.z + 1) (h1 : 1 ≤ d.z ∧ d.z ≤ 16) (h2 : 0 ≤ b.b.z ∧ b.b.z < d.z) (h3 : 1 ≤ b.s.z ∧ b.s.z ≤ d.z) (h4 : 0 ≤ back ∧ back ≤ 1)
    (HR : RowKit.Hid (∀ W, Calls Try.prog 92 #[.int .i64 (b.b.z - back), .int .i64 d.z] W fun e w' => e = .returned (.int .i64 v) ∧ w' = W))
    (HT : RowKit.Hid (∀ W, Calls Try.prog 50 #[.agg #[.int .i64 d.x, .int .i64 d.y, .int .i64 d.z], .agg #[.int .i64 b.b.x, .int .i64 b.b.y, .int .i64 v, .int .i64 b.s.x, .int .i64 b.s.y, .int .i64 u]] W (RB W (.agg #[.int .i64 c.b.x, .int .i64 c.b.y, .int .i64 c.b.z, .int .i64 c.s.x, .int .i64 c.s.y, .int .i64 c.s.z]))))
    (HM : RowKit.Hid (∀ W, Calls Try.prog 48 #[.agg #[.int .i64 d.x, .int .i64 d.y, .int .i64 d.z], .agg #[.int .i64 c.b.x, .int .i64 c.b.y, .int .i64 c.b.z, .int .i64 c.s.x, .int .i64 c.s.y, .int .i64 c.s.z]] W (RB W (.bool mb))))
    (HC : RowKit.Hid (mb = true → ∀ W, Below w.heap.size w W → Calls Try.prog 49 #[.agg #[.int .i64 d.x, .int .i64 d.y, .int .i64 d.z], .agg #[.int .i64 c.b.x, .int .i64 c.b.y, .int .i64 c.b.z, .int .i64 c.s.x, .int .i64 c.s.y, .int .i64 c.s.z], .slice bs ms.length cs] W (RB W (.bool cb))))
    (HRR : RowKit.Hid (R = if mb && cb then c else b)) :
    Calls Try.prog 76 #[.agg #[.int .i64 d.x, .int .i64 d.y, .int .i64 d.z], .agg #[.int .i64 b.b.x, .int .i64 b.b.y, .int .i64 b.b.z, .int .i64 b.s.x, .int .i64 b.s.y, .int .i64 b.s.z], .slice bs ms.length cs, .int .i64 2, .int .i64 back] w (RB w (.agg #[.int .i64 R.b.x, .int .i64 R.b.y, .int .i64 R.b.z, .int .i64 R.s.x, .int .i64 R.s.y, .int .i64 R.s.z])) := by
  have e1 : IntKind.i64.wrap (b.s.z + 1) = u := by rw [hu]; exact IntWalk.i64_in _ (by omega)
  have e3 : IntKind.i64.wrap (b.b.z - back) = b.b.z - back := IntWalk.i64_in _ (by omega)
  have e7 : wrap64 (b.s.z + 1) = u := (IntWalk.i64_left _).symm.trans e1
  clear hu h4
  go_enter Try.func76, Try.ntmps76
  go_wp2_with fail
  go_region_with (first | (go_at_call 92; (with_reducible refine (HR.out _).mono ?_); rintro e w3 ⟨rfl, hw3⟩; have hw3 := hw3.symm; subst hw3))
  all_goals
    go_wp2_with fail
    refine (HT.out _).mono ?_
    rintro e w5 ⟨rfl, hb⟩
    have T := Lib.hid ((st_new w d b b.b.x b.b.y v b.s.x b.s.y u).keep hb)
    clear hb
    (have o0 := (T.out.c).cell 0 _ rfl; have o1 := (T.out.c).cell 1 _ rfl; have o2 := (T.out.c).cell 2 _ rfl; have o3 := (T.out.c).cell 3 _ rfl; have o4 := (T.out.c).cell 4 _ rfl; have o5 := (T.out.c).cell 5 _ rfl; have f0 := (T.out.c).frozen 0; have f1 := (T.out.c).frozen 1; have f2 := (T.out.c).frozen 2; have f3 := (T.out.c).frozen 3; have f4 := (T.out.c).frozen 4; have f5 := (T.out.c).frozen 5; have ol := (T.out.c).lt)
    have T := Lib.hid (st_set T.out c)
    (have d0 := (T.out.d).cell 0 _ rfl; have d1 := (T.out.d).cell 1 _ rfl; have d2 := (T.out.d).cell 2 _ rfl; have dl := (T.out.d).lt)
    go_wp2_with fail
    refine (HM.out _).mono ?_
    rintro e w6 ⟨rfl, hb⟩
    have T := Lib.hid (T.out.keep hb)
    clear hb o0 o1 o2 o3 o4 o5 f0 f1 f2 f3 f4 f5 ol d0 d1 d2 dl
    (have g0 := (T.out.c).cell 0 _ rfl; have g1 := (T.out.c).cell 1 _ rfl; have g2 := (T.out.c).cell 2 _ rfl; have g3 := (T.out.c).cell 3 _ rfl; have g4 := (T.out.c).cell 4 _ rfl; have g5 := (T.out.c).cell 5 _ rfl; have gl := (T.out.c).lt)
    (have a0 := (T.out.b).cell 0 _ rfl; have a1 := (T.out.b).cell 1 _ rfl; have a2 := (T.out.b).cell 2 _ rfl; have a3 := (T.out.b).cell 3 _ rfl; have a4 := (T.out.b).cell 4 _ rfl; have a5 := (T.out.b).cell 5 _ rfl; have al := (T.out.b).lt)
    (have d0 := (T.out.d).cell 0 _ rfl; have d1 := (T.out.d).cell 1 _ rfl; have d2 := (T.out.d).cell 2 _ rfl; have dl := (T.out.d).lt)
    (have z0 := (T.out.o).cell 0 _ rfl; have z1 := (T.out.o).cell 1 _ rfl; have z2 := (T.out.o).cell 2 _ rfl; have z3 := (T.out.o).cell 3 _ rfl; have z4 := (T.out.o).cell 4 _ rfl; have z5 := (T.out.o).cell 5 _ rfl; have q0 := (T.out.o).frozen 0; have q1 := (T.out.o).frozen 1; have q2 := (T.out.o).frozen 2; have q3 := (T.out.o).frozen 3; have q4 := (T.out.o).frozen 4; have q5 := (T.out.o).frozen 5; have zl := (T.out.o).lt)
    cases mb with
    | false =>
      have HS := Lib.hid (((((((T.out.o).set 0 (.int .i64 b.b.x)).set 1 (.int .i64 b.b.y)).set 2 (.int .i64 b.b.z)).set 3 (.int .i64 b.s.x)).set 4 (.int .i64 b.s.y)).set 5 (.int .i64 b.s.z))
      have HE := Lib.hid ((((((((T.out.hb).setCell (p := ⟨(w.heap.size + 1 + 1), 0, none⟩) (show w.heap.size ≤ (w.heap.size + 1 + 1) by omega) (.int .i64 b.b.x)).setCell (p := ⟨(w.heap.size + 1 + 1), 1, none⟩) (show w.heap.size ≤ (w.heap.size + 1 + 1) by omega) (.int .i64 b.b.y)).setCell (p := ⟨(w.heap.size + 1 + 1), 2, none⟩) (show w.heap.size ≤ (w.heap.size + 1 + 1) by omega) (.int .i64 b.b.z)).setCell (p := ⟨(w.heap.size + 1 + 1), 3, none⟩) (show w.heap.size ≤ (w.heap.size + 1 + 1) by omega) (.int .i64 b.s.x)).setCell (p := ⟨(w.heap.size + 1 + 1), 4, none⟩) (show w.heap.size ≤ (w.heap.size + 1 + 1) by omega) (.int .i64 b.s.y)).setCell (p := ⟨(w.heap.size + 1 + 1), 5, none⟩) (show w.heap.size ≤ (w.heap.size + 1 + 1) by omega) (.int .i64 b.s.z)))
      go_wp2_with fail
      (refine bodyPost_ret (ret_box Try.results76 rfl (ld_box (x := b) HS.out)) rfl ?_)
      exact ⟨by rw [HRR.out]; rfl, HE.out⟩
    | true =>
      go_wp2_with fail
      refine (HC.out (by first | rfl | trivial) _ T.out.hb).mono ?_
      rintro e w7 ⟨rfl, hb⟩
      have T := Lib.hid (T.out.keep hb)
      clear hb g0 g1 g2 g3 g4 g5 gl a0 a1 a2 a3 a4 a5 al d0 d1 d2 dl z0 z1 z2 z3 z4 z5 q0 q1 q2 q3 q4 q5 zl
      (have g0 := (T.out.c).cell 0 _ rfl; have g1 := (T.out.c).cell 1 _ rfl; have g2 := (T.out.c).cell 2 _ rfl; have g3 := (T.out.c).cell 3 _ rfl; have g4 := (T.out.c).cell 4 _ rfl; have g5 := (T.out.c).cell 5 _ rfl; have gl := (T.out.c).lt)
      (have a0 := (T.out.b).cell 0 _ rfl; have a1 := (T.out.b).cell 1 _ rfl; have a2 := (T.out.b).cell 2 _ rfl; have a3 := (T.out.b).cell 3 _ rfl; have a4 := (T.out.b).cell 4 _ rfl; have a5 := (T.out.b).cell 5 _ rfl; have al := (T.out.b).lt)
      (have z0 := (T.out.o).cell 0 _ rfl; have z1 := (T.out.o).cell 1 _ rfl; have z2 := (T.out.o).cell 2 _ rfl; have z3 := (T.out.o).cell 3 _ rfl; have z4 := (T.out.o).cell 4 _ rfl; have z5 := (T.out.o).cell 5 _ rfl; have q0 := (T.out.o).frozen 0; have q1 := (T.out.o).frozen 1; have q2 := (T.out.o).frozen 2; have q3 := (T.out.o).frozen 3; have q4 := (T.out.o).frozen 4; have q5 := (T.out.o).frozen 5; have zl := (T.out.o).lt)
      cases cb with
      | false =>
        have HS := Lib.hid (((((((T.out.o).set 0 (.int .i64 b.b.x)).set 1 (.int .i64 b.b.y)).set 2 (.int .i64 b.b.z)).set 3 (.int .i64 b.s.x)).set 4 (.int .i64 b.s.y)).set 5 (.int .i64 b.s.z))
        have HE := Lib.hid ((((((((T.out.hb).setCell (p := ⟨(w.heap.size + 1 + 1), 0, none⟩) (show w.heap.size ≤ (w.heap.size + 1 + 1) by omega) (.int .i64 b.b.x)).setCell (p := ⟨(w.heap.size + 1 + 1), 1, none⟩) (show w.heap.size ≤ (w.heap.size + 1 + 1) by omega) (.int .i64 b.b.y)).setCell (p := ⟨(w.heap.size + 1 + 1), 2, none⟩) (show w.heap.size ≤ (w.heap.size + 1 + 1) by omega) (.int .i64 b.b.z)).setCell (p := ⟨(w.heap.size + 1 + 1), 3, none⟩) (show w.heap.size ≤ (w.heap.size + 1 + 1) by omega) (.int .i64 b.s.x)).setCell (p := ⟨(w.heap.size + 1 + 1), 4, none⟩) (show w.heap.size ≤ (w.heap.size + 1 + 1) by omega) (.int .i64 b.s.y)).setCell (p := ⟨(w.heap.size + 1 + 1), 5, none⟩) (show w.heap.size ≤ (w.heap.size + 1 + 1) by omega) (.int .i64 b.s.z)))
        go_wp2_with fail
        (refine bodyPost_ret (ret_box Try.results76 rfl (ld_box (x := b) HS.out)) rfl ?_)
        exact ⟨by rw [HRR.out]; rfl, HE.out⟩
      | true =>
        have HS := Lib.hid (((((((T.out.o).set 0 (.int .i64 c.b.x)).set 1 (.int .i64 c.b.y)).set 2 (.int .i64 c.b.z)).set 3 (.int .i64 c.s.x)).set 4 (.int .i64 c.s.y)).set 5 (.int .i64 c.s.z))
        have HE := Lib.hid ((((((((T.out.hb).setCell (p := ⟨(w.heap.size + 1 + 1), 0, none⟩) (show w.heap.size ≤ (w.heap.size + 1 + 1) by omega) (.int .i64 c.b.x)).setCell (p := ⟨(w.heap.size + 1 + 1), 1, none⟩) (show w.heap.size ≤ (w.heap.size + 1 + 1) by omega) (.int .i64 c.b.y)).setCell (p := ⟨(w.heap.size + 1 + 1), 2, none⟩) (show w.heap.size ≤ (w.heap.size + 1 + 1) by omega) (.int .i64 c.b.z)).setCell (p := ⟨(w.heap.size + 1 + 1), 3, none⟩) (show w.heap.size ≤ (w.heap.size + 1 + 1) by omega) (.int .i64 c.s.x)).setCell (p := ⟨(w.heap.size + 1 + 1), 4, none⟩) (show w.heap.size ≤ (w.heap.size + 1 + 1) by omega) (.int .i64 c.s.y)).setCell (p := ⟨(w.heap.size + 1 + 1), 5, none⟩) (show w.heap.size ≤ (w.heap.size + 1 + 1) by omega) (.int .i64 c.s.z)))
        go_wp2_with fail
        (refine bodyPost_ret (ret_box Try.results76 rfl (ld_box (x := c) HS.out)) rfl ?_)
        exact ⟨by rw [HRR.out]; rfl, HE.out⟩
/-- One step of the document's. -/
theorem ref13_step (d : V3) (b : Bx) (k : Nat) (back : Int) (bs : Option Addr) (cs : Nat) (ms : List Nat) (w : World) (hd : d.may) (hb : b.may d) (hk : k < 3) (h4 : back = 0 ∨ back = 1) (hs : SetIn w bs ms) :
    Calls Try.prog 76 #[.agg #[.int .i64 d.x, .int .i64 d.y, .int .i64 d.z], .agg #[.int .i64 b.b.x, .int .i64 b.b.y, .int .i64 b.b.z, .int .i64 b.s.x, .int .i64 b.s.y, .int .i64 b.s.z], .slice bs ms.length cs, .int .i64 k, .int .i64 back] w (RB w (.agg #[.int .i64 (stepR d ms b k back).b.x, .int .i64 (stepR d ms b k back).b.y, .int .i64 (stepR d ms b k back).b.z, .int .i64 (stepR d ms b k back).s.x, .int .i64 (stepR d ms b k back).s.y, .int .i64 (stepR d ms b k back).s.z])) := by
  have HT := fun W => ref02_Told d (b.stepG d k back) W
  have HM := fun W => ref02_May d ((b.stepG d k back).can d) W
  have HC := fun (h : decide (((b.stepG d k back).can d).may d) = true) W (hW : Below w.heap.size w W) => ref13_Clear d ((b.stepG d k back).can d) bs cs ms W hd (of_decide_eq_true h) (hs.keep hW)
  have HRR : stepR d ms b k back = if decide (((b.stepG d k back).can d).may d) && clearS d ms ((b.stepG d k back).can d) then (b.stepG d k back).can d else b := by
    unfold stepR okStep
    rw [decide_eq_decide.2 (step_can_may hb hk h4)]
  obtain ⟨⟨sx, bx⟩, ⟨sy, by'⟩, ⟨sz, bz⟩⟩ := hb
  obtain ⟨hx, hy, hz⟩ := hd
  have h5 : 0 ≤ back ∧ back ≤ 1 := by rcases h4 with rfl | rfl <;> decide
  match k, hk with
  | 0, _ => exact ref13_step0 d b back bs cs ms w _ _ _ _ _ _ rfl hx bx sx h5 (Lib.hid (fun W => ref01_RoundB b.b.x d.x back W bx hx.2 h4)) (Lib.hid HT) (Lib.hid HM) (Lib.hid HC) (Lib.hid HRR)
  | 1, _ => exact ref13_step1 d b back bs cs ms w _ _ _ _ _ _ rfl hy by' sy h5 (Lib.hid (fun W => ref01_RoundB b.b.y d.y back W by' hy.2 h4)) (Lib.hid HT) (Lib.hid HM) (Lib.hid HC) (Lib.hid HRR)
  | 2, _ => exact ref13_step2 d b back bs cs ms w _ _ _ _ _ _ rfl hz bz sz h5 (Lib.hid (fun W => ref01_RoundB b.b.z d.z back W bz hz.2 h4)) (Lib.hid HT) (Lib.hid HM) (Lib.hid HC) (Lib.hid HRR)
end
end Go.Proofs.Ytofoenlhbmammaa
