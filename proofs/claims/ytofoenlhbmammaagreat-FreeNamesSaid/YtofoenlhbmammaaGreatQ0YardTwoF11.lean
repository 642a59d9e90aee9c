/- YARDS: the chapter's calendars, and first examples. -/
import Derived.BigRegion
import Derived.Test.YtofoenlhbmammaaGreatQ12F11
import Derived.Test.YtofoenlhbmammaaGreatQ0YardXF11
set_option linter.unusedVariables false
set_option linter.unusedSimpArgs false
namespace Go.Proofs.YtofoenlhbmammaaGreat

section
section
open Go.RowKit Go.Shelf

theorem putE_ok_len {c : List Sl} {s : Sl} (h : putE c s = 0) : (putV c s).length ≤ 10000 := by
  have h1 := (putE_0 h).2.2.2
  have h2 := putV_len c s
  omega
/-- New calendars, as they may be read, and an error. -/
def RYS (w : World) (y : Yd) (x : Int) : Ending → World → Prop := fun e w' => ∃ v, e = .returned (.tuple #[v, .int .i64 x]) ∧ YS w' v y ∧ Below w.heap.size w w'
theorem RYS.of {P : Program} {f : FuncId} {args : Array Value} {w : World} {y : Yd} {x : Int} (h : Calls P f args w (RYE w y x)) (h1 : (y.ns.length ≤ 1000 ∧ ∀ c ∈ y.ns, c.length ≤ 10000) ∧ (y.ls.length ≤ 1000 ∧ ∀ c ∈ y.ls, c.length ≤ 10000)) : Calls P f args w (RYS w y x) :=
  h.mono fun e w' ⟨u, v, he, hu, hv, hb⟩ => by
    obtain ⟨b1, k1, rfl, _, g1⟩ := hu.cc h1.1.1 h1.1.2
    obtain ⟨b2, k2, rfl, _, g2⟩ := hv.cc h1.2.1 h1.2.2
    exact ⟨_, he, ⟨b1, b2, k1, k2, rfl, g1, g2⟩, hb⟩
theorem YS.smalls {w : World} {v : Value} {y : Yd} (h : YS w v y) : (y.ns.length ≤ 1000 ∧ ∀ c ∈ y.ns, c.length ≤ 10000) ∧ (y.ls.length ≤ 1000 ∧ ∀ c ∈ y.ls, c.length ≤ 10000) := by
  obtain ⟨bn, bl, cn, cl, e, h1, h2⟩ := h.ex
  exact ⟨⟨h1.many, h1.small⟩, ⟨h2.many, h2.small⟩⟩
theorem y_Put {w : World} {v a b : Value} {y : Yd} {ms ks : List Nat} (s : Sl) (h : YS w v y) (ha : SS w a ms) (hb : SS w b ks) : Calls Tryz.prog 45 #[v, .int .i64 s.o, a, b, .agg #[.int .i64 s.f, .int .i64 s.t]] w (RYE w (yPutV y ms ks s) (yPutE y ms ks s)) := by
  obtain ⟨bn, bl, cn, cl, rfl, h1, h2⟩ := h.ex
  obtain ⟨bm, cm, rfl, hm⟩ := ha.ex
  obtain ⟨bk, ck, rfl, hk⟩ := hb.ex
  cases hok : y.okB with
  | true => exact cals_Put_go y.d bn bl cn cl y.ns y.ls bm bk cm ck ms ks s w h1 h2 hm hk hok
  | false =>
    have hE : yPutE y ms ks s = 8 := by unfold yPutE; rw [hok]; rfl
    have hV : yPutV y ms ks s = Yd.zero := by unfold yPutV; rw [hE]; rfl
    rw [hE, hV]
    exact cals_Put_bad y.d bn bl cn cl y.ns y.ls bm bk cm ck ms ks s w h1 h2 hok
theorem SS.new1 (W : World) (t : TypeId) (x : Nat) (h : x < 18446744073709551616) : SS (W.alloc (.cells #[.int .u64 (x : Int)] t)) (.slice (some ⟨W.heap.size, 0, none⟩) 1 1) [x] := by
  refine ⟨_, 1, rfl, ⟨fun i v hv => ⟨W.heap.size, 0, rfl, ?_⟩, by simp, fun y hy => by simp at hy; omega⟩⟩
  match i, hv with
  | 0, hv =>
    rw [World.cell?_alloc_new]
    simpa [wcells] using hv
  | i + 1, hv => simp [wcells] at hv
/-! ### the chapter's calendars -/
def twoY : Yd := ⟨⟨2, 1, 1⟩, [[⟨0, 3, 5⟩], []], [[⟨0, 3, 5⟩], [], [], [], [], []]⟩
theorem ex_new : newV ⟨2, 1, 1⟩ = ⟨⟨2, 1, 1⟩, [[], []], [[], [], [], [], [], []]⟩ := by kernel_rfl
theorem ex_newE : V3.err ⟨2, 1, 1⟩ = 0 := by kernel_rfl
theorem ex_putE : yPutE ⟨⟨2, 1, 1⟩, [[], []], [[], [], [], [], [], []]⟩ [1] [1] ⟨0, 3, 5⟩ = 0 := by kernel_rfl
theorem ex_putV : yPutV ⟨⟨2, 1, 1⟩, [[], []], [[], [], [], [], [], []]⟩ [1] [1] ⟨0, 3, 5⟩ = twoY := by kernel_rfl
theorem ex_busy1 : busyV twoY 2 4 = ([1], [1]) ∧ busyE twoY 2 4 = 0 := ⟨by kernel_rfl, by kernel_rfl⟩
theorem ex_busy2 : busyV twoY 3 4 = ([0], [0]) ∧ busyE twoY 3 4 = 0 := ⟨by kernel_rfl, by kernel_rfl⟩
theorem ex_put80 : yPutE twoY [3] [0] ⟨2, 9, 6⟩ = 80 := by kernel_rfl
theorem ex_put8 : yPutE twoY [4] [0] ⟨2, 9, 6⟩ = 8 := by kernel_rfl
theorem ex_put2 : yPutE twoY [0] [0] ⟨2, 9, 0⟩ = 2 := by kernel_rfl
/-- New calendars, as they may be read, and whether all is well. -/
def RYB (w : World) (y : Yd) (x : Bool) : Ending → World → Prop := fun e w' => ∃ v, e = .returned (.tuple #[v, .bool x]) ∧ YS w' v y ∧ Below w.heap.size w w'
end

section
open Go.RowKit Go.Shelf

end
end
end Go.Proofs.YtofoenlhbmammaaGreat
