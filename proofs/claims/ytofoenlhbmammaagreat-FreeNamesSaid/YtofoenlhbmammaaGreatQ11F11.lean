/- CAL: calendars of the call's own; Next whole; spans of a length; the chapter's C; the chapter's first examples. -/
import Derived.Laws.StructEq
import Derived.ChangeKeysEq
import Derived.Test.YtofoenlhbmammaaGreatQ0CalAF11
import Derived.Test.YtofoenlhbmammaaGreatQ0RefPutF11
set_option linter.unusedVariables false
set_option linter.unusedSimpArgs false
namespace Go.Proofs.YtofoenlhbmammaaGreat

section
open Go.RowKit Go.Shelf

set_option maxRecDepth 100000 in set_option maxHeartbeats 4000000 in
theorem run_equal_slot (x y : Sl) (w : World) : (Op.equalIn 10000 68 (.agg #[.int .i64 x.f, .int .i64 x.t, .int .i64 x.o]) (.agg #[.int .i64 y.f, .int .i64 y.t, .int .i64 y.o])).run Tryz.prog w = .ok (decide (x = y)) w := by
  have u3 := Tryz.underlying3
  have a3 := Tryz.isAgg3
  have z3 := Tryz.sizeOf3
  have a4 := Tryz.isAgg35
  have z4 := Tryz.sizeOf35
  have hS : Tryz.prog.underlying 68 = some (.struct (Tryz.prog.fieldsOf 68)) := by kernel_rfl
  have hp : Tryz.prog.stoodInHeld 68 = false := by kernel_rfl
  have hS2 : Tryz.prog.underlying 35 = some (.struct (Tryz.prog.fieldsOf 35)) := by kernel_rfl
  have hp2 : Tryz.prog.stoodInHeld 35 = false := by kernel_rfl
  have hin : ∀ (f t g u : Int) (w : World), (Op.equalIn 9999 35 (.agg #[.int .i64 f, .int .i64 t]) (.agg #[.int .i64 g, .int .i64 u])).run Tryz.prog w = .ok (decide (f = g ∧ t = u)) w := by
    intro f t g u w
    rw [show (9999 : Nat) = 9998 + 1 from rfl, run_equalIn_agg w 9998 35 _ _ hS2 hp2]
    simp only [Program.fieldsOf, Tryz.underlying35]
    go_simp
    by_cases h1 : f = g <;> by_cases h2 : t = u <;> simp [h1, h2]
  rw [show (10000 : Nat) = 9999 + 1 from rfl, run_equalIn_agg w 9999 68 _ _ hS hp]
  simp only [Program.fieldsOf, Tryz.underlying68]
  go_simp
  obtain ⟨f, t, o⟩ := x
  obtain ⟨g, u, p⟩ := y
  by_cases h1 : f = g <;> by_cases h2 : t = u <;> by_cases h3 : o = p <;> simp [h1, h2, h3]
theorem run_eql_slot (x y : Sl) (w : World) : (binOp .eql 68 (.agg #[.int .i64 x.f, .int .i64 x.t, .int .i64 x.o]) (.agg #[.int .i64 y.f, .int .i64 y.t, .int .i64 y.o])).run Tryz.prog w = .ok (.bool (decide (x = y))) w := by
  rw [run_eql_struct, run_equal_slot]; rfl
theorem run_neq_slot (x y : Sl) (w : World) : (binOp .neq 68 (.agg #[.int .i64 x.f, .int .i64 x.t, .int .i64 x.o]) (.agg #[.int .i64 y.f, .int .i64 y.t, .int .i64 y.o])).run Tryz.prog w = .ok (.bool (!decide (x = y))) w := by
  rw [run_neq_struct, run_equal_slot]; rfl
end

section
open Go.RowKit Go.Shelf

set_option maxRecDepth 100000 in set_option maxHeartbeats 4000000 in
theorem ref08_Same (ba bb : Option Addr) (ca cb : Nat) (a b : List Sl) (w : World) (ha : CIn w ba a) (hb : CIn w bb b) :
    Calls Tryz.prog 79 #[.slice ba a.length ca, .slice bb b.length cb] w (RB w (.bool (decide (a = b)))) := by
  have HA := Lib.hid ha
  have HB := Lib.hid hb
  have hla := ha.len
  have hlb := hb.len
  have hgd : Tryz.prog.eqGuardType Tryz.prog.depth 68 = false := by kernel_rfl
  clear ha hb
  by_cases hl : a.length = b.length
  · have HL := Lib.hid hl
    have HX := Lib.hid (fun h => List.ext_getElem (l₁ := a) (l₂ := b) hl h)
    have hll : (a.length == b.length) = true := by simpa using hl
    have hln : (a.length != b.length) = false := by simpa using hl
    clear hl
    go_enter Tryz.func79, Tryz.ntmps79
    go_wp2_with fail
    go_loopw [5] (fun i wr => ∃ k : Nat, k ≤ a.length ∧ i = .int .i64 k ∧ (∀ j (h1 : j < a.length) (h2 : j < b.length), j < k → a[j] = b[j]) ∧ Below w.heap.size w wr) (fun i _ => a.length - (intOf i).toNat)
    case atStart => exact ⟨0, Nat.zero_le _, rfl, fun j _ _ h => absurd h (by omega), Below.refl _ _⟩
    case round =>
      obtain ⟨k, hk, rfl, hall, hbel⟩ := hrel
      have HW := Lib.hid hbel
      have HF := Lib.hid hall
      clear hbel hall
      by_cases hlt : k < a.length
      · have hlt2 : k < b.length := by have := HL.out; omega
        obtain ⟨b1, o1, rfl, c0, c1, c2, hbl1⟩ := (HA.out.keep HW.out).at hlt
        obtain ⟨b2, o2, rfl, d0, d1, d2, hbl2⟩ := (HB.out.keep HW.out).at hlt2
        have hnx := Lib.hid (fun (h : a[k] = b[k]) (j : Nat) (h1 : j < a.length) (h2 : j < b.length) (hjk : j < k + 1) => show a[j] = b[j] by
          rcases Nat.lt_or_ge j k with h5 | h5
          · exact HF.out j h1 h2 h5
          · have : j = k := by omega
            subst this; exact h)
        have hno := Lib.hid (fun (h : a[k] ≠ b[k]) => show decide (a = b) = false by
          rw [decide_eq_false_iff_not]; intro e; subst e; exact h rfl)
        obtain ⟨x, hx⟩ : ∃ x, x = a[k] := ⟨_, rfl⟩
        obtain ⟨y, hy⟩ : ∃ y, y = b[k] := ⟨_, rfl⟩
        rw [← hx] at c0 c1 c2 hnx hno
        rw [← hy] at d0 d1 d2 hnx hno
        clear hx hy
        by_cases hr : x = y
        · have heq : ∀ w, (binOp .neq 68 (.agg #[.int .i64 x.f, .int .i64 x.t, .int .i64 x.o]) (.agg #[.int .i64 y.f, .int .i64 y.t, .int .i64 y.o])).run Tryz.prog w = .ok (.bool false) w := fun w => by rw [run_neq_slot, decide_eq_true hr]; rfl
          have hyes := Lib.hid (hnx.out hr)
          clear hnx hno hr
          go_wp2_with (refine wp_region_quiet_lit (by kernel_rfl) (by kernel_rfl) ?_; (repeat (any_goals (first | go_big_quiet_step (fail) | quiet_step (fail) | (refine wpQuiet_step (fun K hK => ?_); go_simp; split <;> (refine hK _ ?_; clear hK K))))); all_goals (refine wpQuiet_nil ?_; intro _ hw'; obtain ⟨nq, hw''⟩ := hw'; subst hw''))
          all_goals
            go_roundw
            case rel => exact ⟨k + 1, by omega, by go_num, hyes.out, by first | exact HW.out | exact below_drewN HW.out _⟩
            case measure => (simp [intOf] <;> omega)
        · have heq : ∀ w, (binOp .neq 68 (.agg #[.int .i64 x.f, .int .i64 x.t, .int .i64 x.o]) (.agg #[.int .i64 y.f, .int .i64 y.t, .int .i64 y.o])).run Tryz.prog w = .ok (.bool true) w := fun w => by rw [run_neq_slot, decide_eq_false hr]; rfl
          have hyes := Lib.hid (hno.out hr)
          clear hnx hno hr
          go_wp2_with (refine wp_region_quiet_lit (by kernel_rfl) (by kernel_rfl) ?_; (repeat (any_goals (first | go_big_quiet_step (fail) | quiet_step (fail) | (refine wpQuiet_step (fun K hK => ?_); go_simp; split <;> (refine hK _ ?_; clear hK K))))); all_goals (refine wpQuiet_nil ?_; intro _ hw'; obtain ⟨nq, hw''⟩ := hw'; subst hw''))
          all_goals
            go_returns
            exact ⟨by rw [hyes.out]; rfl, by first | exact HW.out | exact below_drewN HW.out _⟩
      · obtain rfl : k = a.length := by omega
        have hq := Lib.hid (show decide (a = b) = true by rw [decide_eq_true_iff]; exact HX.out (fun j h1 h2 => HF.out j h1 h2 h1))
        go_wp2_with fail
        go_returns
        exact ⟨by rw [hq.out]; rfl, HW.out⟩
  · have hq := Lib.hid (show decide (a = b) = false by rw [decide_eq_false_iff_not]; intro e; subst e; exact hl rfl)
    have hll : (a.length == b.length) = false := by simpa using hl
    have hln : (a.length != b.length) = true := by simpa using hl
    clear hl
    go_enter Tryz.func79, Tryz.ntmps79
    go_wp2_with fail
    go_returns
    exact ⟨by rw [hq.out]; rfl, by (repeat (first | (with_reducible exact Below.refl _ _) | (with_reducible assumption) | (with_reducible refine below_alloc ?_ _) | (with_reducible refine below_drewN ?_ _) | (with_reducible refine Below.drew ?_) | (with_reducible refine below_then ?_ (by with_reducible assumption)) | (with_reducible refine Below.setCell ?_ (by go_size) _)))⟩
end

section
open Go.RowKit Go.Shelf

/-- A calendar's slice, whole. -/
structure CS (W : World) (v : Value) (c : List Sl) : Prop where
  ex : ∃ base cap, v = .slice base c.length cap ∧ CIn W base c ∧ c.length ≤ cap ∧ (base = none → cap = 0)
theorem CS.keep {w W : World} {v : Value} {c : List Sl} (h : CS w v c) (hb : Below w.heap.size w W) : CS W v c := by
  obtain ⟨base, cap, e, h1, h2⟩ := h.ex
  exact ⟨base, cap, e, h1.keep hb, h2⟩
theorem cal_of_own {W : World} {B : Nat} {v : Value} {c : List Sl} (h : W.ownsRow B 68 3 v c.length (slc c)) (hl : c.length ≤ 1000000) : CS W v c := by
  have h' := h
  rcases h.2 with ⟨rfl, hz⟩ | ⟨g, cap, cur, rfl, _⟩
  · obtain ⟨base, cap, e, rd, hc⟩ := own_rd h'
    obtain rfl : c = [] := List.eq_nil_of_length_eq_zero hz
    cases e
    exact ⟨none, 0, rfl, ⟨rd, hl⟩, Nat.le_refl _, fun _ => rfl⟩
  · obtain ⟨base, cap', e, rd, hc⟩ := own_rd h'
    cases e
    exact ⟨_, cap, rfl, ⟨rd, hl⟩, hc, fun h => by cases h⟩
theorem CS.mk1 {W : World} {ba : Option Addr} {c : List Sl} {ca : Nat} (hr : CIn W ba c) (hca : c.length ≤ ca) (hna : ba = none → c.length = 0 ∧ ca = 0) : CS W (.slice ba c.length ca) c := ⟨ba, ca, rfl, hr, hca, fun h => (hna h).2⟩

/-! ### every function at a calendar's slice -/
section
variable {w : World} {v u : Value} {c d : List Sl} (h : CS w v c) (hd : CS w u d)
include h
theorem s_Put (s : Sl) : Calls Tryz.prog 80 #[v, .agg #[.int .i64 s.f, .int .i64 s.t, .int .i64 s.o]] w (RSE w (putV c s) (putE c s)) := by
  obtain ⟨base, cap, rfl, h1, h2, h3⟩ := h.ex
  exact cal_Put base cap c s w h1 (fun e => by have := h3 e; omega)
theorem s_Check : Calls Tryz.prog 72 #[v] w (RB w (.int .i64 (calE c))) := by
  obtain ⟨base, cap, rfl, h1, h2, h3⟩ := h.ex
  exact cal_Check base cap c w h1
theorem s_Free (f t : Int) : Calls Tryz.prog 54 #[v, .agg #[.int .i64 f, .int .i64 t]] w (RB w (.tuple #[.bool (freeV c f t), .int .i64 (freeE c f t)])) := by
  obtain ⟨base, cap, rfl, h1, h2, h3⟩ := h.ex
  exact cal_Free base cap c f t w h1
include hd
theorem s_Same : Calls Tryz.prog 79 #[v, u] w (RB w (.bool (decide (c = d)))) := by
  obtain ⟨base, cap, rfl, h1, h2, h3⟩ := h.ex
  obtain ⟨base', cap', rfl, h1', h2', h3'⟩ := hd.ex
  exact ref08_Same base base' cap cap' c d w h1 h1'
end
theorem putV_len (c : List Sl) (s : Sl) : (putV c s).length ≤ c.length + 1 := by
  unfold putV
  split
  · rw [putL_len]; exact Nat.le_refl _
  · exact Nat.zero_le _
theorem cutV_len (ow tm : Int) (c : List Sl) : (cutV ow tm c).length ≤ c.length := by
  unfold cutV
  split
  · exact cutL_len ow tm c
  · exact Nat.zero_le _

/-! ### spans of a length -/
def plusT (a b : Int) : Int := min (min (max a 0) 1099511627776 + min (max b 0) 1099511627776) 1099511627776
end
end Go.Proofs.YtofoenlhbmammaaGreat
