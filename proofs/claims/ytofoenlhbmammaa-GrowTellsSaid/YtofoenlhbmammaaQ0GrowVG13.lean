/- GROW: a box grown, whole; whether two lists of boxes are the same; the chapter's dimensions, boxes, and which machines are gone through. -/
import Derived.Test.YtofoenlhbmammaaQ0GrowNG13
import Derived.Test.YtofoenlhbmammaaQ0GrowWG13
set_option linter.unusedVariables false
set_option linter.unusedSimpArgs false
namespace Go.Proofs.Ytofoenlhbmammaa

section
open Go.RowKit Go.Shelf

theorem grow_Grown (d : V3) (b : Bx) (bs : Option Addr) (cs : Nat) (ms : List Nat) (w : World) (hs : SetIn w bs ms) : Calls Try.prog 18 #[.agg #[.int .i64 d.x, .int .i64 d.y, .int .i64 d.z], .agg #[.int .i64 b.b.x, .int .i64 b.b.y, .int .i64 b.b.z, .int .i64 b.s.x, .int .i64 b.s.y, .int .i64 b.s.z], .slice bs ms.length cs] w (RB w (.tuple #[.agg #[.int .i64 (gnV d ms b).b.x, .int .i64 (gnV d ms b).b.y, .int .i64 (gnV d ms b).b.z, .int .i64 (gnV d ms b).s.x, .int .i64 (gnV d ms b).s.y, .int .i64 (gnV d ms b).s.z], .int .i64 (gnE d ms b)])) := by
  by_cases hz : growE d ms = 0
  · by_cases hc : chk d b = 0
    · cases hf : clearS d ms b with
      | true =>
        have hE : gnE d ms b = 0 := by unfold gnE; rw [if_pos hz, if_pos hc, hf, if_pos rfl]
        have hV : gnV d ms b = growTo d ms 5000 (b.can d) := if_pos hE
        rw [hE]
        exact grow_Grown_ok d b bs cs ms w _ hs hz hc hf hV.symm
      | false =>
        have hE : gnE d ms b = 80 := by unfold gnE; rw [if_pos hz, if_pos hc, hf, if_neg (by decide)]
        have hV : gnV d ms b = Bx.zero := if_neg (by rw [hE]; decide)
        rw [hE, hV]
        exact grow_Grown_taken d b bs cs ms w hs hz hc hf
    · have hE : gnE d ms b = chk d b := by unfold gnE; rw [if_pos hz, if_neg hc]
      have hV : gnV d ms b = Bx.zero := if_neg (by rw [hE]; exact hc)
      rw [hE, hV]
      exact grow_Grown_arg d b bs cs ms w hs hz hc
  · have hE : gnE d ms b = 8 := by unfold gnE; rw [if_neg hz]; exact (growE_08 d ms).resolve_left hz
    have hV : gnV d ms b = Bx.zero := if_neg (by rw [hE]; decide)
    rw [hE, hV]
    exact grow_Grown_bad d b bs cs ms w hs hz
set_option maxRecDepth 100000 in set_option maxHeartbeats 4000000 in
theorem ref13_Same (ba bb : Option Addr) (ca cb : Nat) (a b : List Bx) (w : World) (ha : XIn w ba a) (hb : XIn w bb b) :
    Calls Try.prog 24 #[.slice ba a.length ca, .slice bb b.length cb] w (RB w (.bool (decide (a = b)))) := by
  have HA := Lib.hid ha
  have HB := Lib.hid hb
  have hla := ha.len
  have hlb := hb.len
  have hgd : Try.prog.eqGuardType Try.prog.depth 27 = false := by kernel_rfl
  clear ha hb
  by_cases hl : a.length = b.length
  · have HL := Lib.hid hl
    have HX := Lib.hid (fun h => List.ext_getElem (l₁ := a) (l₂ := b) hl h)
    have hll : (a.length == b.length) = true := by simpa using hl
    have hln : (a.length != b.length) = false := by simpa using hl
    clear hl
    go_enter Try.func24, Try.ntmps24
    go_wp2_with fail
    go_loopw [5] (fun i wr => ∃ k : Nat, k ≤ a.length ∧ i = .int .i64 k ∧ (∀ j (h1 : j < a.length) (h2 : j < b.length), j < k → a[j] = b[j]) ∧ Below w.heap.size w wr) (fun i _ => a.length - (intOf i).toNat)
    case atStart => exact ⟨0, Nat.zero_le _, rfl, fun j _ _ h => absurd h (by omega), Below.refl _ _⟩
    case round =>
      obtain ⟨k, hk, rfl, hall, hbel⟩ := hrel
      have HW := Lib.hid hbel
      have HF := Lib.hid hall
      clear hbel hall
      by_cases hlt : k < a.length
      · have hlt2 : k < b.length := by have := HL.out; omega
        obtain ⟨b1, o1, rfl, hO1⟩ := (HA.out.keep HW.out).at hlt
        obtain ⟨b2, o2, rfl, hO2⟩ := (HB.out.keep HW.out).at hlt2
        have hnx := Lib.hid (fun (h : a[k] = b[k]) (j : Nat) (h1 : j < a.length) (h2 : j < b.length) (hjk : j < k + 1) => show a[j] = b[j] by
          rcases Nat.lt_or_ge j k with h5 | h5
          · exact HF.out j h1 h2 h5
          · have : j = k := by omega
            subst this; exact h)
        have hno := Lib.hid (fun (h : a[k] ≠ b[k]) => show decide (a = b) = false by
          rw [decide_eq_false_iff_not]; intro e; subst e; exact h rfl)
        obtain ⟨x, hx⟩ : ∃ x, x = a[k] := ⟨_, rfl⟩
        obtain ⟨y, hy⟩ : ∃ y, y = b[k] := ⟨_, rfl⟩
        rw [← hx] at hO1 hnx hno
        rw [← hy] at hO2 hnx hno
        obtain ⟨c0, c1, c2, c3, c4, c5, hbl1⟩ := hO1
        obtain ⟨d0, d1, d2, d3, d4, d5, hbl2⟩ := hO2
        clear hx hy
        by_cases hr : x = y
        · have heq : ∀ w, (binOp .neq 27 (.agg #[.int .i64 x.b.x, .int .i64 x.b.y, .int .i64 x.b.z, .int .i64 x.s.x, .int .i64 x.s.y, .int .i64 x.s.z]) (.agg #[.int .i64 y.b.x, .int .i64 y.b.y, .int .i64 y.b.z, .int .i64 y.s.x, .int .i64 y.s.y, .int .i64 y.s.z])).run Try.prog w = .ok (.bool false) w := fun w => by rw [run_neq_box, decide_eq_true hr]; rfl
          have hyes := Lib.hid (hnx.out hr)
          clear hnx hno hr
          go_wp2_with (refine wp_region_quiet_lit (by kernel_rfl) (by kernel_rfl) ?_; (repeat (any_goals (first | go_big_quiet_step (fail) | quiet_step (fail) | (refine wpQuiet_step (fun K hK => ?_); go_simp; split <;> (refine hK _ ?_; clear hK K))))); all_goals (refine wpQuiet_nil ?_; intro _ hw'; obtain ⟨nq, hw''⟩ := hw'; subst hw''))
          all_goals
            go_roundw
            case rel => exact ⟨k + 1, by omega, by go_num, hyes.out, by first | exact HW.out | exact below_drewN HW.out _⟩
            case measure => (simp [intOf] <;> omega)
        · have heq : ∀ w, (binOp .neq 27 (.agg #[.int .i64 x.b.x, .int .i64 x.b.y, .int .i64 x.b.z, .int .i64 x.s.x, .int .i64 x.s.y, .int .i64 x.s.z]) (.agg #[.int .i64 y.b.x, .int .i64 y.b.y, .int .i64 y.b.z, .int .i64 y.s.x, .int .i64 y.s.y, .int .i64 y.s.z])).run Try.prog w = .ok (.bool true) w := fun w => by rw [run_neq_box, decide_eq_false hr]; rfl
          have hyes := Lib.hid (hno.out hr)
          clear hnx hno hr
          go_wp2_with (refine wp_region_quiet_lit (by kernel_rfl) (by kernel_rfl) ?_; (repeat (any_goals (first | go_big_quiet_step (fail) | quiet_step (fail) | (refine wpQuiet_step (fun K hK => ?_); go_simp; split <;> (refine hK _ ?_; clear hK K))))); all_goals (refine wpQuiet_nil ?_; intro _ hw'; obtain ⟨nq, hw''⟩ := hw'; subst hw''))
          all_goals
            go_returns
            exact ⟨by rw [hyes.out]; rfl, by first | exact HW.out | exact below_drewN HW.out _⟩
      · obtain rfl : k = a.length := by omega
        have hq := Lib.hid (show decide (a = b) = true by rw [decide_eq_true_iff]; exact HX.out (fun j h1 h2 => HF.out j h1 h2 h1))
        go_wp2_with fail
        go_returns
        exact ⟨by rw [hq.out]; rfl, HW.out⟩
  · have hq := Lib.hid (show decide (a = b) = false by rw [decide_eq_false_iff_not]; intro e; subst e; exact hl rfl)
    have hll : (a.length == b.length) = false := by simpa using hl
    have hln : (a.length != b.length) = true := by simpa using hl
    clear hl
    go_enter Try.func24, Try.ntmps24
    go_wp2_with fail
    go_returns
    exact ⟨by rw [hq.out]; rfl, by (repeat (first | (with_reducible exact Below.refl _ _) | (with_reducible assumption) | (with_reducible refine below_alloc ?_ _) | (with_reducible refine below_drewN ?_ _) | (with_reducible refine Below.drew ?_) | (with_reducible refine below_then ?_ (by with_reducible assumption)) | (with_reducible refine Below.setCell ?_ (by go_size) _)))⟩
theorem xs_same {w : World} {u v : Value} {a b : List Bx} (hu : XS w u a) (hv : XS w v b) : Calls Try.prog 24 #[u, v] w (RB w (.bool (decide (a = b)))) := by
  obtain ⟨ba, ca, rfl, h1, _⟩ := hu.ex
  obtain ⟨bb, cb, rfl, h2, _⟩ := hv.ex
  exact ref13_Same ba bb ca cb a b w h1 h2
theorem rd_blk {W : World} {B : Nat} {t : TypeId} {cs : Array Value} {l : List Bx} (h : Blk W B t cs) (e : cs.toList = bxc l) : Rd W (some ⟨B, 0, none⟩) (bxc l) := fun i v hv => by
  rw [← e, Array.getElem?_toList] at hv
  exact ⟨B, 0, rfl, by rw [Nat.zero_add]; exact h.cell i v hv⟩
theorem set_blk {W : World} {B : Nat} {t : TypeId} {x : Nat} (h : Blk W B t #[.int .u64 x]) (hx : x < 2 ^ 64) : SetIn W (some ⟨B, 0, none⟩) [x] :=
  ⟨fun i v hv => ⟨B, 0, rfl, by
    match i, hv with
    | 0, hv => rw [Nat.zero_add]; exact h.cell 0 v (by simpa [wcells] using hv)⟩, by simp, fun y hy => by simp at hy; rw [hy]; exact hx⟩

/-! ### the chapter's -/
set_option maxRecDepth 100000 in set_option maxHeartbeats 4000000 in
theorem law13_line (w : World) : Calls Try.prog 19 #[] w (RB w (.agg #[.int .i64 3, .int .i64 1, .int .i64 1])) := by
  go_enter Try.func19, Try.ntmps19
  go_wp2
  go_returns
  exact ⟨rfl, by (repeat (first | (with_reducible exact Below.refl _ _) | (with_reducible assumption) | (with_reducible refine below_alloc ?_ _) | (with_reducible refine below_drewN ?_ _) | (with_reducible refine Below.drew ?_) | (with_reducible refine below_then ?_ (by with_reducible assumption)) | (with_reducible refine Below.setCell ?_ (by go_size) _)))⟩
set_option maxRecDepth 100000 in set_option maxHeartbeats 4000000 in
theorem law13_of (b s : Int) (w : World) : Calls Try.prog 20 #[.int .i64 b, .int .i64 s] w (RB w (.agg #[.int .i64 b, .int .i64 0, .int .i64 0, .int .i64 s, .int .i64 1, .int .i64 1])) := by
  go_enter Try.func20, Try.ntmps20
  go_wp2
  go_returns
  exact ⟨rfl, by (repeat (first | (with_reducible exact Below.refl _ _) | (with_reducible assumption) | (with_reducible refine below_alloc ?_ _) | (with_reducible refine below_drewN ?_ _) | (with_reducible refine Below.drew ?_) | (with_reducible refine below_then ?_ (by with_reducible assumption)) | (with_reducible refine Below.setCell ?_ (by go_size) _)))⟩
set_option maxRecDepth 100000 in set_option maxHeartbeats 4000000 in
theorem law13_in (d : V3) (a b : Bx) (w : World) : Calls Try.prog 17 #[.agg #[.int .i64 d.x, .int .i64 d.y, .int .i64 d.z], .agg #[.int .i64 a.b.x, .int .i64 a.b.y, .int .i64 a.b.z, .int .i64 a.s.x, .int .i64 a.s.y, .int .i64 a.s.z], .agg #[.int .i64 b.b.x, .int .i64 b.b.y, .int .i64 b.b.z, .int .i64 b.s.x, .int .i64 b.s.y, .int .i64 b.s.z]] w (RB w (.bool (boxWithin d a b))) := by
  have HW := Lib.hid (fun W => box_Within d a b W)
  by_cases hz : chk2 d a b = 0
  · rw [hz] at HW
    generalize boxWithin d a b = r at *
    clear hz
    go_enter Try.func17, Try.ntmps17
    go_wp2_with fail
    refine (HW.out _).mono ?_
    rintro e w1 ⟨rfl, hb1⟩
    have HB := Lib.hid (below_then (show Below w.heap.size w _ by (repeat (first | (with_reducible exact Below.refl _ _) | (with_reducible assumption) | (with_reducible refine below_alloc ?_ _) | (with_reducible refine below_drewN ?_ _) | (with_reducible refine Below.drew ?_) | (with_reducible refine below_then ?_ (by with_reducible assumption)) | (with_reducible refine Below.setCell ?_ (by go_size) _)))) hb1)
    clear hb1
    go_wp2_with fail
    go_returns
    exact ⟨rfl, HB.out⟩
  · have hy : (chk2 d a b == 0) = false := by simpa using hz
    have HN := Lib.hid (boxWithin_no hz)
    generalize boxWithin d a b = r at *
    generalize chk2 d a b = x at *
    clear hz
    go_enter Try.func17, Try.ntmps17
    go_wp2_with fail
    refine (HW.out _).mono ?_
    rintro e w1 ⟨rfl, hb1⟩
    have HB := Lib.hid (below_then (show Below w.heap.size w _ by (repeat (first | (with_reducible exact Below.refl _ _) | (with_reducible assumption) | (with_reducible refine below_alloc ?_ _) | (with_reducible refine below_drewN ?_ _) | (with_reducible refine Below.drew ?_) | (with_reducible refine below_then ?_ (by with_reducible assumption)) | (with_reducible refine Below.setCell ?_ (by go_size) _)))) hb1)
    clear hb1
    go_wp2_with fail
    go_returns
    exact ⟨by rw [HN.out]; rfl, HB.out⟩
def smallB (d : V3) : Bool := if d.may then decide (d.n ≤ 20) || decide (64 < d.n) else true
set_option maxRecDepth 100000 in set_option maxHeartbeats 4000000 in
theorem law13_small (d : V3) (w : World) : Calls Try.prog 9 #[.agg #[.int .i64 d.x, .int .i64 d.y, .int .i64 d.z]] w (RB w (.bool (smallB d))) := by
  by_cases hd : d.may
  · have hS : smallB d = (decide (d.n ≤ 20) || decide (64 < d.n)) := if_pos hd
    have hnl := V3.n_le hd
    obtain ⟨⟨x1, x2⟩, ⟨y1, y2⟩, ⟨z1, z2⟩⟩ := hd
    have hxy : 1 ≤ d.x * d.y := Int.mul_pos (by omega) (by omega)
    have hxy2 : d.x * d.y ≤ 256 := Int.le_trans (Int.mul_le_mul x2 y2 (by omega) (by omega)) (by omega)
    have m1 : IntKind.i64.wrap (d.x * d.y) = d.x * d.y := IntWalk.i64_in _ (by omega)
    have m2 : IntKind.i64.wrap (d.x * d.y * d.z) = d.n := IntWalk.i64_in d.n (by omega)
    have HS := Lib.hid hS
    generalize smallB d = r at *
    clear hS
    by_cases h20 : d.n ≤ 20
    · have q1 : decide (d.n ≤ 20) = true := decide_eq_true h20
      generalize d.n = n at *
      go_enter Try.func9, Try.ntmps9
      go_wp2_with fail
      refine wp_loop_rounds 4 ?_
      go_wp2_with (rw [rounds_succ])
      all_goals
        go_returns
        exact ⟨by rw [HS.out, q1]; rfl, by (repeat (first | (with_reducible exact Below.refl _ _) | (with_reducible assumption) | (with_reducible refine below_alloc ?_ _) | (with_reducible refine below_drewN ?_ _) | (with_reducible refine Below.drew ?_) | (with_reducible refine below_then ?_ (by with_reducible assumption)) | (with_reducible refine Below.setCell ?_ (by go_size) _)))⟩
    · have q1 : decide (d.n ≤ 20) = false := decide_eq_false h20
      generalize d.n = n at *
      go_enter Try.func9, Try.ntmps9
      go_wp2_with fail
      refine wp_loop_rounds 4 ?_
      go_wp2_with (rw [rounds_succ])
      all_goals
        go_returns
        exact ⟨by rw [HS.out, q1]; first | rfl | simp, by (repeat (first | (with_reducible exact Below.refl _ _) | (with_reducible assumption) | (with_reducible refine below_alloc ?_ _) | (with_reducible refine below_drewN ?_ _) | (with_reducible refine Below.drew ?_) | (with_reducible refine below_then ?_ (by with_reducible assumption)) | (with_reducible refine Below.setCell ?_ (by go_size) _)))⟩
  · have hS : smallB d = true := if_neg hd
    rw [hS]
    have hd2 : ¬ (((1 ≤ d.x ∧ d.x ≤ 16) ∧ (1 ≤ d.y ∧ d.y ≤ 16)) ∧ (1 ≤ d.z ∧ d.z ≤ 16)) := fun h => hd ⟨h.1.1, h.1.2, h.2⟩
    have HD := Lib.hid hd2
    clear hS hd hd2
    go_enter Try.func9, Try.ntmps9
    go_wp2_with fail
    refine wp_loop_rounds 4 ?_
    go_wp2_with (rw [rounds_succ])
    all_goals first
      | (go_returns; exact ⟨rfl, by (repeat (first | (with_reducible exact Below.refl _ _) | (with_reducible assumption) | (with_reducible refine below_alloc ?_ _) | (with_reducible refine below_drewN ?_ _) | (with_reducible refine Below.drew ?_) | (with_reducible refine below_then ?_ (by with_reducible assumption)) | (with_reducible refine Below.setCell ?_ (by go_size) _)))⟩)
      | (exfalso; have := HD.out; omega)
end
end Go.Proofs.Ytofoenlhbmammaa
