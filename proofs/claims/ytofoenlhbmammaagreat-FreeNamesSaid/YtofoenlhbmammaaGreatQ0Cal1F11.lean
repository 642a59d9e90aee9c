/- CAL, REF 08: whether a slot, a calendar may be. -/
import Derived.Test.YtofoenlhbmammaaGreatQ2F11
set_option linter.unusedVariables false
set_option linter.unusedSimpArgs false
namespace Go.Proofs.YtofoenlhbmammaaGreat

section
open Go.RowKit Go.Shelf

set_option maxRecDepth 100000 in set_option maxHeartbeats 4000000 in
theorem cal_may (s : Sl) (w : World) : Calls Tryz.prog 99 #[.agg #[.int .i64 s.f, .int .i64 s.t, .int .i64 s.o]] w (RB w (.bool (decide s.may))) := by
  by_cases h : spMay s.f s.t
  · have HC := Lib.hid (fun W => by have := time_Check s.f s.t W; rw [okIf_yes h] at this; exact this)
    have HH := Lib.hid h
    clear h
    go_enter Tryz.func99, Tryz.ntmps99
    go_wp2_with ((with_reducible refine (HC.out _).mono ?_); rintro e w1 ⟨rfl, hb1⟩; (obtain ⟨hc1, hf1⟩ := bcell hb1; have hz1 := hb1.size; (try simp at hz1); have hB : Below w.heap.size w w1 := (by (repeat (first | (with_reducible exact Below.refl _ _) | (with_reducible assumption) | (with_reducible refine below_alloc ?_ _) | (with_reducible refine below_drewN ?_ _) | (with_reducible refine Below.drew ?_) | (with_reducible refine below_then ?_ (by with_reducible assumption)) | (with_reducible refine Below.setCell ?_ (by go_size) _)))); obtain ⟨hcB, hfB⟩ := bcell hB; (try have z0 : w.heap.size < w1.heap.size := by omega); (try have z1 : w.heap.size + 1 < w1.heap.size := by omega); (try have z2 : w.heap.size + 2 < w1.heap.size := by omega); (try have z3 : w.heap.size + 3 < w1.heap.size := by omega)))
    all_goals
      go_returns
      refine ⟨?_, by (repeat (first | (with_reducible exact Below.refl _ _) | (with_reducible assumption) | (with_reducible refine below_alloc ?_ _) | (with_reducible refine below_drewN ?_ _) | (with_reducible refine Below.drew ?_) | (with_reducible refine below_then ?_ (by with_reducible assumption)) | (with_reducible refine Below.setCell ?_ (by go_size) _)))⟩
      first | exact ret_yes ⟨HH.out, by omega⟩ | exact ret_no (fun h => by have := h.2; omega) | (refine ret_bool ?_; rw [Bool.eq_iff_iff, decide_eq_true_iff]; have := HH.out; unfold Sl.may; simp [*]; done) | (refine ret_bool ?_; rw [Bool.eq_iff_iff, decide_eq_true_iff]; have := HH.out; unfold Sl.may; simp [this]; omega)
  · have HC := Lib.hid (fun W => by have := time_Check s.f s.t W; rw [okIf_no h] at this; exact this)
    have HQ := Lib.hid (show decide s.may = false from decide_eq_false (fun h' => h h'.1))
    clear h
    go_enter Tryz.func99, Tryz.ntmps99
    go_wp2_with ((with_reducible refine (HC.out _).mono ?_); rintro e w1 ⟨rfl, hb1⟩; (obtain ⟨hc1, hf1⟩ := bcell hb1; have hz1 := hb1.size; (try simp at hz1); have hB : Below w.heap.size w w1 := (by (repeat (first | (with_reducible exact Below.refl _ _) | (with_reducible assumption) | (with_reducible refine below_alloc ?_ _) | (with_reducible refine below_drewN ?_ _) | (with_reducible refine Below.drew ?_) | (with_reducible refine below_then ?_ (by with_reducible assumption)) | (with_reducible refine Below.setCell ?_ (by go_size) _)))); obtain ⟨hcB, hfB⟩ := bcell hB; (try have z0 : w.heap.size < w1.heap.size := by omega); (try have z1 : w.heap.size + 1 < w1.heap.size := by omega); (try have z2 : w.heap.size + 2 < w1.heap.size := by omega); (try have z3 : w.heap.size + 3 < w1.heap.size := by omega)))
    go_returns
    exact ⟨by rw [HQ.out]; rfl, by (repeat (first | (with_reducible exact Below.refl _ _) | (with_reducible assumption) | (with_reducible refine below_alloc ?_ _) | (with_reducible refine below_drewN ?_ _) | (with_reducible refine Below.drew ?_) | (with_reducible refine below_then ?_ (by with_reducible assumption)) | (with_reducible refine Below.setCell ?_ (by go_size) _)))⟩
set_option maxRecDepth 100000 in set_option maxHeartbeats 4000000 in
theorem ref08_MaySlot (s : Sl) (w : World) : Calls Tryz.prog 121 #[.agg #[.int .i64 s.f, .int .i64 s.t, .int .i64 s.o]] w (RB w (.bool (decide s.may))) := by
  by_cases h : spMay s.f s.t
  · have HC := Lib.hid (fun W => by have := ref07_May s.f s.t W; rw [decide_eq_true h] at this; exact this)
    have HH := Lib.hid h
    clear h
    go_enter Tryz.func121, Tryz.ntmps121
    go_wp2_with ((with_reducible refine (HC.out _).mono ?_); rintro e w1 ⟨rfl, hb1⟩; (obtain ⟨hc1, hf1⟩ := bcell hb1; have hz1 := hb1.size; (try simp at hz1); have hB : Below w.heap.size w w1 := (by (repeat (first | (with_reducible exact Below.refl _ _) | (with_reducible assumption) | (with_reducible refine below_alloc ?_ _) | (with_reducible refine below_drewN ?_ _) | (with_reducible refine Below.drew ?_) | (with_reducible refine below_then ?_ (by with_reducible assumption)) | (with_reducible refine Below.setCell ?_ (by go_size) _)))); obtain ⟨hcB, hfB⟩ := bcell hB; (try have z0 : w.heap.size < w1.heap.size := by omega); (try have z1 : w.heap.size + 1 < w1.heap.size := by omega); (try have z2 : w.heap.size + 2 < w1.heap.size := by omega); (try have z3 : w.heap.size + 3 < w1.heap.size := by omega)))
    all_goals
      go_returns
      refine ⟨?_, by (repeat (first | (with_reducible exact Below.refl _ _) | (with_reducible assumption) | (with_reducible refine below_alloc ?_ _) | (with_reducible refine below_drewN ?_ _) | (with_reducible refine Below.drew ?_) | (with_reducible refine below_then ?_ (by with_reducible assumption)) | (with_reducible refine Below.setCell ?_ (by go_size) _)))⟩
      first | exact ret_yes ⟨HH.out, by omega⟩ | exact ret_no (fun h => by have := h.2; omega) | (refine ret_bool ?_; rw [Bool.eq_iff_iff, decide_eq_true_iff]; have := HH.out; unfold Sl.may; simp [*]; done) | (refine ret_bool ?_; rw [Bool.eq_iff_iff, decide_eq_true_iff]; have := HH.out; unfold Sl.may; simp [this]; omega)
  · have HC := Lib.hid (fun W => by have := ref07_May s.f s.t W; rw [decide_eq_false h] at this; exact this)
    have HQ := Lib.hid (show decide s.may = false from decide_eq_false (fun h' => h h'.1))
    clear h
    go_enter Tryz.func121, Tryz.ntmps121
    go_wp2_with ((with_reducible refine (HC.out _).mono ?_); rintro e w1 ⟨rfl, hb1⟩; (obtain ⟨hc1, hf1⟩ := bcell hb1; have hz1 := hb1.size; (try simp at hz1); have hB : Below w.heap.size w w1 := (by (repeat (first | (with_reducible exact Below.refl _ _) | (with_reducible assumption) | (with_reducible refine below_alloc ?_ _) | (with_reducible refine below_drewN ?_ _) | (with_reducible refine Below.drew ?_) | (with_reducible refine below_then ?_ (by with_reducible assumption)) | (with_reducible refine Below.setCell ?_ (by go_size) _)))); obtain ⟨hcB, hfB⟩ := bcell hB; (try have z0 : w.heap.size < w1.heap.size := by omega); (try have z1 : w.heap.size + 1 < w1.heap.size := by omega); (try have z2 : w.heap.size + 2 < w1.heap.size := by omega); (try have z3 : w.heap.size + 3 < w1.heap.size := by omega)))
    go_returns
    exact ⟨by rw [HQ.out]; rfl, by (repeat (first | (with_reducible exact Below.refl _ _) | (with_reducible assumption) | (with_reducible refine below_alloc ?_ _) | (with_reducible refine below_drewN ?_ _) | (with_reducible refine Below.drew ?_) | (with_reducible refine below_then ?_ (by with_reducible assumption)) | (with_reducible refine Below.setCell ?_ (by go_size) _)))⟩

/-- Slots that follow one another, from a moment on. -/
def chain (last : Int) : List Sl → Bool
  | [] => true
  | s :: c => decide s.may && (decide (last ≤ s.f) && chain s.t c)
/-- Where the first k end. -/
def lastT (c : List Sl) (k : Nat) : Int := if k = 0 then 0 else (c[k - 1]?.map Sl.t).getD 0
theorem chain_app : ∀ (a b : List Sl) (last : Int), chain last (a ++ b) = (chain last a && chain ((a.getLast?.map Sl.t).getD last) b)
  | [], b, last => by simp [chain]
  | s :: a, b, last => by
    simp only [List.cons_append, chain, chain_app a b s.t]
    have e : ((s :: a).getLast?.map Sl.t).getD last = ((a.getLast?.map Sl.t).getD s.t) := by
      cases a with
      | nil => rfl
      | cons x a => rw [List.getLast?_cons_cons]; cases h : (x :: a).getLast? with
        | none => simp at h
        | some y => rfl
    rw [e]
    cases decide s.may <;> cases decide (last ≤ s.f) <;> simp
theorem lastT_take {c : List Sl} {k : Nat} (h : k ≤ c.length) : ((c.take k).getLast?.map Sl.t).getD 0 = lastT c k := by
  unfold lastT
  by_cases e : k = 0
  · subst e; simp
  · rw [if_neg e, List.getLast?_take, if_neg e]
    have hk : k - 1 < c.length := by omega
    simp [hk]
theorem chain_take_succ {c : List Sl} {k : Nat} (h : k < c.length) : chain 0 (c.take (k + 1)) = (chain 0 (c.take k) && (decide c[k].may && decide (lastT c k ≤ c[k].f))) := by
  rw [List.take_succ_eq_append_getElem h, chain_app, lastT_take (by omega)]
  simp [chain]
theorem chain_take_no {c : List Sl} {k : Nat} (h : chain 0 (c.take k) = false) : chain 0 c = false := by
  have e := chain_app (c.take k) (c.drop k) 0
  rw [List.take_append_drop] at e
  rw [e, h]; rfl
theorem lastT_zero (c : List Sl) : lastT c 0 = 0 := rfl
theorem lastT_succ {c : List Sl} {k : Nat} (h : k < c.length) : lastT c (k + 1) = c[k].t := by unfold lastT; rw [if_neg (by omega)]; simp [h]

/-- A calendar may be. -/
def calOk (c : List Sl) : Bool := decide (c.length ≤ 4096) && chain 0 c
def calE (c : List Sl) : Int := if calOk c then 0 else 8

set_option maxRecDepth 100000 in set_option maxHeartbeats 4000000 in
theorem cal_Check (base : Option Addr) (cap : Nat) (c : List Sl) (w : World) (hc : CIn w base c) : Calls Tryz.prog 72 #[.slice base c.length cap] w (RB w (.int .i64 (calE c))) := by
  have HC := Lib.hid hc
  have hlen := hc.len
  clear hc
  by_cases hl : c.length ≤ 4096
  · have HE := Lib.hid (show calE c = if chain 0 c then 0 else 8 by unfold calE calOk; rw [decide_eq_true hl, Bool.true_and])
    go_enter Tryz.func72, Tryz.ntmps72
    go_wp2_with fail
    go_loopw [3, 11] (fun a i wr => ∃ k : Nat, k ≤ c.length ∧ i = .int .i64 k ∧ a = .int .i64 (lastT c k) ∧ chain 0 (c.take k) = true ∧ Below w.heap.size w wr) (fun _ i _ => c.length - (intOf i).toNat)
    case atStart => exact ⟨0, Nat.zero_le _, rfl, rfl, rfl, Below.refl _ _⟩
    case round =>
      obtain ⟨k, hk, rfl, rfl, hch, hbel⟩ := hrel
      have HB := Lib.hid hbel
      have HCh := Lib.hid hch
      clear hbel hch
      by_cases hlt : k < c.length
      · obtain ⟨b, off, rfl, c0, c1, c2, hbl⟩ := (HC.out.keep HB.out).at hlt
        have hs := Lib.hid (chain_take_succ hlt)
        have hls := Lib.hid (lastT_succ hlt)
        have HM := Lib.hid (fun W => cal_may c[k] W)
        obtain ⟨s, hsl⟩ : ∃ s, s = c[k] := ⟨_, rfl⟩
        rw [← hsl] at c0 c1 c2 hs hls HM
        clear hsl
        obtain ⟨la, hla⟩ : ∃ la, la = lastT c k := ⟨_, rfl⟩
        rw [← hla] at hs ⊢
        clear hla
        by_cases hm : s.may
        · have HM2 := Lib.hid (fun W => by have := HM.out W; rw [decide_eq_true hm] at this; exact this)
          have hm' := Lib.hid hm
          clear HM hm
          by_cases hf : s.f < la
          · have hno := Lib.hid (chain_take_no (c := c) (k := k + 1) (by rw [hs.out, decide_eq_false (show ¬ la ≤ s.f by omega)]; simp))
            have hq := Lib.hid (show calE c = 8 by rw [HE.out, hno.out]; rfl)
            go_wp2_with ((with_reducible refine (HM2.out _).mono ?_); rintro e w1 ⟨rfl, hb1⟩; (obtain ⟨hc1, hf1⟩ := bcell hb1; have hz1 := hb1.size; (try simp at hz1)))
            go_returns
            exact ⟨by rw [hq.out]; rfl, below_then (below_alloc HB.out _) hb1⟩
          · have hyes := Lib.hid (show chain 0 (c.take (k + 1)) = true by rw [hs.out, HCh.out, decide_eq_true hm'.out, decide_eq_true (show la ≤ s.f by omega)]; rfl)
            go_wp2_with ((with_reducible refine (HM2.out _).mono ?_); rintro e w1 ⟨rfl, hb1⟩; (obtain ⟨hc1, hf1⟩ := bcell hb1; have hz1 := hb1.size; (try simp at hz1)))
            go_roundw
            case rel => exact ⟨k + 1, by omega, by go_num, by rw [hls.out], hyes.out, below_then (below_alloc HB.out _) hb1⟩
            case measure => simp [intOf]; omega
        · have HM2 := Lib.hid (fun W => by have := HM.out W; rw [decide_eq_false hm] at this; exact this)
          have hno := Lib.hid (chain_take_no (c := c) (k := k + 1) (by rw [hs.out, decide_eq_false hm]; simp))
          have hq := Lib.hid (show calE c = 8 by rw [HE.out, hno.out]; rfl)
          clear HM hm
          go_wp2_with ((with_reducible refine (HM2.out _).mono ?_); rintro e w1 ⟨rfl, hb1⟩; (obtain ⟨hc1, hf1⟩ := bcell hb1; have hz1 := hb1.size; (try simp at hz1)))
          go_returns
          exact ⟨by rw [hq.out]; rfl, below_then (below_alloc HB.out _) hb1⟩
      · obtain rfl : k = c.length := by omega
        have hq := Lib.hid (show calE c = 0 by have := HCh.out; rw [List.take_length] at this; rw [HE.out, this]; rfl)
        go_wp2_with fail
        go_returns
        exact ⟨by rw [hq.out]; rfl, HB.out⟩
  · have hq := Lib.hid (show calE c = 8 by unfold calE calOk; rw [decide_eq_false hl]; rfl)
    have hl' : 4096 < c.length := by omega
    clear hl
    go_enter Tryz.func72, Tryz.ntmps72
    go_wp2_with fail
    go_returns
    exact ⟨by rw [hq.out]; rfl, Below.refl _ _⟩

theorem chain_first {c : List Sl} {k : Nat} (h : k < c.length) (hm : c[k].may) (h0 : k = 0) : lastT c k ≤ c[k].f := by
  subst h0; rw [lastT_zero]; exact hm.1.1.1

set_option maxRecDepth 100000 in set_option maxHeartbeats 4000000 in
theorem ref08_May (base : Option Addr) (cap : Nat) (c : List Sl) (w : World) (hc : CIn w base c) : Calls Tryz.prog 104 #[.slice base c.length cap] w (RB w (.bool (calOk c))) := by
  have HC := Lib.hid hc
  have hlen := hc.len
  have HE := Lib.hid (show calOk c = (decide (c.length ≤ 4096) && chain 0 c) from rfl)
  clear hc
  go_enter Tryz.func104, Tryz.ntmps104
  go_wp2_with fail
  go_loopw [3] (fun i wr => ∃ k : Nat, k ≤ c.length ∧ i = .int .i64 k ∧ chain 0 (c.take k) = true ∧ Below w.heap.size w wr) (fun i _ => c.length - (intOf i).toNat)
  case atStart => exact ⟨0, Nat.zero_le _, rfl, rfl, Below.refl _ _⟩
  case round =>
    obtain ⟨k, hk, rfl, hch, hbel⟩ := hrel
    have HB := Lib.hid hbel
    have HCh := Lib.hid hch
    clear hbel hch
    by_cases hlt : k < c.length
    · obtain ⟨b, off, rfl, c0, c1, c2, hbl⟩ := (HC.out.keep HB.out).at hlt
      have hs := Lib.hid (chain_take_succ hlt)
      have hfst := Lib.hid (chain_first hlt)
      have HM := Lib.hid (fun W => ref08_MaySlot c[k] W)
      by_cases hm : c[k].may
      · have HM2 := Lib.hid (fun (x : Aft wr) => Calls.aft_of (x := x) (Calls.rb_eq (HM.out x.to) (congrArg Value.bool (decide_eq_true hm))))
        have hm' := Lib.hid hm
        by_cases h0 : k = 0
        · have hyes := Lib.hid (show chain 0 (c.take (k + 1)) = true by rw [hs.out, HCh.out, decide_eq_true hm, decide_eq_true (hfst.out hm h0)]; rfl)
          obtain ⟨s, hsl⟩ : ∃ s, s = c[k] := ⟨_, rfl⟩
          rw [← hsl] at c0 c1 c2 HM2
          clear hsl hm HM hs hfst hm'
          have hk0 : decide (0 < k) = false := by rw [decide_eq_false_iff_not]; omega
          clear h0
          go_wp2_with (refine wp_region_aft (by kernel_rfl) (by kernel_rfl) ?_; (repeat (any_goals (first | go_big_quiet_step ((go_at_call 121; with_reducible exact HM2.out _)) | quiet_step ((go_at_call 121; with_reducible exact HM2.out _)) | (refine wpQuiet_step (fun K hK => ?_); go_simp; split <;> (refine hK _ ?_; clear hK K))))); all_goals (refine wpQuiet_nil ?_; intro wq hw'; obtain ⟨x1, hx1⟩ := hw'; have hbq := x1.h; rw [← hx1] at hbq; clear hx1 x1))
          go_roundw
          case rel => exact ⟨k + 1, by omega, by go_num, hyes.out, below_then HB.out hbq⟩
          case measure => simp [intOf]; omega
        · have hk0 : decide (0 < k) = true := by rw [decide_eq_true_iff]; omega
          have hk1 : k - 1 < c.length := by omega
          obtain ⟨b', off', e, p0, p1, p2, _⟩ := (HC.out.keep HB.out).at hk1
          cases e
          have hl1 : lastT c k = c[k - 1].t := by have := lastT_succ hk1; rwa [show k - 1 + 1 = k by omega] at this
          rw [hl1] at hs
          have e2 : (k : Int) - 1 = ((k - 1 : Nat) : Int) := by omega
          obtain ⟨s, hsl⟩ : ∃ s, s = c[k] := ⟨_, rfl⟩
          obtain ⟨q, hql⟩ : ∃ q, q = c[k - 1] := ⟨_, rfl⟩
          rw [← hsl] at c0 c1 c2 HM2 hs hm'
          rw [← hql] at p0 p1 p2 hs
          clear hsl hql hm HM hfst hl1 h0
          by_cases hf : q.t ≤ s.f
          · have hyes := Lib.hid (show chain 0 (c.take (k + 1)) = true by rw [hs.out, HCh.out, decide_eq_true hm'.out, decide_eq_true hf]; rfl)
            have hd : decide (s.f < q.t) = false := by rw [decide_eq_false_iff_not]; omega
            clear hs
            go_wp2_with (refine wp_region_aft (by kernel_rfl) (by kernel_rfl) ?_; (repeat (any_goals (first | go_big_quiet_step ((go_at_call 121; with_reducible exact HM2.out _)) | quiet_step ((go_at_call 121; with_reducible exact HM2.out _)) | (refine wpQuiet_step (fun K hK => ?_); go_simp; split <;> (refine hK _ ?_; clear hK K))))); all_goals (refine wpQuiet_nil ?_; intro wq hw'; obtain ⟨x1, hx1⟩ := hw'; have hbq := x1.h; rw [← hx1] at hbq; clear hx1 x1))
            go_roundw
            case rel => exact ⟨k + 1, by omega, by go_num, hyes.out, below_then HB.out hbq⟩
            case measure => simp [intOf]; omega
          · have hno := Lib.hid (chain_take_no (c := c) (k := k + 1) (by rw [hs.out, decide_eq_false hf]; simp))
            have hq := Lib.hid (show calOk c = false by rw [HE.out, hno.out, Bool.and_false])
            have hd : decide (s.f < q.t) = true := by rw [decide_eq_true_iff]; omega
            clear hs
            go_wp2_with (refine wp_region_aft (by kernel_rfl) (by kernel_rfl) ?_; (repeat (any_goals (first | go_big_quiet_step ((go_at_call 121; with_reducible exact HM2.out _)) | quiet_step ((go_at_call 121; with_reducible exact HM2.out _)) | (refine wpQuiet_step (fun K hK => ?_); go_simp; split <;> (refine hK _ ?_; clear hK K))))); all_goals (refine wpQuiet_nil ?_; intro wq hw'; obtain ⟨x1, hx1⟩ := hw'; have hbq := x1.h; rw [← hx1] at hbq; clear hx1 x1))
            go_returns
            exact ⟨by rw [hq.out]; rfl, below_then HB.out hbq⟩
      · have HM2 := Lib.hid (fun (x : Aft wr) => Calls.aft_of (x := x) (Calls.rb_eq (HM.out x.to) (congrArg Value.bool (decide_eq_false hm))))
        have hno := Lib.hid (chain_take_no (c := c) (k := k + 1) (by rw [hs.out, decide_eq_false hm]; simp))
        have hq := Lib.hid (show calOk c = false by rw [HE.out, hno.out, Bool.and_false])
        obtain ⟨s, hsl⟩ : ∃ s, s = c[k] := ⟨_, rfl⟩
        rw [← hsl] at c0 c1 c2 HM2
        clear hsl hm HM hs hfst
        go_wp2_with (refine wp_region_aft (by kernel_rfl) (by kernel_rfl) ?_; (repeat (any_goals (first | go_big_quiet_step ((go_at_call 121; with_reducible exact HM2.out _)) | quiet_step ((go_at_call 121; with_reducible exact HM2.out _)) | (refine wpQuiet_step (fun K hK => ?_); go_simp; split <;> (refine hK _ ?_; clear hK K))))); all_goals (refine wpQuiet_nil ?_; intro wq hw'; obtain ⟨x1, hx1⟩ := hw'; have hbq := x1.h; rw [← hx1] at hbq; clear hx1 x1))
        go_returns
        exact ⟨by rw [hq.out]; rfl, below_then HB.out hbq⟩
    · obtain rfl : k = c.length := by omega
      have hq := Lib.hid (show calOk c = decide (c.length ≤ 4096) by have := HCh.out; rw [List.take_length] at this; rw [HE.out, this, Bool.and_true])
      by_cases hl : c.length ≤ 4096
      · have hq2 := Lib.hid (hq.out.trans (decide_eq_true hl))
        go_wp2_with fail
        go_returns
        exact ⟨by rw [hq2.out]; first | rfl | (refine ret_bool ?_; simp; omega), HB.out⟩
      · have hq2 := Lib.hid (hq.out.trans (decide_eq_false hl))
        have hl' : 4096 < c.length := by omega
        go_wp2_with fail
        go_returns
        exact ⟨by rw [hq2.out]; first | rfl | (refine ret_bool ?_; simp; omega), HB.out⟩
end
end Go.Proofs.YtofoenlhbmammaaGreat
