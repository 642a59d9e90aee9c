/- CAL: the document's spans; what is clear; free; at. -/
import Derived.Test.YtfikgjcmnooglaaCal3
namespace Go.Proofs.Ytfikgjcmnooglaa
open Go.RowKit Go.Shelf

def inB (f t a : Int) : Bool := decide (f ≤ a) && decide (a < t)
def meetsB (f t g u : Int) : Bool := inB f t g || inB g u f
set_option maxRecDepth 100000 in set_option maxHeartbeats 4000000 in
theorem ref07_In (f t a : Int) (w : World) : Calls Try.prog 83 #[.agg #[.int .i64 f, .int .i64 t], .int .i64 a] w (RB w (.bool (inB f t a))) := by
  unfold inB
  cases h : decide (f ≤ a)
  · have h' : ¬ f ≤ a := of_decide_eq_false h
    go_enter Try.func83, Try.ntmps83
    go_wp2
    go_returns
    exact ⟨rfl, by (repeat (first | (with_reducible exact Below.refl _ _) | (with_reducible assumption) | (with_reducible refine below_alloc ?_ _) | (with_reducible refine below_drewN ?_ _) | (with_reducible refine Below.drew ?_) | (with_reducible refine below_then ?_ (by with_reducible assumption)) | (with_reducible refine Below.setCell ?_ (by go_size) _)))⟩
  · have h' : f ≤ a := of_decide_eq_true h
    go_enter Try.func83, Try.ntmps83
    go_wp2
    go_returns
    exact ⟨rfl, by (repeat (first | (with_reducible exact Below.refl _ _) | (with_reducible assumption) | (with_reducible refine below_alloc ?_ _) | (with_reducible refine below_drewN ?_ _) | (with_reducible refine Below.drew ?_) | (with_reducible refine below_then ?_ (by with_reducible assumption)) | (with_reducible refine Below.setCell ?_ (by go_size) _)))⟩

set_option maxRecDepth 100000 in set_option maxHeartbeats 4000000 in
theorem ref07_Meets (f t g u : Int) (w : World) : Calls Try.prog 135 #[.agg #[.int .i64 f, .int .i64 t], .agg #[.int .i64 g, .int .i64 u]] w (RB w (.bool (meetsB f t g u))) := by
  have M1 := Lib.hid (fun W => ref07_In f t g W)
  have M2 := Lib.hid (fun W => ref07_In g u f W)
  have HQ := Lib.hid (show meetsB f t g u = (inB f t g || inB g u f) from rfl)
  generalize inB f t g = p at *
  generalize inB g u f = q at *
  cases p
  · go_enter Try.func135, Try.ntmps135
    go_wp2_with fail
    refine (M1.out _).mono ?_
    rintro e w1 ⟨rfl, hb1⟩
    (obtain ⟨hc1, hf1⟩ := bcell hb1; have hz1 := hb1.size; (try simp at hz1); have hB : Below w.heap.size w w1 := (by (repeat (first | (with_reducible exact Below.refl _ _) | (with_reducible assumption) | (with_reducible refine below_alloc ?_ _) | (with_reducible refine below_drewN ?_ _) | (with_reducible refine Below.drew ?_) | (with_reducible refine below_then ?_ (by with_reducible assumption)) | (with_reducible refine Below.setCell ?_ (by go_size) _)))); obtain ⟨hcB, hfB⟩ := bcell hB; (try have z0 : w.heap.size < w1.heap.size := by omega); (try have z1 : w.heap.size + 1 < w1.heap.size := by omega); (try have z2 : w.heap.size + 2 < w1.heap.size := by omega); (try have z3 : w.heap.size + 3 < w1.heap.size := by omega))
    go_wp2_with fail
    refine (M2.out _).mono ?_
    rintro e w2 ⟨rfl, hb2⟩
    go_wp2_with fail
    go_returns
    exact ⟨by rw [HQ.out]; rfl, below_then (by (repeat (first | (with_reducible exact Below.refl _ _) | (with_reducible assumption) | (with_reducible refine below_alloc ?_ _) | (with_reducible refine below_drewN ?_ _) | (with_reducible refine Below.drew ?_) | (with_reducible refine below_then ?_ (by with_reducible assumption)) | (with_reducible refine Below.setCell ?_ (by go_size) _)))) hb2⟩
  · go_enter Try.func135, Try.ntmps135
    go_wp2_with fail
    refine (M1.out _).mono ?_
    rintro e w1 ⟨rfl, hb1⟩
    (obtain ⟨hc1, hf1⟩ := bcell hb1; have hz1 := hb1.size; (try simp at hz1); have hB : Below w.heap.size w w1 := (by (repeat (first | (with_reducible exact Below.refl _ _) | (with_reducible assumption) | (with_reducible refine below_alloc ?_ _) | (with_reducible refine below_drewN ?_ _) | (with_reducible refine Below.drew ?_) | (with_reducible refine below_then ?_ (by with_reducible assumption)) | (with_reducible refine Below.setCell ?_ (by go_size) _)))); obtain ⟨hcB, hfB⟩ := bcell hB; (try have z0 : w.heap.size < w1.heap.size := by omega); (try have z1 : w.heap.size + 1 < w1.heap.size := by omega); (try have z2 : w.heap.size + 2 < w1.heap.size := by omega); (try have z3 : w.heap.size + 3 < w1.heap.size := by omega))
    go_wp2_with fail
    go_returns
    exact ⟨by rw [HQ.out]; rfl, by (repeat (first | (with_reducible exact Below.refl _ _) | (with_reducible assumption) | (with_reducible refine below_alloc ?_ _) | (with_reducible refine below_drewN ?_ _) | (with_reducible refine Below.drew ?_) | (with_reducible refine below_then ?_ (by with_reducible assumption)) | (with_reducible refine Below.setCell ?_ (by go_size) _)))⟩

/-- Is a span clear of all slots? -/
def clearB (c : List Sl) (f t : Int) : Bool := c.all (fun s => !meetsB s.f s.t f t)
theorem all_take_succ {α : Type} {l : List α} {p : α → Bool} {k : Nat} (hk : k < l.length) : (l.take (k + 1)).all p = ((l.take k).all p && p l[k]) := by
  rw [List.take_add_one, List.getElem?_eq_getElem hk, List.all_append]; simp only [Option.toList, List.all_cons, List.all_nil, Bool.and_true]
theorem all_no {α : Type} {l : List α} {p : α → Bool} {k : Nat} (hk : k < l.length) (h : p l[k] = false) : l.all p = false := by
  rw [Bool.eq_false_iff]; intro e; rw [List.all_eq_true] at e; have := e _ (List.getElem_mem hk); rw [h] at this; cases this

set_option maxRecDepth 100000 in set_option maxHeartbeats 4000000 in
theorem ref08_Clear (base : Option Addr) (cap : Nat) (c : List Sl) (f t : Int) (w : World) (hc : CIn w base c) :
    Calls Try.prog 81 #[.slice base c.length cap, .agg #[.int .i64 f, .int .i64 t]] w (RB w (.bool (clearB c f t))) := by
  have HC := Lib.hid hc
  have hlen := hc.len
  have HE := Lib.hid (show clearB c f t = c.all (fun s => !meetsB s.f s.t f t) from rfl)
  clear hc
  go_enter Try.func81, Try.ntmps81
  go_wp2_with fail
  go_loopw [5] (fun i wr => ∃ k : Nat, k ≤ c.length ∧ i = .int .i64 k ∧ (c.take k).all (fun s => !meetsB s.f s.t f t) = true ∧ Below w.heap.size w wr ∧ w.heap.size < wr.heap.size ∧ wr.cell? ⟨w.heap.size, 0, none⟩ = some (.int .i64 f) ∧ wr.cell? ⟨w.heap.size, 1, none⟩ = some (.int .i64 t)) (fun i _ => c.length - (intOf i).toNat)
  case atStart => exact ⟨0, Nat.zero_le _, rfl, by simp, by (repeat (first | (with_reducible exact Below.refl _ _) | (with_reducible assumption) | (with_reducible refine below_alloc ?_ _) | (with_reducible refine below_drewN ?_ _) | (with_reducible refine Below.drew ?_) | (with_reducible refine below_then ?_ (by with_reducible assumption)) | (with_reducible refine Below.setCell ?_ (by go_size) _))), by simp [go_sem], by simp [go_sem], by simp [go_sem]⟩
  case round =>
    obtain ⟨k, hk, rfl, hall, hbel, hsz, f0, f1⟩ := hrel
    have HB := Lib.hid hbel
    have HA := Lib.hid hall
    clear hbel hall
    by_cases hlt : k < c.length
    · obtain ⟨b, off, rfl, c0, c1, c2, hbl⟩ := (HC.out.keep HB.out).at hlt
      have hs := Lib.hid (all_take_succ (p := fun s : Sl => !meetsB s.f s.t f t) hlt)
      have hn := Lib.hid (all_no (p := fun s : Sl => !meetsB s.f s.t f t) hlt)
      have HM := Lib.hid (fun W => ref07_Meets c[k].f c[k].t f t W)
      obtain ⟨s, hsl⟩ : ∃ s, s = c[k] := ⟨_, rfl⟩
      rw [← hsl] at c0 c1 c2 hs hn HM
      clear hsl
      cases hm : meetsB s.f s.t f t
      · have HM2 := Lib.hid (fun (x : Aft wr) => Calls.aft_of (x := x) (Calls.rb_eq (HM.out x.to) (congrArg Value.bool hm)))
        have hyes := Lib.hid (hs.out.trans (show _ = true by rw [HA.out]; simp [hm]))
        clear HM hs hn
        go_wp2_with (refine wp_region_aft (by kernel_rfl) (by kernel_rfl) ?_; (repeat (any_goals (first | go_big_quiet_step ((go_at_call 135; with_reducible exact HM2.out _)) | quiet_step ((go_at_call 135; with_reducible exact HM2.out _)) | (refine wpQuiet_step (fun K hK => ?_); go_simp; split <;> (refine hK _ ?_; clear hK K))))); all_goals (refine wpQuiet_nil ?_; intro wq hw'; obtain ⟨x1, hx1⟩ := hw'; have hbq := x1.h; rw [← hx1] at hbq; clear hx1 x1))
        obtain ⟨hc1, hf1⟩ := bcell hbq
        have hz1 := hbq.size
        go_roundw
        case rel => exact ⟨k + 1, by omega, by go_num, hyes.out, below_then HB.out hbq, by omega, by rw [hc1 _ _ hsz]; exact f0, by rw [hc1 _ _ hsz]; exact f1⟩
        case measure => simp [intOf]; omega
      · have HM2 := Lib.hid (fun (x : Aft wr) => Calls.aft_of (x := x) (Calls.rb_eq (HM.out x.to) (congrArg Value.bool hm)))
        have hno := Lib.hid (hn.out (by simp [hm]))
        clear HM hs hn
        go_wp2_with (refine wp_region_aft (by kernel_rfl) (by kernel_rfl) ?_; (repeat (any_goals (first | go_big_quiet_step ((go_at_call 135; with_reducible exact HM2.out _)) | quiet_step ((go_at_call 135; with_reducible exact HM2.out _)) | (refine wpQuiet_step (fun K hK => ?_); go_simp; split <;> (refine hK _ ?_; clear hK K))))); all_goals (refine wpQuiet_nil ?_; intro wq hw'; obtain ⟨x1, hx1⟩ := hw'; have hbq := x1.h; rw [← hx1] at hbq; clear hx1 x1))
        go_returns
        exact ⟨by rw [HE.out, hno.out]; rfl, below_then HB.out hbq⟩
    · obtain rfl : k = c.length := by omega
      have hq := Lib.hid (HE.out.trans (show _ = true by have := HA.out; rw [List.take_length] at this; exact this))
      go_wp2_with fail
      go_returns
      exact ⟨by rw [hq.out]; rfl, HB.out⟩

def clearV (c : List Sl) (f t : Int) : Bool := if freeE c f t = 0 then clearB c f t else false
set_option maxRecDepth 100000 in set_option maxHeartbeats 4000000 in
theorem ref08_Free (base : Option Addr) (cap : Nat) (c : List Sl) (f t : Int) (w : World) (hc : CIn w base c) :
    Calls Try.prog 20 #[.slice base c.length cap, .agg #[.int .i64 f, .int .i64 t]] w (RB w (.tuple #[.bool (clearV c f t), .int .i64 (freeE c f t)])) := by
  have H1 := Lib.hid (fun W (h : Below w.heap.size w W) => ref08_May base cap c W (hc.keep h))
  have H2 := Lib.hid (fun W => ref07_May f t W)
  have H3 := Lib.hid (fun W (h : Below w.heap.size w W) => ref08_Clear base cap c f t W (hc.keep h))
  have HV := Lib.hid (show clearV c f t = if freeE c f t = 0 then clearB c f t else false from rfl)
  have HE := Lib.hid (show freeE c f t = if calOk c then okIf (spMay f t) 2 else 8 by unfold freeE calE; cases calOk c <;> rfl)
  clear hc
  generalize calOk c = y at *
  cases y
  · go_enter Try.func20, Try.ntmps20
    go_wp2_with fail
    refine (H1.out _ (by (repeat (first | (with_reducible exact Below.refl _ _) | (with_reducible assumption) | (with_reducible refine below_alloc ?_ _) | (with_reducible refine below_drewN ?_ _) | (with_reducible refine Below.drew ?_) | (with_reducible refine below_then ?_ (by with_reducible assumption)) | (with_reducible refine Below.setCell ?_ (by go_size) _))))).mono ?_
    rintro e w1 ⟨rfl, hb1⟩
    go_wp2_with fail
    go_returns
    exact ⟨by rw [HV.out, HE.out]; rfl, below_then (by (repeat (first | (with_reducible exact Below.refl _ _) | (with_reducible assumption) | (with_reducible refine below_alloc ?_ _) | (with_reducible refine below_drewN ?_ _) | (with_reducible refine Below.drew ?_) | (with_reducible refine below_then ?_ (by with_reducible assumption)) | (with_reducible refine Below.setCell ?_ (by go_size) _)))) hb1⟩
  · by_cases hm : spMay f t
    · have H2' := Lib.hid (fun W => Calls.rb_eq (H2.out W) (congrArg Value.bool (decide_eq_true hm)))
      have HE' := Lib.hid (show freeE c f t = 0 by rw [HE.out, if_pos rfl, okIf, if_pos hm])
      clear H2 hm
      go_enter Try.func20, Try.ntmps20
      go_wp2_with fail
      refine (H1.out _ (by (repeat (first | (with_reducible exact Below.refl _ _) | (with_reducible assumption) | (with_reducible refine below_alloc ?_ _) | (with_reducible refine below_drewN ?_ _) | (with_reducible refine Below.drew ?_) | (with_reducible refine below_then ?_ (by with_reducible assumption)) | (with_reducible refine Below.setCell ?_ (by go_size) _))))).mono ?_
      rintro e w1 ⟨rfl, hb1⟩
      (obtain ⟨hc1, hf1⟩ := bcell hb1; have hz1 := hb1.size; (try simp at hz1); have hB : Below w.heap.size w w1 := (by (repeat (first | (with_reducible exact Below.refl _ _) | (with_reducible assumption) | (with_reducible refine below_alloc ?_ _) | (with_reducible refine below_drewN ?_ _) | (with_reducible refine Below.drew ?_) | (with_reducible refine below_then ?_ (by with_reducible assumption)) | (with_reducible refine Below.setCell ?_ (by go_size) _)))); obtain ⟨hcB, hfB⟩ := bcell hB; (try have z0 : w.heap.size < w1.heap.size := by omega); (try have z1 : w.heap.size + 1 < w1.heap.size := by omega); (try have z2 : w.heap.size + 2 < w1.heap.size := by omega); (try have z3 : w.heap.size + 3 < w1.heap.size := by omega))
      go_wp2_with fail
      refine (H2'.out _).mono ?_
      rintro e w2 ⟨rfl, hb2⟩
      have hB2 : Below w.heap.size w w2 := below_then hB hb2
      obtain ⟨hc2, hf2⟩ := bcell (hb1.trans (hb2.mono hb1.size))
      have hz2 := hb2.size
      go_wp2_with fail
      refine (H3.out _ hB2).mono ?_
      rintro e w3 ⟨rfl, hb3⟩
      go_wp2_with fail
      go_returns
      exact ⟨by rw [HV.out, HE'.out]; rfl, below_then hB2 hb3⟩
    · have H2' := Lib.hid (fun W => Calls.rb_eq (H2.out W) (congrArg Value.bool (decide_eq_false hm)))
      have HE' := Lib.hid (show freeE c f t = 2 by rw [HE.out, if_pos rfl, okIf, if_neg hm])
      clear H2 hm
      go_enter Try.func20, Try.ntmps20
      go_wp2_with fail
      refine (H1.out _ (by (repeat (first | (with_reducible exact Below.refl _ _) | (with_reducible assumption) | (with_reducible refine below_alloc ?_ _) | (with_reducible refine below_drewN ?_ _) | (with_reducible refine Below.drew ?_) | (with_reducible refine below_then ?_ (by with_reducible assumption)) | (with_reducible refine Below.setCell ?_ (by go_size) _))))).mono ?_
      rintro e w1 ⟨rfl, hb1⟩
      (obtain ⟨hc1, hf1⟩ := bcell hb1; have hz1 := hb1.size; (try simp at hz1); have hB : Below w.heap.size w w1 := (by (repeat (first | (with_reducible exact Below.refl _ _) | (with_reducible assumption) | (with_reducible refine below_alloc ?_ _) | (with_reducible refine below_drewN ?_ _) | (with_reducible refine Below.drew ?_) | (with_reducible refine below_then ?_ (by with_reducible assumption)) | (with_reducible refine Below.setCell ?_ (by go_size) _)))); obtain ⟨hcB, hfB⟩ := bcell hB; (try have z0 : w.heap.size < w1.heap.size := by omega); (try have z1 : w.heap.size + 1 < w1.heap.size := by omega); (try have z2 : w.heap.size + 2 < w1.heap.size := by omega); (try have z3 : w.heap.size + 3 < w1.heap.size := by omega))
      go_wp2_with fail
      refine (H2'.out _).mono ?_
      rintro e w2 ⟨rfl, hb2⟩
      have hB2 : Below w.heap.size w w2 := below_then hB hb2
      go_wp2_with fail
      go_returns
      exact ⟨by rw [HV.out, HE'.out]; rfl, hB2⟩
end Go.Proofs.Ytfikgjcmnooglaa
