/- FAULT: several lists of marks, one after another: whether each is one; all together. -/
import Derived.Test.YthabpiphfaedaaaDoorQ0Fault1
import Derived.Test.YthabpiphfaedaaaDoorQ0SetMeet
import Derived.Test.YthabpiphfaedaaaDoorQ0SetOf
namespace Go.Proofs.YthabpiphfaedaaaDoor

section
open Go.RowKit Go.Shelf

/-- A list, as it lies. -/
structure LL where
  b : Option Addr
  c : Nat
  l : List Int
def LL.v (x : LL) : Value := .slice x.b x.l.length x.c
/-- A list of lists that may be read. -/
structure LLIn (w : World) (base : Option Addr) (ls : List LL) : Prop where
  rd : Rd w base (ls.map LL.v)
  each : ∀ x ∈ ls, IIn w x.b x.l
  nil : ∀ x ∈ ls, x.b = none → x.l.length = 0 ∧ x.c = 0
  len : ls.length ≤ 1000
theorem LLIn.keep {w W : World} {base : Option Addr} {ls : List LL} (h : LLIn w base ls) (hb : Below w.heap.size w W) : LLIn W base ls := ⟨h.rd.keep hb, fun x hx => (h.each x hx).keep hb, h.nil, h.len⟩
theorem LLIn.at {w : World} {base : Option Addr} {ls : List LL} (h : LLIn w base ls) {k : Nat} (hk : k < ls.length) :
    ∃ b off, base = some ⟨b, off, none⟩ ∧ w.cell? ⟨b, off + k, none⟩ = some (.slice ls[k].b ls[k].l.length ls[k].c) ∧ b < w.heap.size := by
  obtain ⟨b, off, e, hc⟩ := h.rd k (.slice ls[k].b ls[k].l.length ls[k].c) (by simp [hk, LL.v])
  exact ⟨b, off, e, hc, World.block_lt_of_cell? w _ hc⟩
def allM (n : Int) (ls : List LL) : Bool := ls.all (fun x => mk n (-1) x.l)
def flatL (ls : List LL) : List Int := ls.flatMap LL.l
theorem allM_take {ls : List LL} {k : Nat} (h : k < ls.length) (n : Int) : allM n (ls.take (k + 1)) = (allM n (ls.take k) && mk n (-1) ls[k].l) := by
  unfold allM
  rw [List.take_succ_eq_append_getElem h, List.all_append]
  simp
theorem allM_no {ls : List LL} {k : Nat} (h : k < ls.length) {n : Int} (hm : mk n (-1) ls[k].l = false) : allM n ls = false := by
  unfold allM
  rw [List.all_eq_false]
  exact ⟨ls[k], List.getElem_mem h, by rw [hm]; decide⟩
theorem flatL_take {ls : List LL} {k : Nat} (h : k < ls.length) : flatL (ls.take (k + 1)) = flatL (ls.take k) ++ ls[k].l := by
  unfold flatL
  rw [List.take_succ_eq_append_getElem h, List.flatMap_append]
  simp
theorem flatL_len (ls : List LL) (k : Nat) : (flatL (ls.take k)).length ≤ (flatL ls).length := by
  unfold flatL
  conv => rhs; rw [← List.take_append_drop k ls, List.flatMap_append, List.length_append]
  omega
set_option maxRecDepth 100000 in set_option maxHeartbeats 4000000 in
theorem fault_tog1 (n : Int) (x : LL) (q : Nat) (u : TypeId) (w : World) (hl : IIn w x.b x.l) (hq : Blk w q u #[.int .i64 n]) :
    Calls Tryd.prog 100 #[.slice x.b x.l.length x.c, .pointer (some ⟨q, 0, none⟩)] w (RB w (.bool (!mk n (-1) x.l))) := by
  have cq := hq.cell 0 _ rfl
  have HM := Lib.hid (fault_marks n x.b x.c x.l w hl)
  clear hl hq
  go_enter Tryd.func100, Tryd.ntmps100
  go_wp2_with ((with_reducible refine (HM.out).mono ?_); rintro e w1 ⟨rfl, hb1⟩; (obtain ⟨hc1, hf1⟩ := bcell hb1; have hz1 := hb1.size; (try simp at hz1); have hB : Below w.heap.size w w1 := (by (repeat (first | (with_reducible exact Below.refl _ _) | (with_reducible assumption) | (with_reducible refine below_alloc ?_ _) | (with_reducible refine below_drewN ?_ _) | (with_reducible refine Below.drew ?_) | (with_reducible refine below_then ?_ (by with_reducible assumption)) | (with_reducible refine Below.setCell ?_ (by go_size) _)))); obtain ⟨hcB, hfB⟩ := bcell hB; (try have z0 : w.heap.size < w1.heap.size := by omega); (try have z1 : w.heap.size + 1 < w1.heap.size := by omega); (try have z2 : w.heap.size + 2 < w1.heap.size := by omega); (try have z3 : w.heap.size + 3 < w1.heap.size := by omega)))
  go_returns
  exact ⟨rfl, by (repeat (first | (with_reducible exact Below.refl _ _) | (with_reducible assumption) | (with_reducible refine below_alloc ?_ _) | (with_reducible refine below_drewN ?_ _) | (with_reducible refine Below.drew ?_) | (with_reducible refine below_then ?_ (by with_reducible assumption)) | (with_reducible refine Below.setCell ?_ (by go_size) _)))⟩
/-- Where the first odd one is. -/
def RIz (w : World) (ok : Bool) : Ending → World → Prop := fun e w' => (∃ r : Int, e = .returned (.int .i64 r) ∧ (ok = true → r = -1) ∧ (ok = false → 0 ≤ r)) ∧ Below w.heap.size w w'
set_option maxRecDepth 100000 in set_option maxHeartbeats 4000000 in
theorem lists_index (n : Int) (base : Option Addr) (cap : Nat) (ls : List LL) (q : Nat) (u : TypeId) (w : World) (hl : LLIn w base ls) (hq : Blk w q u #[.int .i64 n]) :
    Calls Tryd.prog 129 #[.slice base ls.length cap, .func (.func 100) #[] #[.pointer (some ⟨q, 0, none⟩)]] w (RIz w (allM n ls)) := by
  have eg : ∀ args w, (callFunc 100 args).run Tryd.prog w = .ok (.enter 100 args) w := enters_of Tryd.func100 (by kernel_rfl) rfl
  have HI := Lib.hid hl
  have HQ := Lib.hid hq
  have hlen := hl.len
  have hql := hq.lt
  clear hl hq
  go_enter Tryd.func129, Tryd.ntmps129
  go_wp2_with fail
  go_loopw [8] (fun i wr => ∃ k : Nat, k ≤ ls.length ∧ i = .int .i64 k ∧ allM n (ls.take k) = true ∧ Below w.heap.size w wr) (fun i _ => ls.length - (intOf i).toNat)
  case atStart => exact ⟨0, Nat.zero_le _, rfl, rfl, Below.refl _ _⟩
  case round =>
    obtain ⟨k, hk, rfl, hmk, hbel⟩ := hrel
    have HB := Lib.hid hbel
    have HM := Lib.hid hmk
    clear hbel hmk
    by_cases hlt : k < ls.length
    · obtain ⟨b, off, rfl, c0, hbs⟩ := HI.out.at hlt
      have c1 := (HB.out.cell (p := ⟨b, off + k, none⟩) hbs).trans c0
      have hs := Lib.hid (allM_take hlt n)
      have hno := Lib.hid (fun h => allM_no hlt (n := n) h)
      have HX := Lib.hid (fault_tog1 n ls[k] q u wr ((HI.out.each _ (List.getElem_mem hlt)).keep HB.out) (HQ.out.below HB.out))
      obtain ⟨x, hx⟩ : ∃ x, x = ls[k] := ⟨_, rfl⟩
      rw [← hx] at c0 c1 hs hno HX
      clear hx c0
      have zr := HB.out.size
      cases hz : mk n (-1) x.l with
      | false =>
        rw [hz] at HX
        have hf := Lib.hid (hno.out hz)
        clear hz hs hno
        go_wp2_with fail
        refine HX.out.mono ?_
        rintro e w3 ⟨rfl, hb3⟩
        have HB3 := Lib.hid (HB.out.trans (hb3.mono zr))
        clear hb3
        go_wp2_with fail
        go_returns
        exact ⟨⟨k, rfl, fun h => (by rw [hf.out] at h; cases h), fun _ => by omega⟩, HB3.out⟩
      | true =>
        rw [hz] at HX
        have hyes := Lib.hid (show allM n (ls.take (k + 1)) = true by rw [hs.out, HM.out, hz]; rfl)
        clear hz hs hno
        go_wp2_with fail
        refine HX.out.mono ?_
        rintro e w3 ⟨rfl, hb3⟩
        have HB3 := Lib.hid (HB.out.trans (hb3.mono zr))
        clear hb3
        go_wp2_with fail
        go_roundw
        case rel => exact ⟨k + 1, by omega, by go_num, hyes.out, HB3.out⟩
        case measure => (simp [intOf] <;> omega)
    · obtain rfl : k = ls.length := by omega
      have hyes := Lib.hid (show allM n ls = true by have := HM.out; rwa [List.take_length] at this)
      go_wp2_with fail
      go_returns
      exact ⟨⟨-1, rfl, fun _ => rfl, fun h => (by rw [hyes.out] at h; cases h)⟩, HB.out⟩
set_option maxRecDepth 100000 in set_option maxHeartbeats 4000000 in
theorem lists_contains (n : Int) (base : Option Addr) (cap : Nat) (ls : List LL) (q : Nat) (u : TypeId) (w : World) (hl : LLIn w base ls) (hq : Blk w q u #[.int .i64 n]) :
    Calls Tryd.prog 99 #[.slice base ls.length cap, .func (.func 100) #[] #[.pointer (some ⟨q, 0, none⟩)]] w (RB w (.bool (!allM n ls))) := by
  have H1 := Lib.hid (lists_index n base cap ls q u w hl hq)
  clear hl hq
  cases hm : allM n ls
  · rw [hm] at H1
    clear hm
    go_enter Tryd.func99, Tryd.ntmps99
    go_wp2_with fail
    refine H1.out.mono ?_
    rintro e w1 ⟨⟨r, rfl, _, hr⟩, hb⟩
    have h0 := hr rfl
    clear hr
    go_wp2_with fail
    go_returns
    exact ⟨rfl, hb⟩
  · rw [hm] at H1
    clear hm
    go_enter Tryd.func99, Tryd.ntmps99
    go_wp2_with fail
    refine H1.out.mono ?_
    rintro e w1 ⟨⟨r, rfl, hr, _⟩, hb⟩
    obtain rfl := hr rfl
    clear hr
    go_wp2_with fail
    go_returns
    exact ⟨rfl, hb⟩
end
end Go.Proofs.YthabpiphfaedaaaDoor
