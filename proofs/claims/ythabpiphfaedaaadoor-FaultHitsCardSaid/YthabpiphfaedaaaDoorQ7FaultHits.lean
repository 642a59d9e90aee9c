/- FAULT: lists one after another in a new one; together; what may not be taken; what a place stands on. -/
import Derived.Lib.AppendZeros
import Derived.Deep.RegionHeld3
import Derived.Test.YthabpiphfaedaaaDoorQ1FaultHits
import Derived.Test.YthabpiphfaedaaaDoorQ0BSearchM
import Derived.Test.YthabpiphfaedaaaDoorQ0Fault5
import Derived.Test.YthabpiphfaedaaaDoorQ0PlSets
import Derived.Test.YthabpiphfaedaaaDoorQ0PlLaw
namespace Go.Proofs.YthabpiphfaedaaaDoor

section
open Go.RowKit Go.Shelf

def badE (d : V3) (a b c : List Int) : Int := if d.may then (if (mk d.n (-1) a && mk d.n (-1) b) && mk (3 * d.n) (-1) c then 0 else 8) else 8
def badN (d : V3) (a b c : List Int) : List Nat := if badE d a b c = 0 then ofSet d.n (a ++ b) else []
def badL (d : V3) (a b c : List Int) : List Nat := if badE d a b c = 0 then ofSet (3 * d.n) c else []
theorem badE_0 {d : V3} {a b c : List Int} (h : badE d a b c = 0) : d.may ∧ mk d.n (-1) a = true ∧ mk d.n (-1) b = true ∧ mk (3 * d.n) (-1) c = true := by
  unfold badE at h
  split at h
  · next hd =>
    split at h
    · next h2 =>
      rw [Bool.and_eq_true, Bool.and_eq_true] at h2
      exact ⟨hd, h2.1.1, h2.1.2, h2.2⟩
    · omega
  · omega
theorem mk_in {n : Int} {l : List Int} (h : mk n (-1) l = true) : ∀ x ∈ l, 0 ≤ x ∧ x < n := fun x hx => by
  have := (mk_iff.1 h).1 x hx
  omega
theorem mk_short {n : Int} {l : List Int} (h : mk n (-1) l = true) (hn : 0 ≤ n) : (l.length : Int) ≤ n := by
  rcases mk_len h with h1 | h1
  · omega
  · rw [h1]; exact hn
theorem inR_of {n : Int} {l : List Int} (h : ∀ x ∈ l, 0 ≤ x ∧ x < n) : inR n l = true := by
  unfold inR
  rw [List.all_eq_true]
  intro x hx
  simpa using h x hx
theorem of_ok {n : Int} {l : List Int} (hn : nMay n) (hl : l.length ≤ 65536) (h : ∀ x ∈ l, 0 ≤ x ∧ x < n) : ofErr n l = 0 := by
  unfold ofErr
  rw [if_pos hn, if_neg (by omega), if_pos (inR_of h)]
theorem fb_nMay {d : V3} (hd : d.may) : nMay d.n ∧ nMay (3 * d.n) := by
  have := V3.n_le hd
  unfold nMay
  omega
/-- The error of what a place stands on; whether it does. -/
def hitE (d : V3) (p : Pl) (m k : Int) : Int := if plChk d p = 0 then (if (-1 ≤ m ∧ m < d.n) ∧ (-1 ≤ k ∧ k < 3 * d.n) then 0 else 2) else plChk d p
def hitV (d : V3) (p : Pl) (m k : Int) : Bool := if hitE d p m k = 0 then hasI (midsV d p) m || hasI (linksV d p) k else false
end

section
open Go.RowKit Go.Shelf

set_option maxRecDepth 100000 in set_option maxHeartbeats 4000000 in
theorem slices_Grow (n : Nat) (w : World) (hn : n ≤ 1000000) : Calls Tryd.prog 132 #[.slice none 0 0, .int .i64 n] w (fun e w' => ∃ v, e = .returned v ∧ w'.ownsRow w.heap.size 3 1 v 0 [] ∧ Below w.heap.size w w') := by
  obtain ⟨i0, hi, iz0, iz1, iz2⟩ := info_parts infoInt
  by_cases h0 : n = 0
  · subst h0
    go_enter Tryd.func132, Tryd.ntmps132
    go_wp2_with fail
    go_returns
    exact ⟨_, rfl, World.ownsRow_nil _ _ _ _, Below.refl _ _⟩
  · have hp : 0 < n := by omega
    have HR := Lib.hid (fun ty => Lib.run_append_nil_zeros (P := Tryd.prog) w 38 3 ty 3 i0 _ .i64 .i64 Tryd.underlying38 Tryd.underlying3 hi iz0 n hp (by rw [iz1]; decide) (by omega) (by rw [iz2]; omega))
    have hge := grownCap_ge w n 0 3
    have hle := grownCap_le_maxLen w n 0 3 (by unfold maxLen; omega)
    have HO := Lib.hid (World.ownsRow_made (base := w.heap.size) (e := 3) (size := 1) w.drew (Builtin.zeroCells (Value.int .i64 0).cells n ++ Builtin.zeroCells (Value.int .i64 0).cells (grownCap w n 0 3 - n)) (grownCap w n 0 3) (by simp) hle (by simp [Builtin.zeroCells, Value.cells]; omega))
    have HB := Lib.hid (show Below w.heap.size w (w.drew.alloc (.cells (Builtin.zeroCells (Value.int .i64 0).cells n ++ Builtin.zeroCells (Value.int .i64 0).cells (grownCap w n 0 3 - n)) 3)) by (repeat (first | (with_reducible exact Below.refl _ _) | (with_reducible assumption) | (with_reducible refine below_alloc ?_ _) | (with_reducible refine below_drewN ?_ _) | (with_reducible refine Below.drew ?_) | (with_reducible refine below_then ?_ (by with_reducible assumption)) | (with_reducible refine Below.setCell ?_ (by go_size) _))))
    generalize grownCap w n 0 3 = cap at *
    generalize w.drew.alloc (.cells (Builtin.zeroCells (Value.int .i64 0).cells n ++ Builtin.zeroCells (Value.int .i64 0).cells (cap - n)) 3) = w1 at *
    unfold maxLen at hle
    go_enter Tryd.func132, Tryd.ntmps132
    go_wp2_with (at_builtin; refine Lib.wpList_append_run _ rfl _ _ _ _ rfl _ _ rfl rfl _ _ (HR.out _) ?_)
    go_returns
    exact ⟨_, rfl, by simpa using HO.out, HB.out⟩
set_option maxRecDepth 100000 in set_option maxHeartbeats 4000000 in
theorem slices_Concat (base : Option Addr) (cap : Nat) (ls : List LL) (w : World) (hl : LLIn w base ls) (h9 : (flatL ls).length ≤ 1000000) :
    Calls Tryd.prog 102 #[.slice base ls.length cap] w (RI w (flatL ls)) := by
  obtain ⟨i0, hi, iz0, iz1, iz2⟩ := info_parts infoInt
  have HI := Lib.hid hl
  have hlen := hl.len
  have HF := Lib.hid (flatL_len ls)
  have HG := Lib.hid (fun W => slices_Grow (flatL ls).length W h9)
  clear hl
  go_enter Tryd.func102, Tryd.ntmps102
  go_wp2_with fail
  go_loopw [3, 11] (fun s x wr => ∃ k : Nat, k ≤ ls.length ∧ x = .int .i64 k ∧ s = .int .i64 (flatL (ls.take k)).length ∧ ∃ q, wr = w.drewN q) (fun _ x _ => ls.length - (intOf x).toNat)
  case atStart => exact ⟨0, Nat.zero_le _, rfl, rfl, 0, rfl⟩
  case round =>
    obtain ⟨k, hk, rfl, rfl, q, rfl⟩ := hrel
    have hfk := HF.out k
    by_cases hlt : k < ls.length
    · obtain ⟨b, off, rfl, c0, hbs⟩ := HI.out.at hlt
      have hf1 := HF.out (k + 1)
      have hs := congrArg List.length (flatL_take hlt)
      rw [List.length_append] at hs
      obtain ⟨x, hx⟩ : ∃ x, x = ls[k] := ⟨_, rfl⟩
      rw [← hx] at c0 hs
      clear hx
      have HS := Lib.hid hs
      have hsz : (flatL (ls.take k)).length + x.l.length ≤ 1000000 := by omega
      clear hs hf1 hfk
      generalize (flatL (ls.take k)).length = z at *
      have hneg : decide ((z : Int) + (x.l.length : Int) < 0) = false := decide_eq_false (by omega)
      go_wp2_with fail
      go_roundw
      case rel => exact ⟨k + 1, by omega, by go_num, by rw [HS.out]; go_num, _, rfl⟩
      case measure => (simp [intOf] <;> omega)
    · obtain rfl : k = ls.length := by omega
      rw [List.take_length]
      go_wp2_with fail
      refine (HG.out _).mono ?_
      rintro e w1 ⟨v1, rfl, o1, hb1⟩
      have HO1 := Lib.hid (own_mono (base' := w.heap.size) o1 (by simp))
      have HB1 := Lib.hid (show Below w.heap.size w w1 from below_then (show Below w.heap.size w (w.drewN q) by (repeat (first | (with_reducible exact Below.refl _ _) | (with_reducible assumption) | (with_reducible refine below_alloc ?_ _) | (with_reducible refine below_drewN ?_ _) | (with_reducible refine Below.drew ?_) | (with_reducible refine below_then ?_ (by with_reducible assumption)) | (with_reducible refine Below.setCell ?_ (by go_size) _)))) hb1)
      clear o1 hb1 hlt hk hfk
      go_wp2_with fail
      go_loopw [6, 27] (fun v x wr => ∃ k : Nat, k ≤ ls.length ∧ x = .int .i64 k ∧ wr.ownsRow w.heap.size 3 1 v (flatL (ls.take k)).length (ic (flatL (ls.take k))) ∧ Below w.heap.size w wr) (fun _ x _ => ls.length - (intOf x).toNat)
      case atStart => exact ⟨0, Nat.zero_le _, rfl, HO1.out, HB1.out⟩
      case round =>
        obtain ⟨k, hk, rfl, hown, hbe⟩ := hrel
        have HO := Lib.hid hown
        have HB := Lib.hid hbe
        have hfk := HF.out k
        clear hown hbe
        by_cases hlt : k < ls.length
        · obtain ⟨b, off, rfl, c0, hbs⟩ := HI.out.at hlt
          have c1 := (HB.out.cell (p := ⟨b, off + k, none⟩) hbs).trans c0
          have hf1 := HF.out (k + 1)
          have hs := flatL_take hlt
          have hnil := HI.out.nil _ (List.getElem_mem hlt)
          have hin := (HI.out.each _ (List.getElem_mem hlt)).keep HB.out
          obtain ⟨x, hx⟩ : ∃ x, x = ls[k] := ⟨_, rfl⟩
          rw [← hx] at c0 c1 hs hnil hin
          have HS := Lib.hid hs
          have hsz : (flatL (ls.take k)).length + x.l.length ≤ 1000000 := by
            have := congrArg List.length hs
            rw [List.length_append] at this
            omega
          have HN := Lib.hid hnil
          have HRD := Lib.hid hin.rd
          have zr := HB.out.size
          clear hx c0 hs hf1 hnil hin hfk
          generalize flatL (ls.take k) = O at *
          go_wp2_with (at_builtin; refine wpList_addE _ rfl _ _ 38 rfl 3 i0 (.int .i64 0) 1 8 Tryd.underlying38 hi iz0 iz1 iz2 rfl (by decide) (by decide) w.heap.size zr _ (by rfl) _ _ HO.out x.b x.l.length x.c (ic x.l) (by rfl) (by rw [ic_len]; omega) HN.out HRD.out (ic_one x.l) (by omega) ?_)
          intro v6 w6 o6 b6
          have HO6 := Lib.hid (show w6.ownsRow w.heap.size 3 1 v6 (flatL (ls.take (k + 1))).length (ic (flatL (ls.take (k + 1)))) by rw [HS.out, ic_app, List.length_append]; exact o6)
          have HB6 := Lib.hid (HB.out.trans b6)
          clear o6 b6
          go_wp2_with fail
          go_roundw
          case rel => exact ⟨k + 1, by omega, by go_num, HO6.out, HB6.out⟩
          case measure => (simp [intOf] <;> omega)
        · obtain rfl : k = ls.length := by omega
          rw [List.take_length] at HO
          go_wp2_with fail
          go_returns
          exact ⟨_, rfl, HO.out, HB.out⟩
end
end Go.Proofs.YthabpiphfaedaaaDoor
