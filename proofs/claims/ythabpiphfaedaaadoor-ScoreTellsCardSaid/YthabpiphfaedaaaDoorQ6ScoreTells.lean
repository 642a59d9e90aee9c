/- REF 02: whether two lists of integers are the same. -/
import Derived.IntWalk
import Derived.Lib.SliceRun
import Derived.Test.YthabpiphfaedaaaDoorQ2ScoreTells
import Derived.Test.YthabpiphfaedaaaDoorQ3ScoreTells
import Derived.Test.YthabpiphfaedaaaDoorQ0RefAll
namespace Go.Proofs.YthabpiphfaedaaaDoor

section
section
open Go.RowKit Go.Shelf

def ic (l : List Int) : List Value := l.map (Value.int .i64)
theorem ic_len (l : List Int) : (ic l).length = l.length := by simp [ic]
theorem ic_app (a b : List Int) : ic (a ++ b) = ic a ++ ic b := by simp [ic]
theorem ic_one (l : List Int) : ∀ u ∈ ic l, u.oneCell' = true := by
  intro u hu
  obtain ⟨x, _, rfl⟩ := List.mem_map.1 hu
  rfl
/-- A new list is handed back; nothing that was there has turned. -/
def RL (w : World) (l : List Int) : Ending → World → Prop := fun e w' => ∃ v, e = .returned v ∧ w'.ownsRow w.heap.size 3 1 v l.length (ic l) ∧ Below w.heap.size w w'
end

section
open Go.RowKit Go.Shelf

/-- A list of integers that came in. -/
structure LIn (w : World) (base : Option Addr) (l : List Int) : Prop where
  rd : Rd w base (l.map (Value.int .i64))
  len : l.length ≤ 4611686018427387904
theorem LIn.keep {w W : World} {base : Option Addr} {l : List Int} (h : LIn w base l) (hb : Below w.heap.size w W) : LIn W base l := ⟨h.rd.keep hb, h.len⟩

/-- A new list of integers, and an error. -/
def RIE (w : World) (l : List Int) (x : Int) : Ending → World → Prop := fun e w' =>
  ∃ v, e = .returned (.tuple #[v, .int .i64 x]) ∧ w'.ownsRow w.heap.size 3 1 v l.length (l.map (Value.int .i64)) ∧ Below w.heap.size w w'


theorem list_of_own {W : World} {B : Nat} {v : Value} {l : List Int} (h : W.ownsRow B 3 1 v l.length (l.map (Value.int .i64))) (hl : l.length ≤ 4611686018427387904) :
    ∃ base cap, v = .slice base l.length cap ∧ LIn W base l ∧ l.length ≤ cap := by
  obtain ⟨base, cap, rfl, rd, hc⟩ := own_rd h
  exact ⟨base, cap, rfl, ⟨rd, hl⟩, hc⟩
end
end

section
open Go.RowKit Go.Shelf

set_option maxRecDepth 100000 in set_option maxHeartbeats 4000000 in
theorem ref02_Told (d : V3) (b : Bx) (w : World) : Calls Tryd.prog 123 #[.agg #[.int .i64 d.x, .int .i64 d.y, .int .i64 d.z], .agg #[.int .i64 b.b.x, .int .i64 b.b.y, .int .i64 b.b.z, .int .i64 b.s.x, .int .i64 b.s.y, .int .i64 b.s.z]] w (RB w (.agg #[.int .i64 (b.can d).b.x, .int .i64 (b.can d).b.y, .int .i64 (b.can d).b.z, .int .i64 (b.can d).s.x, .int .i64 (b.can d).s.y, .int .i64 (b.can d).s.z])) := by
  cases g0 : b.s.x == d.x <;> cases g1 : b.s.y == d.y <;> cases g2 : b.s.z == d.z
  all_goals
    have hq := Lib.hid (show b.can d = _ by simp only [Bx.can, g0, g1, g2, cond_true, cond_false]; rfl)
    rw [hq.out]
    go_enter Tryd.func123, Tryd.ntmps123
    go_wp2_with fail
    refine wp_loop_rounds 4 ?_
    go_wp2_with (first | (rw [rounds_succ]) | (refine wp_region_quiet_lit (by kernel_rfl) (by kernel_rfl) ?_; (repeat (any_goals (first | go_big_quiet_step (fail) | quiet_step (fail) | (refine wpQuiet_step (fun K hK => ?_); go_simp; split <;> (refine hK _ ?_; clear hK K))))); all_goals (refine wpQuiet_nil ?_; intro _ hw'; obtain ⟨nq, hw''⟩ := hw'; subst hw'')))
    refine bodyPost_ret ?_ rfl ⟨rfl, ?_⟩
    · simp [results, Tryd.f123, go_sem]
    · (repeat (first | (with_reducible exact Below.refl _ _) | (with_reducible assumption) | (with_reducible refine below_alloc ?_ _) | (with_reducible refine below_drewN ?_ _) | (with_reducible refine Below.drew ?_) | (with_reducible refine below_then ?_ (by with_reducible assumption)) | (with_reducible refine Below.setCell ?_ (by go_size) _)))

/-- All midplanes of a box that may be; none of one that may not. -/
def nodesV (d : V3) (b : Bx) : List Int := if chk d b = 0 then b.all d else []
/-- The error of a box and a midplane; whether the box has it. -/
def hasE (d : V3) (b : Bx) (m : Int) : Int := if chk d b = 0 then if 0 ≤ m ∧ m < d.n then 0 else 2 else chk d b
def hasB (d : V3) (b : Bx) (m : Int) : Bool := if hasE d b m = 0 then b.has d m else false
theorem hasE_0 {d : V3} {b : Bx} {m : Int} (h : hasE d b m = 0) : chk d b = 0 ∧ 0 ≤ m ∧ m < d.n := by
  unfold hasE at h
  by_cases hc : chk d b = 0
  · rw [if_pos hc] at h
    by_cases hm : 0 ≤ m ∧ m < d.n
    · exact ⟨hc, hm⟩
    · rw [if_neg hm] at h; omega
  · rw [if_neg hc] at h; exact absurd h hc
end

section
open Go.RowKit Go.Shelf

theorem take_same {α : Type} {a b : List α} {k : Nat} (ha : k < a.length) (hb : k < b.length) (he : a.take k = b.take k) : a.take (k + 1) = b.take (k + 1) ↔ a[k] = b[k] := by
  rw [List.take_succ_eq_append_getElem ha, List.take_succ_eq_append_getElem hb, he]
  simp only [List.append_cancel_left_eq, List.cons.injEq, and_true]

set_option maxRecDepth 100000 in set_option maxHeartbeats 4000000 in
theorem ref02_Ints (ba bb : Option Addr) (ca cb : Nat) (a b : List Int) (w : World) (ha : LIn w ba a) (hb : LIn w bb b) :
    Calls Tryd.prog 17 #[.slice ba a.length ca, .slice bb b.length cb] w (RB w (.bool (decide (a = b)))) := by
  have HA := Lib.hid ha
  have HB := Lib.hid hb
  have hal := ha.len
  have hbl := hb.len
  clear ha hb
  by_cases hl : a.length = b.length
  · have e1 : ((a.length : Int) != (b.length : Int)) = false := by rw [bne_eq_false_iff_eq]; omega
    have HL := Lib.hid hl
    have l1 : a.length ≤ b.length := by omega
    have l2 : b.length ≤ a.length := by omega
    clear hl
    go_enter Tryd.func17, Tryd.ntmps17
    go_wp2_with fail
    go_loopw [5] (fun v wr => ∃ k : Nat, k ≤ a.length ∧ v = .int .i64 k ∧ a.take k = b.take k ∧ ∃ q, wr = w.drewN q) (fun v _ => a.length - (intOf v).toNat)
    case atStart => exact ⟨0, Nat.zero_le _, rfl, rfl, 0, rfl⟩
    case round =>
      obtain ⟨k, hk, rfl, he, q, rfl⟩ := hrel
      have HE := Lib.hid he
      clear he
      by_cases hlt : k < a.length
      · have hltb : k < b.length := by omega
        obtain ⟨bA, oA, rfl, hca⟩ := HA.out.rd k _ (getElem?_map_int hlt)
        obtain ⟨bB, oB, rfl, hcb⟩ := HB.out.rd k _ (getElem?_map_int hltb)
        by_cases hx : a[k] = b[k]
        · have hn := Lib.hid ((take_same hlt hltb HE.out).2 hx)
          have e2 : (a[k] != b[k]) = false := by rw [bne_eq_false_iff_eq, hx]
          clear hx
          go_wp2_with (refine wp_region_quiet_lit (by kernel_rfl) (by kernel_rfl) ?_; (repeat (any_goals (first | go_big_quiet_step (fail) | quiet_step (fail) | (refine wpQuiet_step (fun K hK => ?_); go_simp; split <;> (refine hK _ ?_; clear hK K))))); all_goals (refine wpQuiet_nil ?_; intro _ hw'; obtain ⟨nq, hw''⟩ := hw'; subst hw''))
          all_goals
            go_roundw
            case rel => exact ⟨k + 1, by omega, by go_num, hn.out, _, rfl⟩
            case measure => simp [intOf]; omega
        · have hn := Lib.hid (show ¬ a = b from fun h => hx (by subst h; rfl))
          have e2 : (a[k] != b[k]) = true := by rw [bne_iff_ne]; exact hx
          clear hx
          go_wp2_with (refine wp_region_quiet_lit (by kernel_rfl) (by kernel_rfl) ?_; (repeat (any_goals (first | go_big_quiet_step (fail) | quiet_step (fail) | (refine wpQuiet_step (fun K hK => ?_); go_simp; split <;> (refine hK _ ?_; clear hK K))))); all_goals (refine wpQuiet_nil ?_; intro _ hw'; obtain ⟨nq, hw''⟩ := hw'; subst hw''))
          all_goals
            go_returns
            exact ⟨ret_no hn.out, by (repeat (first | (with_reducible exact Below.refl _ _) | (with_reducible assumption) | (with_reducible refine below_alloc ?_ _) | (with_reducible refine below_drewN ?_ _) | (with_reducible refine Below.drew ?_) | (with_reducible refine below_then ?_ (by with_reducible assumption)) | (with_reducible refine Below.setCell ?_ (by go_size) _)))⟩
      · obtain rfl : k = a.length := by omega
        have hn := Lib.hid (show a = b by have := HE.out; rw [List.take_length, List.take_of_length_le (by omega)] at this; exact this)
        go_wp2_with fail
        go_returns
        exact ⟨ret_yes hn.out, by (repeat (first | (with_reducible exact Below.refl _ _) | (with_reducible assumption) | (with_reducible refine below_alloc ?_ _) | (with_reducible refine below_drewN ?_ _) | (with_reducible refine Below.drew ?_) | (with_reducible refine below_then ?_ (by with_reducible assumption)) | (with_reducible refine Below.setCell ?_ (by go_size) _)))⟩
  · have e1 : ((a.length : Int) != (b.length : Int)) = true := by rw [bne_iff_ne]; omega
    have HN := Lib.hid (show ¬ a = b from fun h => hl (by rw [h]))
    clear hl
    go_enter Tryd.func17, Tryd.ntmps17
    go_wp2_with fail
    go_returns
    exact ⟨ret_no HN.out, by (repeat (first | (with_reducible exact Below.refl _ _) | (with_reducible assumption) | (with_reducible refine below_alloc ?_ _) | (with_reducible refine below_drewN ?_ _) | (with_reducible refine Below.drew ?_) | (with_reducible refine below_then ?_ (by with_reducible assumption)) | (with_reducible refine Below.setCell ?_ (by go_size) _)))⟩
end
end Go.Proofs.YthabpiphfaedaaaDoor
