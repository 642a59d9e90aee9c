/- REF 02: whether two lists of integers are the same. -/
import Derived.Test.YthabpiphfaedaaaDoorListsI
namespace Go.Proofs.YthabpiphfaedaaaDoor
open Go.RowKit Go.Shelf

theorem take_same {α : Type} {a b : List α} {k : Nat} (ha : k < a.length) (hb : k < b.length) (he : a.take k = b.take k) : a.take (k + 1) = b.take (k + 1) ↔ a[k] = b[k] := by
  rw [List.take_succ_eq_append_getElem ha, List.take_succ_eq_append_getElem hb, he]
  simp only [List.append_cancel_left_eq, List.cons.injEq, and_true]

set_option maxRecDepth 100000 in set_option maxHeartbeats 4000000 in
theorem ref02_Ints (ba bb : Option Addr) (ca cb : Nat) (a b : List Int) (w : World) (ha : LIn w ba a) (hb : LIn w bb b) :
    Calls Tryd.prog 17 #[.slice ba a.length ca, .slice bb b.length cb] w (RB w (.bool (decide (a = b)))) := by
  have HA := Lib.hid ha
  have HB := Lib.hid hb
  have hal := ha.len
  have hbl := hb.len
  clear ha hb
  by_cases hl : a.length = b.length
  · have e1 : ((a.length : Int) != (b.length : Int)) = false := by rw [bne_eq_false_iff_eq]; omega
    have HL := Lib.hid hl
    have l1 : a.length ≤ b.length := by omega
    have l2 : b.length ≤ a.length := by omega
    clear hl
    go_enter Tryd.func17, Tryd.ntmps17
    go_wp2_with fail
    go_loopw [5] (fun v wr => ∃ k : Nat, k ≤ a.length ∧ v = .int .i64 k ∧ a.take k = b.take k ∧ ∃ q, wr = w.drewN q) (fun v _ => a.length - (intOf v).toNat)
    case atStart => exact ⟨0, Nat.zero_le _, rfl, rfl, 0, rfl⟩
    case round =>
      obtain ⟨k, hk, rfl, he, q, rfl⟩ := hrel
      have HE := Lib.hid he
      clear he
      by_cases hlt : k < a.length
      · have hltb : k < b.length := by omega
        obtain ⟨bA, oA, rfl, hca⟩ := HA.out.rd k _ (getElem?_map_int hlt)
        obtain ⟨bB, oB, rfl, hcb⟩ := HB.out.rd k _ (getElem?_map_int hltb)
        by_cases hx : a[k] = b[k]
        · have hn := Lib.hid ((take_same hlt hltb HE.out).2 hx)
          have e2 : (a[k] != b[k]) = false := by rw [bne_eq_false_iff_eq, hx]
          clear hx
          go_wp2_with (refine wp_region_quiet_lit (by kernel_rfl) (by kernel_rfl) ?_; (repeat (any_goals (first | go_big_quiet_step (fail) | quiet_step (fail) | (refine wpQuiet_step (fun K hK => ?_); go_simp; split <;> (refine hK _ ?_; clear hK K))))); all_goals (refine wpQuiet_nil ?_; intro _ hw'; obtain ⟨nq, hw''⟩ := hw'; subst hw''))
          all_goals
            go_roundw
            case rel => exact ⟨k + 1, by omega, by go_num, hn.out, _, rfl⟩
            case measure => simp [intOf]; omega
        · have hn := Lib.hid (show ¬ a = b from fun h => hx (by subst h; rfl))
          have e2 : (a[k] != b[k]) = true := by rw [bne_iff_ne]; exact hx
          clear hx
          go_wp2_with (refine wp_region_quiet_lit (by kernel_rfl) (by kernel_rfl) ?_; (repeat (any_goals (first | go_big_quiet_step (fail) | quiet_step (fail) | (refine wpQuiet_step (fun K hK => ?_); go_simp; split <;> (refine hK _ ?_; clear hK K))))); all_goals (refine wpQuiet_nil ?_; intro _ hw'; obtain ⟨nq, hw''⟩ := hw'; subst hw''))
          all_goals
            go_returns
            exact ⟨ret_no hn.out, by (repeat (first | (with_reducible exact Below.refl _ _) | (with_reducible assumption) | (with_reducible refine below_alloc ?_ _) | (with_reducible refine below_drewN ?_ _) | (with_reducible refine Below.drew ?_) | (with_reducible refine below_then ?_ (by with_reducible assumption)) | (with_reducible refine Below.setCell ?_ (by go_size) _)))⟩
      · obtain rfl : k = a.length := by omega
        have hn := Lib.hid (show a = b by have := HE.out; rw [List.take_length, List.take_of_length_le (by omega)] at this; exact this)
        go_wp2_with fail
        go_returns
        exact ⟨ret_yes hn.out, by (repeat (first | (with_reducible exact Below.refl _ _) | (with_reducible assumption) | (with_reducible refine below_alloc ?_ _) | (with_reducible refine below_drewN ?_ _) | (with_reducible refine Below.drew ?_) | (with_reducible refine below_then ?_ (by with_reducible assumption)) | (with_reducible refine Below.setCell ?_ (by go_size) _)))⟩
  · have e1 : ((a.length : Int) != (b.length : Int)) = true := by rw [bne_iff_ne]; omega
    have HN := Lib.hid (show ¬ a = b from fun h => hl (by rw [h]))
    clear hl
    go_enter Tryd.func17, Tryd.ntmps17
    go_wp2_with fail
    go_returns
    exact ⟨ret_no HN.out, by (repeat (first | (with_reducible exact Below.refl _ _) | (with_reducible assumption) | (with_reducible refine below_alloc ?_ _) | (with_reducible refine below_drewN ?_ _) | (with_reducible refine Below.drew ?_) | (with_reducible refine below_then ?_ (by with_reducible assumption)) | (with_reducible refine Below.setCell ?_ (by go_size) _)))⟩
end Go.Proofs.YthabpiphfaedaaaDoor
