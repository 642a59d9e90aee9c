/- REF 02: whether two lists of integers are the same. -/
import Derived.IntWalk
import Derived.Lib.SliceRun
import Derived.Test.YthabpiphfaedaaaDoorQ1FaultHits
import Derived.Test.YthabpiphfaedaaaDoorQ0CopyK
namespace Go.Proofs.YthabpiphfaedaaaDoor

section
section
open Go.RowKit Go.Shelf

def ic (l : List Int) : List Value := l.map (Value.int .i64)
theorem ic_len (l : List Int) : (ic l).length = l.length := by simp [ic]
theorem ic_app (a b : List Int) : ic (a ++ b) = ic a ++ ic b := by simp [ic]
theorem ic_one (l : List Int) : ∀ u ∈ ic l, u.oneCell' = true := by
  intro u hu
  obtain ⟨x, _, rfl⟩ := List.mem_map.1 hu
  rfl
/-- A new list is handed back; nothing that was there has turned. -/
def RL (w : World) (l : List Int) : Ending → World → Prop := fun e w' => ∃ v, e = .returned v ∧ w'.ownsRow w.heap.size 3 1 v l.length (ic l) ∧ Below w.heap.size w w'
end

section
open Go.RowKit Go.Shelf

/-- A list of integers that came in. -/
structure LIn (w : World) (base : Option Addr) (l : List Int) : Prop where
  rd : Rd w base (l.map (Value.int .i64))
  len : l.length ≤ 4611686018427387904
theorem LIn.keep {w W : World} {base : Option Addr} {l : List Int} (h : LIn w base l) (hb : Below w.heap.size w W) : LIn W base l := ⟨h.rd.keep hb, h.len⟩

/-- A new list of integers, and an error. -/
def RIE (w : World) (l : List Int) (x : Int) : Ending → World → Prop := fun e w' =>
  ∃ v, e = .returned (.tuple #[v, .int .i64 x]) ∧ w'.ownsRow w.heap.size 3 1 v l.length (l.map (Value.int .i64)) ∧ Below w.heap.size w w'


theorem list_of_own {W : World} {B : Nat} {v : Value} {l : List Int} (h : W.ownsRow B 3 1 v l.length (l.map (Value.int .i64))) (hl : l.length ≤ 4611686018427387904) :
    ∃ base cap, v = .slice base l.length cap ∧ LIn W base l ∧ l.length ≤ cap := by
  obtain ⟨base, cap, rfl, rd, hc⟩ := own_rd h
  exact ⟨base, cap, rfl, ⟨rd, hl⟩, hc⟩
end
end

section
open Go.RowKit Go.Shelf

set_option maxRecDepth 100000 in set_option maxHeartbeats 4000000 in
theorem slices_Clone (ba : Option Addr) (ca : Nat) (c : List Int) (w : World) (hr : Rd w ba (ic c)) (hna : ba = none → c.length = 0) (hl : c.length ≤ 1000000) :
    Calls Tryd.prog 98 #[.slice ba c.length ca] w (RL w c) := by
  obtain ⟨i0, hi, iz0, iz1, iz2⟩ := info_parts infoInt
  have q22 : ∀ (w : World) (a : Option Addr) (n c n' c' : Nat), (binOp .eql 38 (.slice a n c) (.slice none n' c')).run Tryd.prog w = .ok (.bool a.isNone) w := fun w a n c n' c' => Lib.run_eql_slice_nil w _ _ a n c n' c' Tryd.underlying38
  cases ba with
  | none =>
    obtain rfl : c = [] := List.eq_nil_of_length_eq_zero (hna rfl)
    clear hna hr hl
    go_enter Tryd.func98, Tryd.ntmps98
    go_wp2_with fail
    go_returns
    exact ⟨_, rfl, ⟨rfl, .inl ⟨rfl, rfl⟩⟩, by (repeat (first | (with_reducible exact Below.refl _ _) | (with_reducible assumption) | (with_reducible refine below_alloc ?_ _) | (with_reducible refine below_drewN ?_ _) | (with_reducible refine Below.drew ?_) | (with_reducible refine below_then ?_ (by with_reducible assumption)) | (with_reducible refine Below.setCell ?_ (by go_size) _)))⟩
  | some a =>
    have HR := Lib.hid hr
    clear hr hna
    go_enter Tryd.func98, Tryd.ntmps98
    go_wp2_with (at_builtin; refine wpList_append_own _ rfl _ _ 38 rfl w.heap.size 3 i0 (.int .i64 0) 1 8 Tryd.underlying38 hi iz0 iz1 iz2 rfl (by decide) _ _ _ rfl (World.ownsRow_made w #[] 0 (Nat.le_refl _) (Nat.zero_le _) (by simp)) a c.length ca (ic c) rfl (by rw [ic_len, Nat.mul_one]) ?qc2 (ic_one c) ?qc4 ?qc5 ?qc6 ?_)
    case qc2 =>
      intro j u hj
      obtain ⟨b, off, e, h⟩ := HR.out j u hj
      cases e
      rw [Addr.add_lit]
      exact Lib.cell?_alloc_some _ h
    case qc4 => unfold maxLen; omega
    case qc5 => omega
    case qc6 => simp
    intro v' w1 hown hgrow hnil
    go_wp2_with fail
    go_returns
    exact ⟨_, rfl, by simpa using hown, ((Below.refl _ w).alloc (Nat.le_refl _) _).grown hgrow (by simp) (by intro k hk; simp [Value.ownBlock] at hk; omega)⟩
end

section
open Go.RowKit Go.Shelf

theorem take_same {α : Type} {a b : List α} {k : Nat} (ha : k < a.length) (hb : k < b.length) (he : a.take k = b.take k) : a.take (k + 1) = b.take (k + 1) ↔ a[k] = b[k] := by
  rw [List.take_succ_eq_append_getElem ha, List.take_succ_eq_append_getElem hb, he]
  simp only [List.append_cancel_left_eq, List.cons.injEq, and_true]

set_option maxRecDepth 100000 in set_option maxHeartbeats 4000000 in
theorem ref02_Ints (ba bb : Option Addr) (ca cb : Nat) (a b : List Int) (w : World) (ha : LIn w ba a) (hb : LIn w bb b) :
    Calls Tryd.prog 17 #[.slice ba a.length ca, .slice bb b.length cb] w (RB w (.bool (decide (a = b)))) := by
  have HA := Lib.hid ha
  have HB := Lib.hid hb
  have hal := ha.len
  have hbl := hb.len
  clear ha hb
  by_cases hl : a.length = b.length
  · have e1 : ((a.length : Int) != (b.length : Int)) = false := by rw [bne_eq_false_iff_eq]; omega
    have HL := Lib.hid hl
    have l1 : a.length ≤ b.length := by omega
    have l2 : b.length ≤ a.length := by omega
    clear hl
    go_enter Tryd.func17, Tryd.ntmps17
    go_wp2_with fail
    go_loopw [5] (fun v wr => ∃ k : Nat, k ≤ a.length ∧ v = .int .i64 k ∧ a.take k = b.take k ∧ ∃ q, wr = w.drewN q) (fun v _ => a.length - (intOf v).toNat)
    case atStart => exact ⟨0, Nat.zero_le _, rfl, rfl, 0, rfl⟩
    case round =>
      obtain ⟨k, hk, rfl, he, q, rfl⟩ := hrel
      have HE := Lib.hid he
      clear he
      by_cases hlt : k < a.length
      · have hltb : k < b.length := by omega
        obtain ⟨bA, oA, rfl, hca⟩ := HA.out.rd k _ (getElem?_map_int hlt)
        obtain ⟨bB, oB, rfl, hcb⟩ := HB.out.rd k _ (getElem?_map_int hltb)
        by_cases hx : a[k] = b[k]
        · have hn := Lib.hid ((take_same hlt hltb HE.out).2 hx)
          have e2 : (a[k] != b[k]) = false := by rw [bne_eq_false_iff_eq, hx]
          clear hx
          go_wp2_with (refine wp_region_quiet_lit (by kernel_rfl) (by kernel_rfl) ?_; (repeat (any_goals (first | go_big_quiet_step (fail) | quiet_step (fail) | (refine wpQuiet_step (fun K hK => ?_); go_simp; split <;> (refine hK _ ?_; clear hK K))))); all_goals (refine wpQuiet_nil ?_; intro _ hw'; obtain ⟨nq, hw''⟩ := hw'; subst hw''))
          all_goals
            go_roundw
            case rel => exact ⟨k + 1, by omega, by go_num, hn.out, _, rfl⟩
            case measure => simp [intOf]; omega
        · have hn := Lib.hid (show ¬ a = b from fun h => hx (by subst h; rfl))
          have e2 : (a[k] != b[k]) = true := by rw [bne_iff_ne]; exact hx
          clear hx
          go_wp2_with (refine wp_region_quiet_lit (by kernel_rfl) (by kernel_rfl) ?_; (repeat (any_goals (first | go_big_quiet_step (fail) | quiet_step (fail) | (refine wpQuiet_step (fun K hK => ?_); go_simp; split <;> (refine hK _ ?_; clear hK K))))); all_goals (refine wpQuiet_nil ?_; intro _ hw'; obtain ⟨nq, hw''⟩ := hw'; subst hw''))
          all_goals
            go_returns
            exact ⟨ret_no hn.out, by (repeat (first | (with_reducible exact Below.refl _ _) | (with_reducible assumption) | (with_reducible refine below_alloc ?_ _) | (with_reducible refine below_drewN ?_ _) | (with_reducible refine Below.drew ?_) | (with_reducible refine below_then ?_ (by with_reducible assumption)) | (with_reducible refine Below.setCell ?_ (by go_size) _)))⟩
      · obtain rfl : k = a.length := by omega
        have hn := Lib.hid (show a = b by have := HE.out; rw [List.take_length, List.take_of_length_le (by omega)] at this; exact this)
        go_wp2_with fail
        go_returns
        exact ⟨ret_yes hn.out, by (repeat (first | (with_reducible exact Below.refl _ _) | (with_reducible assumption) | (with_reducible refine below_alloc ?_ _) | (with_reducible refine below_drewN ?_ _) | (with_reducible refine Below.drew ?_) | (with_reducible refine below_then ?_ (by with_reducible assumption)) | (with_reducible refine Below.setCell ?_ (by go_size) _)))⟩
  · have e1 : ((a.length : Int) != (b.length : Int)) = true := by rw [bne_iff_ne]; omega
    have HN := Lib.hid (show ¬ a = b from fun h => hl (by rw [h]))
    clear hl
    go_enter Tryd.func17, Tryd.ntmps17
    go_wp2_with fail
    go_returns
    exact ⟨ret_no HN.out, by (repeat (first | (with_reducible exact Below.refl _ _) | (with_reducible assumption) | (with_reducible refine below_alloc ?_ _) | (with_reducible refine below_drewN ?_ _) | (with_reducible refine Below.drew ?_) | (with_reducible refine below_then ?_ (by with_reducible assumption)) | (with_reducible refine Below.setCell ?_ (by go_size) _)))⟩
end
end Go.Proofs.YthabpiphfaedaaaDoor
