/- CAL: what is left of a slot; the loop that keeps. -/
import Derived.Test.YtfikgjcmnooglaaCal1
import Derived.Test.YtfikgjcmnooglaaBlk
import Derived.IntWalk
namespace Go.Proofs.Ytfikgjcmnooglaa
open Go.RowKit Go.Shelf

/-- A slot, ended if it is theirs. -/
def cutS (ow to : Int) (s : Sl) : Sl := if s.o = ow then ⟨s.f, min s.t to, s.o⟩ else s
def cutB (ow to : Int) (s : Sl) : Bool := decide ((cutS ow to s).f < (cutS ow to s).t)
set_option maxRecDepth 100000 in set_option maxHeartbeats 4000000 in
theorem cal_Cut1_any (p q : Nat) (s : Sl) (ow to : Int) (w : World) (hp : w.cell? ⟨p, 0, none⟩ = some (.int .i64 ow)) (hq : w.cell? ⟨q, 0, none⟩ = some (.int .i64 to)) (f t o : Int) (z : Bool) (hv : cutS ow to s = ⟨f, t, o⟩) (hz : z = decide (f < t)) :
    Calls Try.prog 99 #[.agg #[.int .i64 s.f, .int .i64 s.t, .int .i64 s.o], .pointer (some ⟨p, 0, none⟩), .pointer (some ⟨q, 0, none⟩)] w (RB w (.tuple #[.agg #[.int .i64 f, .int .i64 t, .int .i64 o], .bool z])) := by
  have hpl := World.block_lt_of_cell? w _ hp
  have hql := World.block_lt_of_cell? w _ hq
  simp only [] at hpl hql
  by_cases h : s.o = ow
  · rw [cutS, if_pos h] at hv
    have heq : (s.o == ow) = true := by simpa using h
    clear h
    injection hv with e1 e2 e3
    by_cases hm : s.t ≤ to
    · have e2' : s.t = t := by omega
      subst e1 e2' e3
      have HZ := Lib.hid hz
      clear hz e2
      go_enter Try.func99, Try.ntmps99
      go_wp2_with fail
      go_region
      all_goals go_wp2_with fail
      all_goals exact bodyPost_ret (v := .tuple #[.agg #[.int .i64 s.f, .int .i64 s.t, .int .i64 s.o], .bool (decide (s.f < s.t))]) (by simp [results, Try.f99, go_sem]) rfl ⟨by rw [HZ.out], by (repeat (first | (with_reducible exact Below.refl _ _) | (with_reducible assumption) | (with_reducible refine below_alloc ?_ _) | (with_reducible refine below_drewN ?_ _) | (with_reducible refine Below.drew ?_) | (with_reducible refine below_then ?_ (by with_reducible assumption)) | (with_reducible refine Below.setCell ?_ (by go_size) _)))⟩
    · have e2' : to = t := by omega
      subst e1 e2' e3
      have HZ := Lib.hid hz
      clear hz e2
      go_enter Try.func99, Try.ntmps99
      go_wp2_with fail
      go_region
      all_goals go_wp2_with fail
      all_goals exact bodyPost_ret (v := .tuple #[.agg #[.int .i64 s.f, .int .i64 to, .int .i64 s.o], .bool (decide (s.f < to))]) (by simp [results, Try.f99, go_sem]) rfl ⟨by rw [HZ.out], by (repeat (first | (with_reducible exact Below.refl _ _) | (with_reducible assumption) | (with_reducible refine below_alloc ?_ _) | (with_reducible refine below_drewN ?_ _) | (with_reducible refine Below.drew ?_) | (with_reducible refine below_then ?_ (by with_reducible assumption)) | (with_reducible refine Below.setCell ?_ (by go_size) _)))⟩
  · rw [cutS, if_neg h] at hv
    have heq : (s.o == ow) = false := by simpa using h
    clear h
    subst hv
    have HZ := Lib.hid hz
    clear hz
    go_enter Try.func99, Try.ntmps99
    go_wp2_with fail
    go_region
    all_goals go_wp2_with fail
    all_goals exact bodyPost_ret (v := .tuple #[.agg #[.int .i64 f, .int .i64 t, .int .i64 o], .bool (decide (f < t))]) (by simp [results, Try.f99, go_sem]) rfl ⟨by rw [HZ.out], by (repeat (first | (with_reducible exact Below.refl _ _) | (with_reducible assumption) | (with_reducible refine below_alloc ?_ _) | (with_reducible refine below_drewN ?_ _) | (with_reducible refine Below.drew ?_) | (with_reducible refine below_then ?_ (by with_reducible assumption)) | (with_reducible refine Below.setCell ?_ (by go_size) _)))⟩

/-- What is left of a calendar. -/
def cutL (ow to : Int) (c : List Sl) : List Sl := (c.map (cutS ow to)).filter (fun s => decide (s.f < s.t))
theorem cutL_succ {c : List Sl} {k : Nat} (hk : k < c.length) (ow to : Int) : cutL ow to (c.take (k + 1)) = cutL ow to (c.take k) ++ (if (cutS ow to c[k]).f < (cutS ow to c[k]).t then [cutS ow to c[k]] else []) := by
  unfold cutL
  rw [List.take_add_one, List.getElem?_eq_getElem hk, List.map_append, List.filter_append]
  congr 1
  simp only [Option.toList, List.map_cons, List.map_nil, List.filter_cons, List.filter_nil, decide_eq_true_eq]
theorem cutL_len (ow to : Int) (c : List Sl) : (cutL ow to c).length ≤ c.length := by
  unfold cutL
  exact Nat.le_trans (List.length_filter_le _ _) (by simp)
/-- A new calendar is handed back; nothing that was there has turned. -/
def RS (w : World) (l : List Sl) : Ending → World → Prop := fun e w' => ∃ v, e = .returned v ∧ w'.ownsRow w.heap.size 57 3 v l.length (slc l) ∧ Below w.heap.size w w'
theorem infoSlot : (Try.prog.info? 57).map (fun i => (i.zero, i.size, i.bytes)) = some (some (.agg #[.int .i64 0, .int .i64 0, .int .i64 0]), 3, 24) := by kernel_rfl
theorem slc_app (a b : List Sl) : slc (a ++ b) = slc a ++ slc b := by unfold slc; rw [List.flatMap_append]

theorem cell_new3 (w : World) (t : TypeId) (x y z : Value) (B : Nat) (hB : B = w.heap.size) : ∀ j u, ([x, y, z] : List Value)[j]? = some u → (w.alloc (.cells #[x, y, z] t)).cell? ((⟨B, 0, none⟩ : Addr).add j) = some u := by
  intro j u hu
  subst hB
  rw [Addr.add_lit, Nat.zero_add, World.cell?_alloc_at (w := w) _ _ w.heap.size j rfl]
  simpa using hu

set_option maxRecDepth 100000 in set_option maxHeartbeats 4000000 in
theorem cal_kept (ba : Option Addr) (ca : Nat) (c : List Sl) (p q : Nat) (ow to : Int) (w : World) (hc : CIn w ba c) (hl : c.length ≤ 5000) (hp : w.cell? ⟨p, 0, none⟩ = some (.int .i64 ow)) (hq : w.cell? ⟨q, 0, none⟩ = some (.int .i64 to)) :
    Calls Try.prog 98 #[.slice ba c.length ca, .func (.func 99) #[] #[.pointer (some ⟨p, 0, none⟩), .pointer (some ⟨q, 0, none⟩)]] w (RS w (cutL ow to c)) := by
  have eg : ∀ args w, (callFunc 99 args).run Try.prog w = .ok (.enter 99 args) w := enters_of Try.func99 (by kernel_rfl) rfl
  obtain ⟨i0, hi, iz0, iz1, iz2⟩ := info_parts infoSlot
  have hpl := World.block_lt_of_cell? w _ hp
  have hql := World.block_lt_of_cell? w _ hq
  simp only [] at hpl hql
  have HP := Lib.hid hp
  have HQ := Lib.hid hq
  have HC := Lib.hid hc
  clear hc hp hq
  go_enter Try.func98, Try.ntmps98
  go_wp2_with fail
  go_loopw [4, 11] (fun v i wr => ∃ k : Nat, k ≤ c.length ∧ i = .int .i64 k ∧ wr.ownsRow w.heap.size 57 3 v (cutL ow to (c.take k)).length (slc (cutL ow to (c.take k))) ∧ Below w.heap.size w wr) (fun _ i _ => c.length - (intOf i).toNat)
  case atStart => exact ⟨0, Nat.zero_le _, rfl, ⟨rfl, .inl ⟨rfl, rfl⟩⟩, Below.refl _ _⟩
  case round =>
    obtain ⟨k, hk, rfl, hown, hbel⟩ := hrel
    have HB := Lib.hid hbel
    have HO := Lib.hid hown
    clear hbel hown
    by_cases hlt : k < c.length
    · obtain ⟨b, off, rfl, c0, c1, c2, hbl⟩ := (HC.out.keep HB.out).at hlt
      have hs := Lib.hid (cutL_succ hlt ow to)
      have hlen := cutL_len ow to (c.take k)
      have hlk : (c.take k).length = k := by rw [List.length_take]; omega
      obtain ⟨s, hsl⟩ : ∃ s, s = c[k] := ⟨_, rfl⟩
      rw [← hsl] at c0 c1 c2 hs
      obtain ⟨u, hu⟩ : ∃ u, u = cutS ow to s := ⟨_, rfl⟩
      rw [← hu] at hs
      have hz : decide (u.f < u.t) = true ∨ decide (u.f < u.t) = false := by cases decide (u.f < u.t) <;> simp
      obtain ⟨uf, ut, uo⟩ := u
      simp only [] at hs hz
      obtain ⟨old, hold⟩ : ∃ old, old = cutL ow to (c.take k) := ⟨_, rfl⟩
      rw [← hold] at hs HO hlen
      have HU := Lib.hid hu.symm
      clear hu hsl hold
      rcases hz with hz | hz
      · have HM := Lib.hid (fun W h1 h2 => cal_Cut1_any p q s ow to W h1 h2 uf ut uo true HU.out hz.symm)
        have hs2 := Lib.hid (hs.out.trans (by rw [if_pos (of_decide_eq_true hz)] : _ = old ++ [⟨uf, ut, uo⟩]))
        clear hs hz
        go_wp2_with fail
        have hB1 : Below w.heap.size w (wr.alloc (.cells #[.int .i64 s.f, .int .i64 s.t, .int .i64 s.o] 57)) := below_alloc HB.out _
        refine (HM.out _ ((hB1.cell (p := ⟨p, 0, none⟩) hpl).trans HP.out) ((hB1.cell (p := ⟨q, 0, none⟩) hql).trans HQ.out)).mono ?_
        rintro e w1 ⟨rfl, hb1⟩
        have hB2 := below_then hB1 hb1
        have HO2 := Lib.hid (own_keep (HO.out.alloc _) hb1)
        have hz0 := HB.out.size
        have hz2 := hB2.size
        clear hb1 hB1 HM
        go_wp2_with (at_builtin; refine wpList_append_own _ rfl _ _ 22 rfl (w.heap.size) 57 i0 (.agg #[.int .i64 0, .int .i64 0, .int .i64 0]) 3 24 Try.underlying22 hi iz0 iz1 iz2 rfl (by decide) _ _ _ rfl ((HO2.out.alloc _).alloc _) ⟨_, 0, none⟩ 1 1 [.int .i64 uf, .int .i64 ut, .int .i64 uo] rfl rfl (cell_new3 _ _ _ _ _ _ (by simp)) (by simp [Value.oneCell']) ?ap3 ?ap4 ?ap5 ?_)
        case ap3 => unfold maxLen; omega
        case ap4 => omega
        case ap5 => simp; omega
        intro v' w3 o3 hg3 _
        have n3 := own_below ((HO2.out.alloc _).alloc _) hg3 (by simp; omega)
        have hB3 : Below w.heap.size w w3 := (below_alloc (below_alloc hB2 _) _).trans n3
        have hown3 : w3.ownsRow w.heap.size 57 3 v' (cutL ow to (c.take (k + 1))).length (slc (cutL ow to (c.take (k + 1)))) := by
          rw [hs2.out, slc_app, show slc [(⟨uf, ut, uo⟩ : Sl)] = [.int .i64 uf, .int .i64 ut, .int .i64 uo] from rfl]; simpa using o3
        clear n3 o3 hg3
        go_wp2_with fail
        go_roundw
        case rel => exact ⟨k + 1, by omega, by go_num, hown3, hB3⟩
        case measure => (simp [intOf] <;> omega)
      · have HM := Lib.hid (fun W h1 h2 => cal_Cut1_any p q s ow to W h1 h2 uf ut uo false HU.out hz.symm)
        have hs2 := Lib.hid (hs.out.trans (by rw [if_neg (of_decide_eq_false hz), List.append_nil] : _ = old))
        clear hs hz
        go_wp2_with fail
        have hB1 : Below w.heap.size w (wr.alloc (.cells #[.int .i64 s.f, .int .i64 s.t, .int .i64 s.o] 57)) := below_alloc HB.out _
        refine (HM.out _ ((hB1.cell (p := ⟨p, 0, none⟩) hpl).trans HP.out) ((hB1.cell (p := ⟨q, 0, none⟩) hql).trans HQ.out)).mono ?_
        rintro e w1 ⟨rfl, hb1⟩
        have hB2 := below_then hB1 hb1
        have HO2 := Lib.hid (own_keep (HO.out.alloc _) hb1)
        clear hb1 hB1 HM
        go_wp2_with fail
        go_roundw
        case rel => exact ⟨k + 1, by omega, by go_num, by rw [hs2.out]; exact HO2.out.alloc _, below_alloc hB2 _⟩
        case measure => (simp [intOf] <;> omega)
    · obtain rfl : k = c.length := by omega
      rw [List.take_length] at HO
      go_wp2_with fail
      go_returns
      exact ⟨_, rfl, HO.out, HB.out⟩
end Go.Proofs.Ytfikgjcmnooglaa
