/- CalTurns: a calendar with a slot, without an owner's, and with them ended, or the errors, are the document's, in new memory: the call returns true. -/
import Derived.Test.YtfikgjcmnooglaaCalOwn
import Derived.Test.YtfikgjcmnooglaaPutLaw
import Derived.Test.YtfikgjcmnooglaaRowCal
import Derived.Test.YtfikgjcmnooglaaCopyE
namespace Go.Proofs.Ytfikgjcmnooglaa
open Go.ChangeShapes Go.WideShapes Go.ChangeAt Go.RowKit Go.Shelf

theorem slc_set : ∀ (l : List Sl) (k : Nat) (x : Sl) (o : Int), l[k]? = some x → slc (l.set k ⟨x.f, x.t, o⟩) = (slc l).set (k * 3 + 2) (.int .i64 o)
  | s :: l, 0, x, o, h => by
    simp only [List.getElem?_cons_zero, Option.some.injEq] at h
    subst h
    rfl
  | s :: l, k + 1, x, o, h => by
    have ih := slc_set l k x o (by simpa using h)
    rw [show (k + 1) * 3 + 2 = k * 3 + 2 + 1 + 1 + 1 by omega]
    simp only [List.set_cons_succ]
    show s.cells ++ slc (l.set k ⟨x.f, x.t, o⟩) = ((Value.int .i64 s.f :: Value.int .i64 s.t :: Value.int .i64 s.o :: slc l)).set (k * 3 + 2 + 1 + 1 + 1) (.int .i64 o)
    rw [ih]
    rfl
set_option maxRecDepth 100000 in set_option maxHeartbeats 4000000 in
theorem own_empty (w : World) (o : Obj) (e : TypeId) (size : Nat) : ((w.alloc o).alloc (.cells #[] e)).ownsRow (w.heap.size + 1) e size (.slice (some ⟨w.heap.size + 1, 0, none⟩) 0 0) 0 [] :=
  ⟨by simp, .inr ⟨w.heap.size + 1, 0, #[], rfl, Nat.le_refl _, (show ((w.heap.push o).push (.cells #[] e))[w.heap.size + 1]? = _ by rw [show w.heap.size + 1 = (w.heap.push o).size by rw [Array.size_push]]; exact Array.getElem?_push_size), Nat.le_refl _, Nat.zero_le _, by simp, by simp⟩⟩

/-- A row of slots of the call's own: one's owner turned. -/
theorem row_turned {w : World} {B g : Nat} {cap : Nat} {l : List Sl} (h : w.ownsRow B 57 3 (.slice (some ⟨g, 0, none⟩) l.length cap) l.length (slc l)) {k : Nat} {x : Sl} (hk : l[k]? = some x) (o : Int) :
    (w.setCell ⟨g, k * 3 + 2, none⟩ (.int .i64 o)).ownsRow B 57 3 (.slice (some ⟨g, 0, none⟩) l.length cap) (l.set k ⟨x.f, x.t, o⟩).length (slc (l.set k ⟨x.f, x.t, o⟩)) := by
  rw [slc_set l k x o hk, List.length_set]
  exact (h.stored (k * 3 + 2) (.int .i64 o)).1
theorem other_kept {w : World} {B g j : Nat} {v u : Value} {n : Nat} {xs : List Value} {e : TypeId} {size : Nat} (h : w.ownsRow B e size v n xs) (hne : v.ownBlock ≠ some g) : (w.setCell ⟨g, j, none⟩ u).ownsRow B e size v n xs :=
  h.kept (row := some g) ⟨rfl, rfl, rfl, by simp, fun k _ hk => heap_setCell_other w ⟨g, j, none⟩ k u (fun e => hk (by simp [e]))⟩ (by
    cases hv : v.ownBlock with
    | none => exact .inl rfl
    | some x => exact .inr (by rw [← hv]; exact hne))
theorem own_cell {w : World} {B g cap : Nat} {l : List Sl} (h : w.ownsRow B 57 3 (.slice (some ⟨g, 0, none⟩) l.length cap) l.length (slc l)) {k : Nat} (hk : k < l.length) : w.cell? ⟨g, k * 3 + 2, none⟩ = some (.int .i64 l[k].o) := by
  rw [h.cellAt (k * 3 + 2) (by omega), slc_at hk 2 (by omega)]
  rfl
theorem own_slice {w : World} {B : Nat} {v : Value} {l : List Sl} (h : w.ownsRow B 57 3 v l.length (slc l)) : (v = .slice none l.length 0 ∧ l.length = 0) ∨ ∃ g cap, v = .slice (some ⟨g, 0, none⟩) l.length cap ∧ l.length ≤ cap ∧ B ≤ g ∧ g < w.heap.size := by
  rcases h.2 with ⟨rfl, hz⟩ | ⟨g, cap, cur, rfl, hb, hg, hn, _⟩
  · rw [hz]; exact .inl ⟨rfl, rfl⟩
  · exact .inr ⟨g, cap, rfl, hn, hb, (Array.getElem?_eq_some_iff.1 hg).1⟩

set_option maxRecDepth 100000 in set_option maxHeartbeats 4000000 in
theorem core_CalTurns (ba : Option Addr) (ca : Nat) (c : List Sl) (s : Sl) (ow tm : Int) (w : World) (hr : Rd w ba (slc c)) (hca : c.length ≤ ca) (hna : ba = none → c.length = 0 ∧ ca = 0) (h5 : c.length ≤ 5000) :
    Calls Try.prog 5 #[.slice ba c.length ca, .agg #[.int .i64 s.f, .int .i64 s.t, .int .i64 s.o], .int .i64 ow, .int .i64 tm] w (RB w (.bool true)) := by
  obtain ⟨i0, hi, iz0, iz1, iz2⟩ := info_parts infoSlot
  have HC0 := Lib.hid (CS.mk1 ⟨hr, by omega⟩ hca hna)
  have hd0 : decide (5000 < c.length) = false := decide_eq_false (by omega)
  have K1 := Lib.hid (fun W v (h : CS W v c) => s_Put h s)
  have K2 := Lib.hid (fun W v (h : CS W v c) => s_RPut h s)
  have K3 := Lib.hid (fun W v (h : CS W v c) => s_Take h ow)
  have K4 := Lib.hid (fun W v (h : CS W v c) => s_RTake h ow)
  have K5 := Lib.hid (fun W v (h : CS W v c) => s_Cut h ow tm)
  have K6 := Lib.hid (fun W v (h : CS W v c) => s_RCut h ow tm)
  have K7 := Lib.hid (fun W v (h : CS W v c) => s_Check h)
  have K8 := Lib.hid (fun W v (h : CS W v c) => s_RCheck h)
  have S := fun (d : List Sl) W v u (h : CS W v d) (h2 : CS W u d) => Calls.rb_eq (s_Same h h2) (show Value.bool (decide _) = .bool true by rw [decide_eq_true rfl])
  have S1 := Lib.hid (S (putV c s))
  have S2 := Lib.hid (S (cutV ow 0 c))
  have S3 := Lib.hid (S (cutV ow tm c))
  have S4 := Lib.hid (S c)
  have l1 := putV_len c s
  have l2 := cutV_len ow 0 c
  have l3 := cutV_len ow tm c
  have HR0 := Lib.hid hr
  clear S hr
  generalize putV c s = P at *
  generalize putE c s = pe at *
  generalize cutV ow 0 c = T at *
  generalize cutV ow tm c = U at *
  generalize calE c = ce at *
  go_enter Try.func5, Try.ntmps5
  go_wp2_with (at_builtin; refine wpList_copyE _ rfl _ _ 22 rfl 57 i0 (.agg #[.int .i64 0, .int .i64 0, .int .i64 0]) 3 24 Try.underlying22 hi iz0 iz1 iz2 rfl (by decide) (by decide) (w.heap.size + 1) (by simp [go_sem]) _ rfl (own_empty w _ _ _) ba c.length ca (slc c) rfl (slc_len c) hna (HR0.out.keep (by (repeat (first | (with_reducible exact Below.refl _ _) | (with_reducible assumption) | (with_reducible refine below_alloc ?_ _) | (with_reducible refine below_drewN ?_ _) | (with_reducible refine Below.drew ?_) | (with_reducible refine below_then ?_ (by with_reducible assumption)) | (with_reducible refine Below.setCell ?_ (by go_size) _))))) (slc_one c) (by omega) ?_)
  intro vo w1 r1 hb1
  have hz1 := hb1.size
  simp at hz1
  have HW := Lib.hid (show Below w.heap.size w w1 from (show Below w.heap.size w _ by (repeat (first | (with_reducible exact Below.refl _ _) | (with_reducible assumption) | (with_reducible refine below_alloc ?_ _) | (with_reducible refine below_drewN ?_ _) | (with_reducible refine Below.drew ?_) | (with_reducible refine below_then ?_ (by with_reducible assumption)) | (with_reducible refine Below.setCell ?_ (by go_size) _)))).trans (hb1.mono (Nat.le_succ _)))
  have HS := Lib.hid (((SlAt.new w 57 s).keep (show Below _ _ _ from (Below.refl _ _).alloc (Nat.le_refl _) _)).keepN hb1 (Nat.lt_succ_self _))
  have HO := Lib.hid (cal_of_own r1 (by omega))
  have HC := Lib.hid (HC0.out.keep HW.out)
  have HB := Lib.hid (Below.refl w1.heap.size w1)
  clear r1 hb1
  (obtain ⟨s0, s1, s2, sl⟩ := HS.out.keep HB.out; go_wp2_with fail; clear s0 s1 s2 sl)
  refine (K1.out _ _ (HO.out.keep HB.out)).mono ?_
  rintro e w2 ⟨va, rfl, hoa, hb⟩
  (have HB := Lib.hid (below_then HB.out hb); (try have HA := Lib.hid (HA.out.keep hb)); (try have HP := Lib.hid (HP.out.keep hb)); (try have HD := Lib.hid (HD.out.keep hb)); (try have HH := Lib.hid (HH.out.keep hb)); (try have HJ := Lib.hid (HJ.out.keep hb)); (try have HL := Lib.hid (HL.out.keep hb)); (try have HRa := Lib.hid (own_keep HRa.out hb)); (try have HRd := Lib.hid (own_keep HRd.out hb)))
  have HA := Lib.hid (cal_of_own hoa (by omega))
  have HRa := Lib.hid hoa
  have hla := hoa.lt
  clear hoa hb
  (obtain ⟨s0, s1, s2, sl⟩ := HS.out.keep HB.out; go_wp2_with fail; clear s0 s1 s2 sl)
  (refine (K2.out _ _ (HC.out.keep HB.out)).mono ?_; rintro e w9 ⟨v9, rfl, ho, hb⟩; (have HB := Lib.hid (below_then HB.out hb); (try have HA := Lib.hid (HA.out.keep hb)); (try have HP := Lib.hid (HP.out.keep hb)); (try have HD := Lib.hid (HD.out.keep hb)); (try have HH := Lib.hid (HH.out.keep hb)); (try have HJ := Lib.hid (HJ.out.keep hb)); (try have HL := Lib.hid (HL.out.keep hb)); (try have HRa := Lib.hid (own_keep HRa.out hb)); (try have HRd := Lib.hid (own_keep HRd.out hb))); have HP := Lib.hid (cal_of_own ho (by omega)); clear ho hb; (obtain ⟨s0, s1, s2, sl⟩ := HS.out.keep HB.out; go_wp2_with fail; clear s0 s1 s2 sl))
  have hla := HRa.out.lt
  refine (K3.out _ _ (HO.out.keep HB.out)).mono ?_
  rintro e w3 ⟨vd, rfl, hod, hb⟩
  have hld := hod.lt
  have hzb := HB.out.size
  have hne := Lib.hid (fun k (h : va.ownBlock = some k) (h2 : vd.ownBlock = some k) => (show False by have := hla k h; have := hld k h2; omega))
  (have HB := Lib.hid (below_then HB.out hb); (try have HA := Lib.hid (HA.out.keep hb)); (try have HP := Lib.hid (HP.out.keep hb)); (try have HD := Lib.hid (HD.out.keep hb)); (try have HH := Lib.hid (HH.out.keep hb)); (try have HJ := Lib.hid (HJ.out.keep hb)); (try have HL := Lib.hid (HL.out.keep hb)); (try have HRa := Lib.hid (own_keep HRa.out hb)); (try have HRd := Lib.hid (own_keep HRd.out hb)))
  have HD := Lib.hid (cal_of_own hod (by omega))
  have HRd := Lib.hid (own_mono hod hzb)
  clear hod hb hla hld hzb
  (obtain ⟨s0, s1, s2, sl⟩ := HS.out.keep HB.out; go_wp2_with fail; clear s0 s1 s2 sl)
  (refine (K4.out _ _ (HC.out.keep HB.out)).mono ?_; rintro e w9 ⟨v9, rfl, ho, hb⟩; (have HB := Lib.hid (below_then HB.out hb); (try have HA := Lib.hid (HA.out.keep hb)); (try have HP := Lib.hid (HP.out.keep hb)); (try have HD := Lib.hid (HD.out.keep hb)); (try have HH := Lib.hid (HH.out.keep hb)); (try have HJ := Lib.hid (HJ.out.keep hb)); (try have HL := Lib.hid (HL.out.keep hb)); (try have HRa := Lib.hid (own_keep HRa.out hb)); (try have HRd := Lib.hid (own_keep HRd.out hb))); have HH := Lib.hid (cal_of_own ho (by omega)); clear ho hb; (obtain ⟨s0, s1, s2, sl⟩ := HS.out.keep HB.out; go_wp2_with fail; clear s0 s1 s2 sl))
  (refine (K5.out _ _ (HO.out.keep HB.out)).mono ?_; rintro e w9 ⟨v9, rfl, ho, hb⟩; (have HB := Lib.hid (below_then HB.out hb); (try have HA := Lib.hid (HA.out.keep hb)); (try have HP := Lib.hid (HP.out.keep hb)); (try have HD := Lib.hid (HD.out.keep hb)); (try have HH := Lib.hid (HH.out.keep hb)); (try have HJ := Lib.hid (HJ.out.keep hb)); (try have HL := Lib.hid (HL.out.keep hb)); (try have HRa := Lib.hid (own_keep HRa.out hb)); (try have HRd := Lib.hid (own_keep HRd.out hb))); have HJ := Lib.hid (cal_of_own ho (by omega)); clear ho hb; (obtain ⟨s0, s1, s2, sl⟩ := HS.out.keep HB.out; go_wp2_with fail; clear s0 s1 s2 sl))
  (refine (K6.out _ _ (HC.out.keep HB.out)).mono ?_; rintro e w9 ⟨v9, rfl, ho, hb⟩; (have HB := Lib.hid (below_then HB.out hb); (try have HA := Lib.hid (HA.out.keep hb)); (try have HP := Lib.hid (HP.out.keep hb)); (try have HD := Lib.hid (HD.out.keep hb)); (try have HH := Lib.hid (HH.out.keep hb)); (try have HJ := Lib.hid (HJ.out.keep hb)); (try have HL := Lib.hid (HL.out.keep hb)); (try have HRa := Lib.hid (own_keep HRa.out hb)); (try have HRd := Lib.hid (own_keep HRd.out hb))); have HL := Lib.hid (cal_of_own ho (by omega)); clear ho hb; (obtain ⟨s0, s1, s2, sl⟩ := HS.out.keep HB.out; go_wp2_with fail; clear s0 s1 s2 sl))
  (refine (K7.out _ _ (HO.out.keep HB.out)).mono ?_; rintro e w9 ⟨rfl, hb⟩; (have HB := Lib.hid (below_then HB.out hb); (try have HA := Lib.hid (HA.out.keep hb)); (try have HP := Lib.hid (HP.out.keep hb)); (try have HD := Lib.hid (HD.out.keep hb)); (try have HH := Lib.hid (HH.out.keep hb)); (try have HJ := Lib.hid (HJ.out.keep hb)); (try have HL := Lib.hid (HL.out.keep hb)); (try have HRa := Lib.hid (own_keep HRa.out hb)); (try have HRd := Lib.hid (own_keep HRd.out hb))); clear hb; (obtain ⟨s0, s1, s2, sl⟩ := HS.out.keep HB.out; go_wp2_with fail; clear s0 s1 s2 sl))
  (refine (K8.out _ _ (HC.out.keep HB.out)).mono ?_; rintro e w9 ⟨rfl, hb⟩; (have HB := Lib.hid (below_then HB.out hb); (try have HA := Lib.hid (HA.out.keep hb)); (try have HP := Lib.hid (HP.out.keep hb)); (try have HD := Lib.hid (HD.out.keep hb)); (try have HH := Lib.hid (HH.out.keep hb)); (try have HJ := Lib.hid (HJ.out.keep hb)); (try have HL := Lib.hid (HL.out.keep hb)); (try have HRa := Lib.hid (own_keep HRa.out hb)); (try have HRd := Lib.hid (own_keep HRd.out hb))); clear hb; (obtain ⟨s0, s1, s2, sl⟩ := HS.out.keep HB.out; go_wp2_with fail; clear s0 s1 s2 sl))
  (refine (S1.out _ _ _ HA.out HP.out).mono ?_; rintro e w9 ⟨rfl, hb⟩; (have HB := Lib.hid (below_then HB.out hb); (try have HA := Lib.hid (HA.out.keep hb)); (try have HP := Lib.hid (HP.out.keep hb)); (try have HD := Lib.hid (HD.out.keep hb)); (try have HH := Lib.hid (HH.out.keep hb)); (try have HJ := Lib.hid (HJ.out.keep hb)); (try have HL := Lib.hid (HL.out.keep hb)); (try have HRa := Lib.hid (own_keep HRa.out hb)); (try have HRd := Lib.hid (own_keep HRd.out hb))); clear hb; (obtain ⟨s0, s1, s2, sl⟩ := HS.out.keep HB.out; go_wp2_with fail; clear s0 s1 s2 sl))
  (refine (S2.out _ _ _ HD.out HH.out).mono ?_; rintro e w9 ⟨rfl, hb⟩; (have HB := Lib.hid (below_then HB.out hb); (try have HA := Lib.hid (HA.out.keep hb)); (try have HP := Lib.hid (HP.out.keep hb)); (try have HD := Lib.hid (HD.out.keep hb)); (try have HH := Lib.hid (HH.out.keep hb)); (try have HJ := Lib.hid (HJ.out.keep hb)); (try have HL := Lib.hid (HL.out.keep hb)); (try have HRa := Lib.hid (own_keep HRa.out hb)); (try have HRd := Lib.hid (own_keep HRd.out hb))); clear hb; (obtain ⟨s0, s1, s2, sl⟩ := HS.out.keep HB.out; go_wp2_with fail; clear s0 s1 s2 sl))
  refine (S3.out _ _ _ HJ.out HL.out).mono ?_
  rintro e w4 ⟨rfl, hb⟩
  (have HB := Lib.hid (below_then HB.out hb); (try have HA := Lib.hid (HA.out.keep hb)); (try have HP := Lib.hid (HP.out.keep hb)); (try have HD := Lib.hid (HD.out.keep hb)); (try have HH := Lib.hid (HH.out.keep hb)); (try have HJ := Lib.hid (HJ.out.keep hb)); (try have HL := Lib.hid (HL.out.keep hb)); (try have HRa := Lib.hid (own_keep HRa.out hb)); (try have HRd := Lib.hid (own_keep HRd.out hb)))
  clear hb
  obtain ⟨ab, acap, rfl, _⟩ := HA.out.ex
  obtain ⟨db, dcap, rfl, _⟩ := HD.out.ex
  clear HA HD HH HJ HL HP
  go_wp2_with fail
  go_loopw [23] (fun i wr => ∃ (k : Nat) (la : List Sl), k ≤ P.length ∧ i = .int .i64 k ∧ RowKit.Hid (la.length = P.length) ∧ wr.ownsRow w1.heap.size 57 3 (.slice ab P.length acap) P.length (slc la) ∧ wr.ownsRow w1.heap.size 57 3 (.slice db T.length dcap) T.length (slc T) ∧ Below w1.heap.size w1 wr) (fun i _ => P.length - (intOf i).toNat)
  case atStart => exact ⟨0, P, Nat.zero_le _, rfl, Lib.hid rfl, HRa.out, HRd.out, HB.out⟩
  case round =>
    obtain ⟨k, la, hk, rfl, HLl, hra, hrd, hbel⟩ := hrel
    have HB := Lib.hid hbel
    have HRd := Lib.hid hrd
    clear hbel hrd HRa
    by_cases hlt : k < P.length
    · have hkl : k < la.length := by rw [HLl.out]; exact hlt
      obtain ⟨x, hx⟩ : ∃ x, la[k]? = some x := ⟨la[k], List.getElem?_eq_getElem hkl⟩
      have hx2 : la[k] = x := by rw [List.getElem?_eq_getElem hkl] at hx; exact Option.some.inj hx
      have hra' := hra
      rw [← HLl.out] at hra'
      rcases own_slice hra' with ⟨_, hz⟩ | ⟨g, cap, e, hcap, hBg, hgl⟩
      · omega
      simp only [Value.slice.injEq] at e
      obtain ⟨rfl, _, rfl⟩ := e
      have cc := own_cell hra' hkl
      rw [hx2] at cc
      have cf := hra'.frozenAt (k * 3 + 2)
      have hnx := Lib.hid (row_turned hra' hx (wrap64 (x.o + 1)))
      have hoth := Lib.hid (fun u => other_kept (g := g) (j := k * 3 + 2) (u := u) HRd.out (fun h => hne.out g rfl h))
      have HLn := Lib.hid (show (la.set k ⟨x.f, x.t, wrap64 (x.o + 1)⟩).length = P.length by rw [List.length_set]; exact HLl.out)
      have HLl2 := Lib.hid HLl.out
      clear hra hra' hx2 hx hkl hcap
      go_wp2_with fail
      go_roundw
      case rel => exact ⟨k + 1, _, by omega, by go_num, HLn, by have := hnx.out; rw [HLl2.out, HLn.out] at this; exact this, hoth.out _, HB.out.setCell hBg _⟩
      case measure => (simp [intOf] <;> omega)
    · obtain rfl : k = P.length := by omega
      clear hra
      go_wp2_with fail
      go_loopw [24] (fun i wr => ∃ (k : Nat) (la : List Sl), k ≤ T.length ∧ i = .int .i64 k ∧ RowKit.Hid (la.length = T.length) ∧ wr.ownsRow w1.heap.size 57 3 (.slice db T.length dcap) T.length (slc la) ∧ Below w1.heap.size w1 wr) (fun i _ => T.length - (intOf i).toNat)
      case atStart => exact ⟨0, T, Nat.zero_le _, rfl, Lib.hid rfl, HRd.out, HB.out⟩
      case round =>
        obtain ⟨k, la, hk, rfl, HLl, hra, hbel⟩ := hrel
        have HB := Lib.hid hbel
        clear hbel HRd
        by_cases hlt : k < T.length
        · have hkl : k < la.length := by rw [HLl.out]; exact hlt
          obtain ⟨x, hx⟩ : ∃ x, la[k]? = some x := ⟨la[k], List.getElem?_eq_getElem hkl⟩
          have hx2 : la[k] = x := by rw [List.getElem?_eq_getElem hkl] at hx; exact Option.some.inj hx
          have hra' := hra
          rw [← HLl.out] at hra'
          rcases own_slice hra' with ⟨_, hz⟩ | ⟨g, cap, e, hcap, hBg, hgl⟩
          · omega
          simp only [Value.slice.injEq] at e
          obtain ⟨rfl, _, rfl⟩ := e
          have cc := own_cell hra' hkl
          rw [hx2] at cc
          have cf := hra'.frozenAt (k * 3 + 2)
          have hnx := Lib.hid (row_turned hra' hx (wrap64 (x.o + 1)))
          have HLn := Lib.hid (show (la.set k ⟨x.f, x.t, wrap64 (x.o + 1)⟩).length = T.length by rw [List.length_set]; exact HLl.out)
          have HLl2 := Lib.hid HLl.out
          clear hra hra' hx2 hx hkl hcap
          go_wp2_with fail
          go_roundw
          case rel => exact ⟨k + 1, _, by omega, by go_num, HLn, by have := hnx.out; rw [HLl2.out, HLn.out] at this; exact this, HB.out.setCell hBg _⟩
          case measure => (simp [intOf] <;> omega)
        · obtain rfl : k = T.length := by omega
          clear hra
          go_wp2_with fail
          refine (S4.out _ _ _ (HO.out.keep HB.out) (HC.out.keep HB.out)).mono ?_
          rintro e w9 ⟨rfl, hb⟩
          have HF := Lib.hid (below_then HW.out (below_then HB.out hb))
          clear hb
          go_wp2_with fail
          go_returns
          exact ⟨rfl, HF.out⟩

set_option maxRecDepth 100000 in set_option maxHeartbeats 4000000 in
theorem law08_CalTurns (ba : Option Addr) (ca : Nat) (c : List Sl) (s : Sl) (ow tm : Int) (w : World) (hr : Rd w ba (slc c)) (hca : c.length ≤ ca) (hna : ba = none → c.length = 0 ∧ ca = 0) :
    Calls Try.prog 5 #[.slice ba c.length ca, .agg #[.int .i64 s.f, .int .i64 s.t, .int .i64 s.o], .int .i64 ow, .int .i64 tm] w (RB w (.bool true)) := by
  by_cases h5 : c.length ≤ 5000
  · exact core_CalTurns ba ca c s ow tm w hr hca hna h5
  · have hd0 : 5000 < c.length := by omega
    clear hr hca hna h5
    go_enter Try.func5, Try.ntmps5
    go_wp2_with fail
    go_returns
    exact ⟨rfl, by (repeat (first | (with_reducible exact Below.refl _ _) | (with_reducible assumption) | (with_reducible refine below_alloc ?_ _) | (with_reducible refine below_drewN ?_ _) | (with_reducible refine Below.drew ?_) | (with_reducible refine below_then ?_ (by with_reducible assumption)) | (with_reducible refine Below.setCell ?_ (by go_size) _)))⟩
set_option maxRecDepth 100000 in set_option maxHeartbeats 4000000 in
theorem open_slot {W : World} {base : Nat} {v : Value} (h : Value.okWide Try.prog W .any base 57 v) : ∃ s : Sl, v = .agg #[.int .i64 s.f, .int .i64 s.t, .int .i64 s.o] := by
  obtain ⟨l, hl, rfl, _⟩ := open_flat (n := 3) (.inl ⟨_, Try.underlying57⟩) (by kernel_rfl) (by kernel_rfl) h
  match l, hl with
  | [f, t, o], _ => exact ⟨⟨f, t, o⟩, rfl⟩
set_option maxRecDepth 100000 in set_option maxHeartbeats 4000000 in
theorem lift_calTurns (os : Os) (started : os.Started) (H : Type) (enc : TypeId × Value → H) :
    ReturnsInHanded {} Try.checked os 5 .any (Rows.calTurnsSpec.pre6 enc Try.prog Try.f5 Rows.calTurnsRow.domain false) (Rows.calTurnsSpec.post enc Try.prog Try.f5 false true false false) := by
  refine returnsInHanded_of_change (C := Try.checked) ownKnob0 started (by kernel_rfl) Try.func5
    (ChangeSpec.witness6 (enc := enc) (C := Try.checked) false ⟨#[], #[.slice none 0 0, .agg #[.int .i64 0, .int .i64 0, .int .i64 0], .int .i64 0, .int .i64 0], []⟩ 8 (by kernel_rfl) (by kernel_rfl) (by kernel_rfl) (by kernel_rfl)) ?_
  intro W base args ds gs before hval0 hW hcnd _
  have hval : ∀ (j : Nat) t v, Try.f5.params[j]? = some t → args[j]? = some v → Value.okWide Try.prog W .any base t v := hval0
  have hW' := hW
  obtain ⟨p, q, hA0, hV, rfl, hfz, hnd⟩ := hW
  have hA : DataW.TrodAll enc Try.prog W 0 (fun _ => true) true Try.f5.params.toList args.toList ds p := hA0
  rw [Try.params5] at hA hval
  have hK := hA
  obtain ⟨v0, vs0, d0, ds0, p0, q0, hargs, rfl, rfl, h0, r0⟩ := trodAll_cons hA
  obtain ⟨v1, vs1, d1, ds1, p1, q1, rfl, rfl, rfl, h1, r1⟩ := trodAll_cons r0
  obtain ⟨v2, vs2, d2, ds2, p2, q2, rfl, rfl, rfl, h2, r2⟩ := trodAll_cons r1
  obtain ⟨v3, vs3, d3, ds3, p3, q3, rfl, rfl, rfl, h3, r3⟩ := trodAll_cons r2
  obtain ⟨rfl, rfl, rfl⟩ := trodAll_nil r3
  obtain rfl : args = #[v0, v1, v2, v3] := by cases args; simp_all
  obtain ⟨ba, c, ca, rfl, hc, hca, hna⟩ := open_slots (hval 0 _ v0 rfl rfl) h0
  obtain ⟨s, rfl⟩ := open_slot (hval 1 _ v1 rfl rfl)
  obtain ⟨ow, rfl⟩ := okWide_int Try.underlying3 (hval 2 _ v2 rfl rfl)
  obtain ⟨tm, rfl⟩ := okWide_int Try.underlying3 (hval 3 _ v3 rfl rfl)
  obtain ⟨rfl, rfl⟩ := trodVars_none hV
  clear hA0 hval0
  simp only [List.append_nil] at hW' hK
  refine (law08_CalTurns ba ca c s ow tm W hc hca hna).mono fun e W' ⟨he, bel⟩ => ?_
  subst he
  refine ⟨_, rfl, _, _, _, [], _, [], hW', trodAll_mk1 (shut_bool Try.underlying4 _), trodAll_below bel _ _ _ _ ?_ hK, rfl, bel.frame _, fun h => by cases h⟩
  intro t ht
  simp at ht <;> (rcases ht with rfl | rfl | rfl | rfl <;> exact ⟨by kernel_rfl, of_decide_eq_true (by kernel_rfl)⟩)

theorem holds_calTurns : Rows.calTurnsRow.holds Try.pinned (OpenSpec.ofChange Rows.calTurnsSpec) :=
  OpenClaim.holds_of_wide 5 Try.f5 rfl rfl rfl rfl rfl rfl rfl ⟨rfl, rfl, rfl, rfl, rfl⟩ rfl rfl rfl rfl rfl (by kernel_rfl) Try.func5 (by kernel_rfl)
    (of_decide_eq_true (by kernel_rfl)) (by unfold Func.isWrapper; first | (rw [if_pos (by decide +kernel)]; kernel_rfl) | (rw [if_neg (by decide +kernel)]; exact ⟨rfl, rfl⟩))
    (fun os started H enc _ => lift_calTurns os started H enc)

theorem CalTurns_holds : Rows.CalTurnsSaid := holds_calTurns
end Go.Proofs.Ytfikgjcmnooglaa
