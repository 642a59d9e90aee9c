/- FaultMarks: numbers are marked, and marks taken away, as the document says, in new memory: the call returns true. -/
import Derived.Test.YtpooieghlceefaaFaultAlive
import Derived.Test.YtpooieghlceefaaRef17b
import Derived.Test.YtpooieghlceefaaRowInt
import Derived.Test.YtpooieghlceefaaCopy
namespace Go.Proofs.Ytpooieghlceefaa
open Go.ChangeShapes Go.WideShapes Go.ChangeAt Go.RowKit Go.Shelf

section
variable {w : World} {v u : Value} {c d : List Int} (h : LS w v c) (hd : LS w u d)
include h
theorem s_RMark (n k : Int) : Calls Try.prog 31 #[.int .i64 n, v, .int .i64 k] w (RLE w (markV n c k) (markE n c k)) := by
  obtain ⟨base, cap, rfl, h1, h2⟩ := h.ex
  exact ref17_Mark n base cap c k w h1
theorem s_RClear (n k : Int) : Calls Try.prog 32 #[.int .i64 n, v, .int .i64 k] w (RLE w (clearV n c k) (clearE n c k)) := by
  obtain ⟨base, cap, rfl, h1, h2⟩ := h.ex
  exact ref17_Clear n base cap c k w h1
include hd
theorem s_Ints : Calls Try.prog 33 #[v, u] w (RB w (.bool (decide (c = d)))) := by
  obtain ⟨base, cap, rfl, h1, h2⟩ := h.ex
  obtain ⟨base', cap', rfl, h1', h2'⟩ := hd.ex
  exact same_ref base base' cap cap' c d w h1 h1'
end
theorem other_keptI {w : World} {B g j : Nat} {v u : Value} {n : Nat} {xs : List Value} {e : TypeId} {size : Nat} (h : w.ownsRow B e size v n xs) (hne : v.ownBlock ≠ some g) : (w.setCell ⟨g, j, none⟩ u).ownsRow B e size v n xs :=
  h.kept (row := some g) ⟨rfl, rfl, rfl, by simp, fun k _ hk => heap_setCell_other w ⟨g, j, none⟩ k u (fun e => hk (by simp [e]))⟩ (by
    cases hv : v.ownBlock with
    | none => exact .inl rfl
    | some x => exact .inr (by rw [← hv]; exact hne))
theorem own_sliceI {w : World} {B n : Nat} {v : Value} {xs : List Value} (h : w.ownsRow B 3 1 v n xs) : (v = .slice none n 0 ∧ n = 0) ∨ ∃ g cap, v = .slice (some ⟨g, 0, none⟩) n cap ∧ n ≤ cap ∧ B ≤ g ∧ g < w.heap.size := by
  rcases h.2 with ⟨rfl, hz⟩ | ⟨g, cap, cur, rfl, hb, hg, hn, _⟩
  · rw [hz]; exact .inl ⟨rfl, rfl⟩
  · exact .inr ⟨g, cap, rfl, hn, hb, (Array.getElem?_eq_some_iff.1 hg).1⟩

set_option maxRecDepth 100000 in set_option maxHeartbeats 4000000 in
theorem core_FaultMarks (ba : Option Addr) (ca : Nat) (n : Int) (l : List Int) (k : Int) (w : World) (hr : Rd w ba (ic l)) (hna : ba = none → l.length = 0 ∧ ca = 0) (h5 : l.length ≤ 20000) :
    Calls Try.prog 9 #[.int .i64 n, .slice ba l.length ca, .int .i64 k] w (RB w (.bool true)) := by
  obtain ⟨i0, hi, iz0, iz1, iz2⟩ := info_parts infoInt
  have HC0 := Lib.hid (show LS w (.slice ba l.length ca) l from ⟨ba, ca, rfl, ⟨hr, by omega⟩, fun h => (hna h).1⟩)
  have hd0 : decide (20000 < l.length) = false := decide_eq_false (by omega)
  have K1 := Lib.hid (fun W v (h : LS W v l) => s_Mark h n k)
  have K2 := Lib.hid (fun W v (h : LS W v l) => s_RMark h n k)
  have K3 := Lib.hid (fun W v (h : LS W v l) => s_Clear h n k)
  have K4 := Lib.hid (fun W v (h : LS W v l) => s_RClear h n k)
  have S0 := Lib.hid (fun (d : List Int) W v u (h : LS W v d) (h2 : LS W u d) => Calls.rb_eq (s_Ints h h2) (show Value.bool (decide _) = .bool true by rw [decide_eq_true rfl]))
  have l1 := markV_len n l k
  have l2 := clearV_len n l k
  have HR0 := Lib.hid hr
  clear hr
  generalize markV n l k = P at *
  generalize markE n l k = pe at *
  generalize clearV n l k = T at *
  generalize clearE n l k = te at *
  go_enter Try.func9, Try.ntmps9
  go_wp2_with (at_builtin; refine wpList_copy _ rfl _ _ 32 rfl 3 i0 (.int .i64 0) 1 8 Try.underlying32 hi iz0 iz1 iz2 rfl (by decide) (by decide) rfl ba l.length ca (ic l) rfl (by rw [ic_len, Nat.mul_one]) hna HR0.out (ic_one l) (by omega) ?_)
  intro vo w1 r1 hb1
  have HW := Lib.hid hb1
  have HO := Lib.hid (list_of_own' r1 (by omega))
  have HC := Lib.hid (HC0.out.keep HW.out)
  have HB := Lib.hid (Below.refl w1.heap.size w1)
  clear r1 hb1
  go_wp2_with fail
  refine (K1.out _ _ (HO.out.keep HB.out)).mono ?_
  rintro e w2 ⟨va, rfl, hoa, hb⟩
  (have HB := Lib.hid (below_then HB.out hb); (try have HA := Lib.hid (HA.out.keep hb)); (try have HP := Lib.hid (HP.out.keep hb)); (try have HD := Lib.hid (HD.out.keep hb)); (try have HH := Lib.hid (HH.out.keep hb)); (try have HRa := Lib.hid (own_keep HRa.out hb)); (try have HRd := Lib.hid (own_keep HRd.out hb)))
  have HA := Lib.hid (list_of_own' hoa (by omega))
  have HRa := Lib.hid hoa
  clear hoa hb
  go_wp2_with fail
  (refine (K2.out _ _ (HC.out.keep HB.out)).mono ?_; rintro e w9 ⟨v9, rfl, ho, hb⟩; (have HB := Lib.hid (below_then HB.out hb); (try have HA := Lib.hid (HA.out.keep hb)); (try have HP := Lib.hid (HP.out.keep hb)); (try have HD := Lib.hid (HD.out.keep hb)); (try have HH := Lib.hid (HH.out.keep hb)); (try have HRa := Lib.hid (own_keep HRa.out hb)); (try have HRd := Lib.hid (own_keep HRd.out hb))); have HP := Lib.hid (list_of_own' ho (by omega)); clear ho hb; go_wp2_with fail)
  have hla := HRa.out.lt
  refine (K3.out _ _ (HO.out.keep HB.out)).mono ?_
  rintro e w3 ⟨vd, rfl, hod, hb⟩
  have hld := hod.lt
  have hzb := HB.out.size
  have hne := Lib.hid (fun k (h : va.ownBlock = some k) (h2 : vd.ownBlock = some k) => (show False by have := hla k h; have := hld k h2; omega))
  (have HB := Lib.hid (below_then HB.out hb); (try have HA := Lib.hid (HA.out.keep hb)); (try have HP := Lib.hid (HP.out.keep hb)); (try have HD := Lib.hid (HD.out.keep hb)); (try have HH := Lib.hid (HH.out.keep hb)); (try have HRa := Lib.hid (own_keep HRa.out hb)); (try have HRd := Lib.hid (own_keep HRd.out hb)))
  have HD := Lib.hid (list_of_own' hod (by omega))
  have HRd := Lib.hid (own_mono hod hzb)
  clear hod hb hla hld hzb
  go_wp2_with fail
  (refine (K4.out _ _ (HC.out.keep HB.out)).mono ?_; rintro e w9 ⟨v9, rfl, ho, hb⟩; (have HB := Lib.hid (below_then HB.out hb); (try have HA := Lib.hid (HA.out.keep hb)); (try have HP := Lib.hid (HP.out.keep hb)); (try have HD := Lib.hid (HD.out.keep hb)); (try have HH := Lib.hid (HH.out.keep hb)); (try have HRa := Lib.hid (own_keep HRa.out hb)); (try have HRd := Lib.hid (own_keep HRd.out hb))); have HH := Lib.hid (list_of_own' ho (by omega)); clear ho hb; go_wp2_with fail)
  (refine (S0.out _ _ _ _ HA.out HP.out).mono ?_; rintro e w9 ⟨rfl, hb⟩; (have HB := Lib.hid (below_then HB.out hb); (try have HA := Lib.hid (HA.out.keep hb)); (try have HP := Lib.hid (HP.out.keep hb)); (try have HD := Lib.hid (HD.out.keep hb)); (try have HH := Lib.hid (HH.out.keep hb)); (try have HRa := Lib.hid (own_keep HRa.out hb)); (try have HRd := Lib.hid (own_keep HRd.out hb))); clear hb; go_wp2_with fail)
  refine (S0.out _ _ _ _ HD.out HH.out).mono ?_
  rintro e w4 ⟨rfl, hb⟩
  (have HB := Lib.hid (below_then HB.out hb); (try have HA := Lib.hid (HA.out.keep hb)); (try have HP := Lib.hid (HP.out.keep hb)); (try have HD := Lib.hid (HD.out.keep hb)); (try have HH := Lib.hid (HH.out.keep hb)); (try have HRa := Lib.hid (own_keep HRa.out hb)); (try have HRd := Lib.hid (own_keep HRd.out hb)))
  clear hb
  obtain ⟨ab, acap, rfl, _⟩ := HA.out.ex
  obtain ⟨db, dcap, rfl, _⟩ := HD.out.ex
  clear HA HD HH HP
  go_wp2_with fail
  go_loopw [16] (fun i wr => ∃ (k : Nat) (xs ys : List Value), k ≤ P.length ∧ i = .int .i64 k ∧ wr.ownsRow w1.heap.size 3 1 (.slice ab P.length acap) P.length xs ∧ wr.ownsRow w1.heap.size 3 1 (.slice db T.length dcap) T.length ys ∧ Below w1.heap.size w1 wr) (fun i _ => P.length - (intOf i).toNat)
  case atStart => exact ⟨0, _, _, Nat.zero_le _, rfl, HRa.out, HRd.out, HB.out⟩
  case round =>
    obtain ⟨k, xs, ys, hk, rfl, hra, hrd, hbel⟩ := hrel
    have HB := Lib.hid hbel
    have HRd := Lib.hid hrd
    clear hbel hrd HRa
    by_cases hlt : k < P.length
    · rcases own_sliceI hra with ⟨_, hz⟩ | ⟨g, cap, e, hcap, hBg, hgl⟩
      · omega
      simp only [Value.slice.injEq] at e
      obtain ⟨rfl, _, rfl⟩ := e
      obtain ⟨u, hu⟩ : ∃ u, xs[k]? = some u := ⟨_, List.getElem?_eq_getElem (by have := hra.1; omega)⟩
      have cc : wr.cell? ⟨g, k, none⟩ = some u := by rw [hra.cellAt k (by omega)]; exact hu
      have cf := hra.frozenAt k
      have hnx := Lib.hid (hra.stored k (.int .i64 7)).1
      have hoth := Lib.hid (fun u => other_keptI (g := g) (j := k) (u := u) HRd.out (fun h => hne.out g rfl h))
      clear hra hu hcap
      go_wp2_with fail
      go_roundw
      case rel => exact ⟨k + 1, _, _, by omega, by go_num, hnx.out, hoth.out _, HB.out.setCell hBg _⟩
      case measure => (simp [intOf] <;> omega)
    · obtain rfl : k = P.length := by omega
      clear hra
      go_wp2_with fail
      go_loopw [17] (fun i wr => ∃ (k : Nat) (ys : List Value), k ≤ T.length ∧ i = .int .i64 k ∧ wr.ownsRow w1.heap.size 3 1 (.slice db T.length dcap) T.length ys ∧ Below w1.heap.size w1 wr) (fun i _ => T.length - (intOf i).toNat)
      case atStart => exact ⟨0, _, Nat.zero_le _, rfl, HRd.out, HB.out⟩
      case round =>
        obtain ⟨k, ys, hk, rfl, hra, hbel⟩ := hrel
        have HB := Lib.hid hbel
        clear hbel HRd
        by_cases hlt : k < T.length
        · rcases own_sliceI hra with ⟨_, hz⟩ | ⟨g, cap, e, hcap, hBg, hgl⟩
          · omega
          simp only [Value.slice.injEq] at e
          obtain ⟨rfl, _, rfl⟩ := e
          obtain ⟨u, hu⟩ : ∃ u, ys[k]? = some u := ⟨_, List.getElem?_eq_getElem (by have := hra.1; omega)⟩
          have cc : wr.cell? ⟨g, k, none⟩ = some u := by rw [hra.cellAt k (by omega)]; exact hu
          have cf := hra.frozenAt k
          have hnx := Lib.hid (hra.stored k (.int .i64 7)).1
          clear hra hu hcap
          go_wp2_with fail
          go_roundw
          case rel => exact ⟨k + 1, _, by omega, by go_num, hnx.out, HB.out.setCell hBg _⟩
          case measure => (simp [intOf] <;> omega)
        · obtain rfl : k = T.length := by omega
          clear hra
          go_wp2_with fail
          refine (S0.out _ _ _ _ (HO.out.keep HB.out) (HC.out.keep HB.out)).mono ?_
          rintro e w9 ⟨rfl, hb⟩
          have HF := Lib.hid (below_then HW.out (below_then HB.out hb))
          clear hb
          go_wp2_with fail
          go_returns
          exact ⟨rfl, HF.out⟩

set_option maxRecDepth 100000 in set_option maxHeartbeats 4000000 in
theorem law17_FaultMarks (ba : Option Addr) (ca : Nat) (n : Int) (l : List Int) (k : Int) (w : World) (hr : Rd w ba (ic l)) (hml : l.length ≤ maxLen) (hna : ba = none → l.length = 0 ∧ ca = 0) :
    Calls Try.prog 9 #[.int .i64 n, .slice ba l.length ca, .int .i64 k] w (RB w (.bool true)) := by
  by_cases hl : l.length ≤ 20000
  · exact core_FaultMarks ba ca n l k w hr hna hl
  · have hd0 : 20000 < l.length := by omega
    have hm2 : l.length ≤ 9223372036854775807 := by unfold maxLen at hml; omega
    clear hr hna hl hml
    go_enter Try.func9, Try.ntmps9
    go_wp2_with fail
    go_returns
    exact ⟨rfl, by (repeat (first | (with_reducible exact Below.refl _ _) | (with_reducible assumption) | (with_reducible refine below_alloc ?_ _) | (with_reducible refine below_drewN ?_ _) | (with_reducible refine Below.drew ?_) | (with_reducible refine below_then ?_ (by with_reducible assumption)) | (with_reducible refine Below.setCell ?_ (by go_size) _)))⟩

set_option maxRecDepth 100000 in set_option maxHeartbeats 4000000 in
theorem lift_faultMarks (os : Os) (started : os.Started) (H : Type) (enc : TypeId × Value → H) :
    ReturnsInHanded {} Try.checked os 9 .any (Rows.faultMarksSpec.pre6 enc Try.prog Try.f9 Rows.faultMarksRow.domain false) (Rows.faultMarksSpec.post enc Try.prog Try.f9 false true false false) := by
  refine returnsInHanded_of_change (C := Try.checked) ownKnob0 started (by kernel_rfl) Try.func9
    (ChangeSpec.witness6 (enc := enc) (C := Try.checked) false ⟨#[], #[.int .i64 0, .slice none 0 0, .int .i64 0], []⟩ 8 (by kernel_rfl) (by kernel_rfl) (by kernel_rfl) (by kernel_rfl)) ?_
  intro W base args ds gs before hval0 hW hcnd _
  have hval : ∀ (j : Nat) t v, Try.f9.params[j]? = some t → args[j]? = some v → Value.okWide Try.prog W .any base t v := hval0
  have hW' := hW
  obtain ⟨p, q, hA0, hV, rfl, hfz, hnd⟩ := hW
  have hA : DataW.TrodAll enc Try.prog W 0 (fun _ => true) true Try.f9.params.toList args.toList ds p := hA0
  rw [Try.params9] at hA hval
  have hK := hA
  obtain ⟨v0, vs0, d0, ds0, p0, q0, hargs, rfl, rfl, h0, r0⟩ := trodAll_cons hA
  obtain ⟨v1, vs1, d1, ds1, p1, q1, rfl, rfl, rfl, h1, r1⟩ := trodAll_cons r0
  obtain ⟨v2, vs2, d2, ds2, p2, q2, rfl, rfl, rfl, h2, r2⟩ := trodAll_cons r1
  obtain ⟨rfl, rfl, rfl⟩ := trodAll_nil r2
  obtain rfl : args = #[v0, v1, v2] := by cases args; simp_all
  obtain ⟨n, rfl⟩ := okWide_int Try.underlying3 (hval 0 _ v0 rfl rfl)
  obtain ⟨ba, l, ca, rfl, hl, hml, _, hna⟩ := open_row Try.underlying32 Try.underlying3 (by kernel_rfl) (hval 1 _ v1 rfl rfl) h1
  obtain ⟨k, rfl⟩ := okWide_int Try.underlying3 (hval 2 _ v2 rfl rfl)
  obtain ⟨rfl, rfl⟩ := trodVars_none hV
  clear hA0 hval0
  simp only [List.append_nil] at hW' hK
  refine (law17_FaultMarks ba ca n l k W hl hml hna).mono fun e W' ⟨he, bel⟩ => ?_
  subst he
  refine ⟨_, rfl, _, _, _, [], _, [], hW', trodAll_mk1 (shut_bool Try.underlying4 _), trodAll_below bel _ _ _ _ ?_ hK, rfl, bel.frame _, fun h => by cases h⟩
  intro t ht
  simp at ht <;> (rcases ht with rfl | rfl | rfl <;> exact ⟨by kernel_rfl, of_decide_eq_true (by kernel_rfl)⟩)

theorem holds_faultMarks : Rows.faultMarksRow.holds Try.pinned (OpenSpec.ofChange Rows.faultMarksSpec) :=
  OpenClaim.holds_of_wide 9 Try.f9 rfl rfl rfl rfl rfl rfl rfl ⟨rfl, rfl, rfl, rfl, rfl⟩ rfl rfl rfl rfl rfl (by kernel_rfl) Try.func9 (by kernel_rfl)
    (of_decide_eq_true (by kernel_rfl)) (by unfold Func.isWrapper; first | (rw [if_pos (by decide +kernel)]; kernel_rfl) | (rw [if_neg (by decide +kernel)]; exact ⟨rfl, rfl⟩))
    (fun os started H enc _ => lift_faultMarks os started H enc)

theorem FaultMarks_holds : Rows.FaultMarksSaid := holds_faultMarks
end Go.Proofs.Ytpooieghlceefaa
