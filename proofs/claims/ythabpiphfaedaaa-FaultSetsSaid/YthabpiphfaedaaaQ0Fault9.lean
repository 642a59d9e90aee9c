/- FAULT: the document's sets of what may not be taken. -/
import Derived.Test.YthabpiphfaedaaaQ0Fault8
namespace Go.Proofs.Ythabpiphfaedaaa

section
open Go.RowKit Go.Shelf

set_option maxRecDepth 100000 in set_option maxHeartbeats 4000000 in
theorem ref17_SameSet (ba bb : Option Addr) (ca cb : Nat) (a b : List Nat) (w : World) (ha : SetIn w ba a) (hb : SetIn w bb b) :
    Calls Try.prog 27 #[.slice ba a.length ca, .slice bb b.length cb] w (RB w (.bool (decide (a = b)))) := by
  have HA := Lib.hid ha
  have HB := Lib.hid hb
  have hal := ha.len
  have hbl := hb.len
  clear ha hb
  by_cases hl : a.length = b.length
  · have e1 : ((a.length : Int) != (b.length : Int)) = false := by rw [bne_eq_false_iff_eq]; omega
    have HL := Lib.hid hl
    have l1 : a.length ≤ b.length := by omega
    have l2 : b.length ≤ a.length := by omega
    clear hl
    go_enter Try.func27, Try.ntmps27
    go_wp2_with fail
    go_loopw [5] (fun v wr => ∃ k : Nat, k ≤ a.length ∧ v = .int .i64 k ∧ a.take k = b.take k ∧ ∃ q, wr = w.drewN q) (fun v _ => a.length - (intOf v).toNat)
    case atStart => exact ⟨0, Nat.zero_le _, rfl, rfl, 0, rfl⟩
    case round =>
      obtain ⟨k, hk, rfl, he, q, rfl⟩ := hrel
      have HE := Lib.hid he
      clear he
      by_cases hlt : k < a.length
      · have hltb : k < b.length := by omega
        obtain ⟨bA, oA, rfl, hca⟩ := HA.out.rd k _ (wcells_at hlt)
        obtain ⟨bB, oB, rfl, hcb⟩ := HB.out.rd k _ (wcells_at hltb)
        by_cases hx : a[k] = b[k]
        · have hn := Lib.hid ((ref03_sameAt HL.out hlt hltb HE.out).2 hx)
          have e2 : ((a[k] : Int) != (b[k] : Int)) = false := by rw [bne_eq_false_iff_eq, hx]
          clear hx
          go_wp2_with (refine wp_region_quiet_lit (by kernel_rfl) (by kernel_rfl) ?_; (repeat (any_goals (first | go_big_quiet_step (fail) | quiet_step (fail) | (refine wpQuiet_step (fun K hK => ?_); go_simp; split <;> (refine hK _ ?_; clear hK K))))); all_goals (refine wpQuiet_nil ?_; intro _ hw'; obtain ⟨nq, hw''⟩ := hw'; subst hw''))
          all_goals
            go_roundw
            case rel => exact ⟨k + 1, by omega, by go_num, hn.out, _, rfl⟩
            case measure => simp [intOf]; omega
        · have hn := Lib.hid (show ¬ a = b from fun h => hx (by subst h; rfl))
          have e2 : ((a[k] : Int) != (b[k] : Int)) = true := by rw [bne_iff_ne]; omega
          clear hx
          go_wp2_with (refine wp_region_quiet_lit (by kernel_rfl) (by kernel_rfl) ?_; (repeat (any_goals (first | go_big_quiet_step (fail) | quiet_step (fail) | (refine wpQuiet_step (fun K hK => ?_); go_simp; split <;> (refine hK _ ?_; clear hK K))))); all_goals (refine wpQuiet_nil ?_; intro _ hw'; obtain ⟨nq, hw''⟩ := hw'; subst hw''))
          all_goals
            go_returns
            exact ⟨ret_no hn.out, by (repeat (first | (with_reducible exact Below.refl _ _) | (with_reducible assumption) | (with_reducible refine below_alloc ?_ _) | (with_reducible refine below_drewN ?_ _) | (with_reducible refine Below.drew ?_) | (with_reducible refine below_then ?_ (by with_reducible assumption)) | (with_reducible refine Below.setCell ?_ (by go_size) _)))⟩
      · obtain rfl : k = a.length := by omega
        have hn := Lib.hid (show a = b by have := HE.out; rw [List.take_length, List.take_of_length_le (by omega)] at this; exact this)
        go_wp2_with fail
        go_returns
        exact ⟨ret_yes hn.out, by (repeat (first | (with_reducible exact Below.refl _ _) | (with_reducible assumption) | (with_reducible refine below_alloc ?_ _) | (with_reducible refine below_drewN ?_ _) | (with_reducible refine Below.drew ?_) | (with_reducible refine below_then ?_ (by with_reducible assumption)) | (with_reducible refine Below.setCell ?_ (by go_size) _)))⟩
  · have e1 : ((a.length : Int) != (b.length : Int)) = true := by rw [bne_iff_ne]; omega
    have HN := Lib.hid (show ¬ a = b from fun h => hl (by rw [h]))
    clear hl
    go_enter Try.func27, Try.ntmps27
    go_wp2_with fail
    go_returns
    exact ⟨ret_no HN.out, by (repeat (first | (with_reducible exact Below.refl _ _) | (with_reducible assumption) | (with_reducible refine below_alloc ?_ _) | (with_reducible refine below_drewN ?_ _) | (with_reducible refine Below.drew ?_) | (with_reducible refine below_then ?_ (by with_reducible assumption)) | (with_reducible refine Below.setCell ?_ (by go_size) _)))⟩
theorem lin_of {W : World} {b : Option Addr} {l : List Int} (h : IIn W b l) : LIn W b l := ⟨h.rd, by have := h.len; omega⟩
set_option maxRecDepth 100000 in set_option maxHeartbeats 4000000 in
theorem ref17_Sets (d : V3) (ba bb bc : Option Addr) (ca cb cc : Nat) (a b c : List Int) (w : World) (hd : d.may) (ha : IIn w ba a) (hb : IIn w bb b) (hc : IIn w bc c)
    (na : ba = none → a.length = 0 ∧ ca = 0) (nb : bb = none → b.length = 0 ∧ cb = 0) (e1 : ofErr d.n (a ++ b) = 0) (e2 : ofErr (3 * d.n) c = 0) :
    Calls Try.prog 55 #[.agg #[.int .i64 d.x, .int .i64 d.y, .int .i64 d.z], .slice ba a.length ca, .slice bb b.length cb, .slice bc c.length cc] w (RTS w (ofSet d.n (a ++ b)) (ofSet (3 * d.n) c)) := by
  obtain ⟨i0, hi, iz0, iz1, iz2⟩ := info_parts infoInt
  have HP := Lib.hid (fun W => ref01_Many d W)
  rw [V3.many_ok hd, V3.err_ok hd] at HP
  have hnn := V3.n_le hd
  have O1 := Lib.hid (fun bl cl W (h : LIn W bl (a ++ b)) => by have hh := ref03_Of d.n bl cl (a ++ b) W h; rw [e1] at hh; exact hh)
  have O2 := Lib.hid (fun W (h : Below w.heap.size w W) => by have hh := ref03_Of (3 * d.n) bc cc c W (lin_of (hc.keep h)); rw [e2] at hh; exact hh)
  have HA := Lib.hid ha
  have HBB := Lib.hid hb
  have NA := Lib.hid na
  have NB := Lib.hid nb
  have l1 := ha.len
  have l2 := hb.len
  have hap : (a ++ b).length = a.length + b.length := List.length_append
  generalize ofSet d.n (a ++ b) = X at *
  generalize ofSet (3 * d.n) c = Y at *
  clear hd ha hb hc na nb e1 e2
  generalize d.n = n at *
  go_enter Try.func55, Try.ntmps55
  go_wp2_with fail
  refine (HP.out _).mono ?_
  rintro e w1 ⟨rfl, hb1⟩
  have HB := Lib.hid (below_then (show Below w.heap.size w (w.alloc (.cells #[.int .i64 d.x, .int .i64 d.y, .int .i64 d.z] 23)) by (repeat (first | (with_reducible exact Below.refl _ _) | (with_reducible assumption) | (with_reducible refine below_alloc ?_ _) | (with_reducible refine below_drewN ?_ _) | (with_reducible refine Below.drew ?_) | (with_reducible refine below_then ?_ (by with_reducible assumption)) | (with_reducible refine Below.setCell ?_ (by go_size) _)))) hb1)
  have zs := HB.out.size
  have RA := Lib.hid (HA.out.rd.keep HB.out)
  clear hb1
  go_wp2_with (at_builtin; refine wpList_addE _ rfl _ _ 30 rfl 3 i0 (.int .i64 0) 1 8 Try.underlying30 hi iz0 iz1 iz2 rfl (by decide) (by decide) w1.heap.size (Nat.le_refl _) _ (by rfl) _ _ (World.ownsRow_nil _ _ _ _) ba a.length ca (ic a) (by rfl) (by rw [ic_len]; omega) NA.out RA.out (ic_one a) (by omega) ?_)
  intro v2 w2 o2 b2
  have HO2 := Lib.hid (show w2.ownsRow w1.heap.size 3 1 v2 a.length (ic a) by simpa using o2)
  have HB2 := Lib.hid (HB.out.trans (b2.mono zs))
  have HB12 := Lib.hid b2
  have RB := Lib.hid (HBB.out.rd.keep HB2.out)
  have zs2 := b2.size
  clear o2 b2
  go_wp2_with (at_builtin; refine wpList_addE _ rfl _ _ 30 rfl 3 i0 (.int .i64 0) 1 8 Try.underlying30 hi iz0 iz1 iz2 rfl (by decide) (by decide) w1.heap.size zs2 _ (by rfl) _ _ HO2.out bb b.length cb (ic b) (by rfl) (by rw [ic_len]; omega) NB.out RB.out (ic_one b) (by omega) ?_)
  intro v3 w3 o3 b3
  have HB13 := Lib.hid (HB12.out.trans b3)
  have HB3 := Lib.hid (HB.out.trans (HB13.out.mono zs))
  have o3' : w3.ownsRow w1.heap.size 3 1 v3 (a ++ b).length (ic (a ++ b)) := by rw [ic_app, hap]; exact o3
  obtain ⟨b4, c4, rfl, l4, _⟩ := list_of_own o3' (by omega)
  have L4 := Lib.hid l4
  clear o3 b3 o3' l4 RA RB
  clear hap
  generalize a ++ b = AB at *
  go_wp2_with fail
  refine (O1.out _ _ _ L4.out).mono ?_
  rintro e w4 ⟨v4, rfl, o4, hb⟩
  have HB4 := Lib.hid (below_then HB3.out hb)
  have HO4 := Lib.hid (own_mono (base' := w.heap.size) o4 HB3.out.size)
  clear hb o4
  go_wp2_with fail
  refine (O2.out _ HB4.out).mono ?_
  rintro e w5 ⟨v5, rfl, o5, hb⟩
  have HB5 := Lib.hid (below_then HB4.out hb)
  have HO4 := Lib.hid (own_keep HO4.out hb)
  have HO5 := Lib.hid (own_mono (base' := w.heap.size) o5 HB4.out.size)
  clear hb o5
  go_wp2_with fail
  go_returns
  exact ⟨_, _, rfl, HO4.out, HO5.out, HB5.out⟩
set_option maxRecDepth 100000 in set_option maxHeartbeats 4000000 in
theorem ref17_Bad (d : V3) (ba bb bc : Option Addr) (ca cb cc : Nat) (a b c : List Int) (w : World) (ha : IIn w ba a) (hb : IIn w bb b) (hc : IIn w bc c)
    (na : ba = none → a.length = 0 ∧ ca = 0) (nb : bb = none → b.length = 0 ∧ cb = 0) :
    Calls Try.prog 24 #[.agg #[.int .i64 d.x, .int .i64 d.y, .int .i64 d.z], .slice ba a.length ca, .slice bb b.length cb, .slice bc c.length cc] w (RPS w (badN d a b c) (badL d a b c) (badE d a b c)) := by
  have HP := Lib.hid (fun W => ref01_Many d W)
  have hE : badE d a b c = (if d.may then (if (mk d.n (-1) a && mk d.n (-1) b) && mk (3 * d.n) (-1) c then 0 else 8) else 8) := rfl
  have hN : badN d a b c = (if badE d a b c = 0 then ofSet d.n (a ++ b) else []) := rfl
  have hL : badL d a b c = (if badE d a b c = 0 then ofSet (3 * d.n) c else []) := rfl
  by_cases hd : d.may
  · rw [if_pos hd] at hE
    have hnn := V3.n_le hd
    have hnm := fb_nMay hd
    rw [V3.many_ok hd, V3.err_ok hd] at HP
    have K1 := Lib.hid (fun W (h : Below w.heap.size w W) => ref17_Marks d.n ba ca a W (ha.keep h))
    have K2 := Lib.hid (fun W (h : Below w.heap.size w W) => ref17_Marks d.n bb cb b W (hb.keep h))
    have K3 := Lib.hid (fun W (h : Below w.heap.size w W) => ref17_Marks (3 * d.n) bc cc c W (hc.keep h))
    have KS := Lib.hid (fun W (h : Below w.heap.size w W) e1 e2 => ref17_Sets d ba bb bc ca cb cc a b c W hd (ha.keep h) (hb.keep h) (hc.keep h) na nb e1 e2)
    have hl1 := ha.len
    have hl2 := hb.len
    have hl3 := hc.len
    clear ha hb hc na nb
    cases m1 : mk d.n (-1) a with
    | false =>
      rw [m1] at K1 hE
      rw [Bool.false_and, Bool.false_and, if_neg (by decide)] at hE
      rw [hE, if_neg (by decide)] at hN hL
      rw [hN, hL, hE]
      clear hN hL hE m1 KS hd hnm K2 K3
      generalize d.n = n at *
      go_enter Try.func24, Try.ntmps24
      go_wp2_with fail
      refine (HP.out _).mono ?_
      rintro e w1 ⟨rfl, hb1⟩
      have HB := Lib.hid (below_then (show Below w.heap.size w (w.alloc (.cells #[.int .i64 d.x, .int .i64 d.y, .int .i64 d.z] 23)) by (repeat (first | (with_reducible exact Below.refl _ _) | (with_reducible assumption) | (with_reducible refine below_alloc ?_ _) | (with_reducible refine below_drewN ?_ _) | (with_reducible refine Below.drew ?_) | (with_reducible refine below_then ?_ (by with_reducible assumption)) | (with_reducible refine Below.setCell ?_ (by go_size) _)))) hb1)
      clear hb1
      go_wp2_with fail
      refine (K1.out w1 HB.out).mono ?_
      rintro e w2 ⟨rfl, hb⟩
      have HB := Lib.hid (below_then HB.out hb)
      clear hb
      go_wp2_with fail
      go_returns
      exact ⟨_, _, rfl, World.ownsRow_nil _ _ _ _, World.ownsRow_nil _ _ _ _, HB.out⟩
    | true =>
    cases m2 : mk d.n (-1) b with
    | false =>
      rw [m1] at K1 hE
      rw [m2] at K2 hE
      rw [Bool.true_and, Bool.false_and, if_neg (by decide)] at hE
      rw [hE, if_neg (by decide)] at hN hL
      rw [hN, hL, hE]
      clear hN hL hE m1 m2 KS hd hnm K3
      generalize d.n = n at *
      go_enter Try.func24, Try.ntmps24
      go_wp2_with fail
      refine (HP.out _).mono ?_
      rintro e w1 ⟨rfl, hb1⟩
      have HB := Lib.hid (below_then (show Below w.heap.size w (w.alloc (.cells #[.int .i64 d.x, .int .i64 d.y, .int .i64 d.z] 23)) by (repeat (first | (with_reducible exact Below.refl _ _) | (with_reducible assumption) | (with_reducible refine below_alloc ?_ _) | (with_reducible refine below_drewN ?_ _) | (with_reducible refine Below.drew ?_) | (with_reducible refine below_then ?_ (by with_reducible assumption)) | (with_reducible refine Below.setCell ?_ (by go_size) _)))) hb1)
      clear hb1
      go_wp2_with fail
      refine (K1.out w1 HB.out).mono ?_
      rintro e w2 ⟨rfl, hb⟩
      have HB := Lib.hid (below_then HB.out hb)
      clear hb
      go_wp2_with fail
      refine (K2.out w2 HB.out).mono ?_
      rintro e w3 ⟨rfl, hb⟩
      have HB := Lib.hid (below_then HB.out hb)
      clear hb
      go_wp2_with fail
      go_returns
      exact ⟨_, _, rfl, World.ownsRow_nil _ _ _ _, World.ownsRow_nil _ _ _ _, HB.out⟩
    | true =>
    cases m3 : mk (3 * d.n) (-1) c with
    | false =>
      rw [m1] at K1 hE
      rw [m2] at K2 hE
      rw [m3] at K3 hE
      rw [Bool.true_and, Bool.true_and, if_neg (by decide)] at hE
      rw [hE, if_neg (by decide)] at hN hL
      rw [hN, hL, hE]
      clear hN hL hE m1 m2 m3 KS hd hnm
      generalize d.n = n at *
      go_enter Try.func24, Try.ntmps24
      go_wp2_with fail
      refine (HP.out _).mono ?_
      rintro e w1 ⟨rfl, hb1⟩
      have HB := Lib.hid (below_then (show Below w.heap.size w (w.alloc (.cells #[.int .i64 d.x, .int .i64 d.y, .int .i64 d.z] 23)) by (repeat (first | (with_reducible exact Below.refl _ _) | (with_reducible assumption) | (with_reducible refine below_alloc ?_ _) | (with_reducible refine below_drewN ?_ _) | (with_reducible refine Below.drew ?_) | (with_reducible refine below_then ?_ (by with_reducible assumption)) | (with_reducible refine Below.setCell ?_ (by go_size) _)))) hb1)
      clear hb1
      go_wp2_with fail
      refine (K1.out w1 HB.out).mono ?_
      rintro e w2 ⟨rfl, hb⟩
      have HB := Lib.hid (below_then HB.out hb)
      clear hb
      go_wp2_with fail
      refine (K2.out w2 HB.out).mono ?_
      rintro e w3 ⟨rfl, hb⟩
      have HB := Lib.hid (below_then HB.out hb)
      clear hb
      go_wp2_with fail
      refine (K3.out w3 HB.out).mono ?_
      rintro e w4 ⟨rfl, hb⟩
      have HB := Lib.hid (below_then HB.out hb)
      clear hb
      go_wp2_with fail
      go_returns
      exact ⟨_, _, rfl, World.ownsRow_nil _ _ _ _, World.ownsRow_nil _ _ _ _, HB.out⟩
    | true =>
      have e1 : ofErr d.n (a ++ b) = 0 := by
        refine of_ok hnm.1 (by rw [List.length_append]; omega) (fun x hx => ?_)
        rcases List.mem_append.1 hx with h | h
        · exact mk_in m1 x h
        · exact mk_in m2 x h
      have e2 : ofErr (3 * d.n) c = 0 := of_ok hnm.2 (by omega) (mk_in m3)
      have KS2 := Lib.hid (fun W (h : Below w.heap.size w W) => KS.out W h e1 e2)
      rw [m1] at K1 hE
      rw [m2] at K2 hE
      rw [m3] at K3 hE
      rw [Bool.true_and, Bool.true_and, if_pos rfl] at hE
      rw [if_pos hE] at hN hL
      rw [hN, hL, hE]
      clear hN hL hE m1 m2 m3 KS hd hnm e1 e2
      generalize ofSet d.n (a ++ b) = O1 at *
      generalize ofSet (3 * d.n) c = O2 at *
      generalize d.n = n at *
      go_enter Try.func24, Try.ntmps24
      go_wp2_with fail
      refine (HP.out _).mono ?_
      rintro e w1 ⟨rfl, hb1⟩
      have BD := Lib.hid ((Blk.new w 23 #[.int .i64 d.x, .int .i64 d.y, .int .i64 d.z]).below hb1)
      have HB := Lib.hid (below_then (show Below w.heap.size w (w.alloc (.cells #[.int .i64 d.x, .int .i64 d.y, .int .i64 d.z] 23)) by (repeat (first | (with_reducible exact Below.refl _ _) | (with_reducible assumption) | (with_reducible refine below_alloc ?_ _) | (with_reducible refine below_drewN ?_ _) | (with_reducible refine Below.drew ?_) | (with_reducible refine below_then ?_ (by with_reducible assumption)) | (with_reducible refine Below.setCell ?_ (by go_size) _)))) hb1)
      clear hb1
      go_wp2_with fail
      refine (K1.out w1 HB.out).mono ?_
      rintro e w2 ⟨rfl, hb⟩
      have HB := Lib.hid (below_then HB.out hb)
      have BD := Lib.hid (BD.out.below hb)
      clear hb
      go_wp2_with fail
      refine (K2.out w2 HB.out).mono ?_
      rintro e w3 ⟨rfl, hb⟩
      have HB := Lib.hid (below_then HB.out hb)
      have BD := Lib.hid (BD.out.below hb)
      clear hb
      go_wp2_with fail
      refine (K3.out w3 HB.out).mono ?_
      rintro e w4 ⟨rfl, hb⟩
      have HB := Lib.hid (below_then HB.out hb)
      have BD := Lib.hid (BD.out.below hb)
      clear hb
      (have d0 := (BD.out).cell 0 _ rfl; have d1 := (BD.out).cell 1 _ rfl; have d2 := (BD.out).cell 2 _ rfl)
      go_wp2_with fail
      refine (KS2.out w4 HB.out).mono ?_
      rintro e w5 ⟨v5, u5, rfl, o5, q5, hb⟩
      have HB5 := Lib.hid (below_then HB.out hb)
      have O5 := Lib.hid (own_mono (base' := w.heap.size) o5 HB.out.size)
      have Q5 := Lib.hid (own_mono (base' := w.heap.size) q5 HB.out.size)
      clear hb o5 q5 d0 d1 d2
      go_wp2_with fail
      go_returns
      exact ⟨_, _, rfl, O5.out, Q5.out, HB5.out⟩
  · rw [if_neg hd] at hE
    rw [hE, if_neg (by decide)] at hN hL
    rw [hN, hL, hE]
    rw [V3.err_no hd, V3.many_no hd] at HP
    clear ha hb hc na nb hN hL hE hd
    go_enter Try.func24, Try.ntmps24
    go_wp2_with ((with_reducible refine (HP.out _).mono ?_); rintro e w1 ⟨rfl, hb1⟩; (obtain ⟨hc1, hf1⟩ := bcell hb1; have hz1 := hb1.size; (try simp at hz1); have hB : Below w.heap.size w w1 := (by (repeat (first | (with_reducible exact Below.refl _ _) | (with_reducible assumption) | (with_reducible refine below_alloc ?_ _) | (with_reducible refine below_drewN ?_ _) | (with_reducible refine Below.drew ?_) | (with_reducible refine below_then ?_ (by with_reducible assumption)) | (with_reducible refine Below.setCell ?_ (by go_size) _)))); obtain ⟨hcB, hfB⟩ := bcell hB; (try have z0 : w.heap.size < w1.heap.size := by omega); (try have z1 : w.heap.size + 1 < w1.heap.size := by omega); (try have z2 : w.heap.size + 2 < w1.heap.size := by omega); (try have z3 : w.heap.size + 3 < w1.heap.size := by omega)))
    all_goals
      go_returns
      exact ⟨_, _, rfl, World.ownsRow_nil _ _ _ _, World.ownsRow_nil _ _ _ _, by (repeat (first | (with_reducible exact Below.refl _ _) | (with_reducible assumption) | (with_reducible refine below_alloc ?_ _) | (with_reducible refine below_drewN ?_ _) | (with_reducible refine Below.drew ?_) | (with_reducible refine below_then ?_ (by with_reducible assumption)) | (with_reducible refine Below.setCell ?_ (by go_size) _)))⟩
end
end Go.Proofs.Ythabpiphfaedaaa
