/- SetJoins: what is in both, in either, in one alone, whether two meet, whether one is in the other one, are the document's: the call returns true. -/
import Derived.Test.YtilibdhcahdndaaSetLaw
import Derived.Test.YtilibdhcahdndaaCopy
import Derived.Test.YtilibdhcahdndaaRowSet
namespace Go.Proofs.Ytilibdhcahdndaa
open Go.ChangeShapes Go.WideShapes Go.ChangeAt Go.RowKit Go.Shelf

set_option maxRecDepth 100000 in set_option maxHeartbeats 4000000 in
theorem law03_SetJoins (n : Int) (ba bb : Option Addr) (ca cb : Nat) (a b : List Nat) (w : World) (ha : Rd w ba (wcells a) ∧ W64 a) (hb : Rd w bb (wcells b) ∧ W64 b) (hna : ba = none → a.length = 0 ∧ ca = 0) :
    Calls Try.prog 3 #[.int .i64 n, .slice ba a.length ca, .slice bb b.length cb] w (RB w (.bool true)) := by
  obtain ⟨i0, hi, iz0, iz1, iz2⟩ := info_parts infoU64
  have HA0 := Lib.hid ha
  have HB0 := Lib.hid hb
  have haf := Lib.hid ha.2
  clear ha hb
  by_cases h1 : a.length ≤ 300
  · by_cases h2 : b.length ≤ 300
    · have HA := Lib.hid (SetIn.mk HA0.out.1 (by omega) haf.out)
      have HB := Lib.hid (SetIn.mk HB0.out.1 (by omega) HB0.out.2)
      clear HA0 HB0
      have hJ1 := Lib.hid (And.intro (refJoin_fit true false false n a b) (refJoin_len true false false n a b))
      have hJ2 := Lib.hid (And.intro (refJoin_fit true true true n a b) (refJoin_len true true true n a b))
      have hJ3 := Lib.hid (And.intro (refJoin_fit false true false n a b) (refJoin_len false true false n a b))
      have C1 := Lib.hid (fun (base : Option Addr) (cap : Nat) (W : World) (h : SetIn W base a) (hb : SetIn W bb b) => set_And_ref n base bb cap cb a b W h hb)
      have D1 := Lib.hid (fun (W : World) (h : SetIn W ba a) (hb : SetIn W bb b) => ref03_And n ba bb ca cb a b W h hb)
      have C2 := Lib.hid (fun (base : Option Addr) (cap : Nat) (W : World) (h : SetIn W base a) (hb : SetIn W bb b) => set_Or_ref n base bb cap cb a b W h hb)
      have D2 := Lib.hid (fun (W : World) (h : SetIn W ba a) (hb : SetIn W bb b) => ref03_Or n ba bb ca cb a b W h hb)
      have C3 := Lib.hid (fun (base : Option Addr) (cap : Nat) (W : World) (h : SetIn W base a) (hb : SetIn W bb b) => set_Less_ref n base bb cap cb a b W h hb)
      have D3 := Lib.hid (fun (W : World) (h : SetIn W ba a) (hb : SetIn W bb b) => ref03_Less n ba bb ca cb a b W h hb)
      have C4 := Lib.hid (fun (base : Option Addr) (cap : Nat) (W : World) (h : SetIn W base a) (hb : SetIn W bb b) => set_Meet_ref n base bb cap cb a b W h hb)
      have D4 := Lib.hid (fun (W : World) (h : SetIn W ba a) (hb : SetIn W bb b) => ref03_Meet n ba bb ca cb a b W h hb (by omega))
      have C5 := Lib.hid (fun (base : Option Addr) (cap : Nat) (W : World) (h : SetIn W base a) (hb : SetIn W bb b) => set_In_ref n base bb cap cb a b W h hb)
      have D5 := Lib.hid (fun (W : World) (h : SetIn W ba a) (hb : SetIn W bb b) => ref03_In n ba bb ca cb a b W h hb (by omega))
      generalize refJoin true false false n a b = j1 at *
      generalize refJoin true true true n a b = j2 at *
      generalize refJoin false true false n a b = j3 at *
      generalize refHit n a b = x1 at *
      generalize refIn n a b = x2 at *
      generalize sChk2 n a b = e0 at *
      go_enter Try.func3, Try.ntmps3
      go_wp2_with (first | (refine wp_region_quiet_lit (by kernel_rfl) (by kernel_rfl) ?_; (repeat (any_goals (first | go_big_quiet_step (fail) | quiet_step (fail) | (refine wpQuiet_step (fun K hK => ?_); go_simp; split <;> (refine hK _ ?_; clear hK K))))); all_goals (refine wpQuiet_nil ?_; intro _ hw'; obtain ⟨nq, hw''⟩ := hw'; subst hw'')) | (at_builtin; refine wpList_copy _ rfl _ _ 23 rfl 34 i0 (.int .u64 0) 1 8 Try.underlying23 hi iz0 iz1 iz2 rfl (by decide) (by decide) rfl ba a.length ca (wcells a) rfl (by rw [wcells_len]; omega) hna ?ap1 (wcells_one a) (by omega) ?_))
      case ap1 => exact HA.out.rd.keep (by (repeat (first | (with_reducible exact Below.refl _ _) | (with_reducible assumption) | (with_reducible refine below_alloc ?_ _) | (with_reducible refine below_drewN ?_ _) | (with_reducible refine Below.drew ?_) | (with_reducible refine below_then ?_ (by with_reducible assumption)) | (with_reducible refine Below.setCell ?_ (by go_size) _))))
      intro v' w1 r1 hb1
      have hb0 : Below w.heap.size w w1 := by (repeat (first | (with_reducible exact Below.refl _ _) | (with_reducible assumption) | (with_reducible refine below_alloc ?_ _) | (with_reducible refine below_drewN ?_ _) | (with_reducible refine Below.drew ?_) | (with_reducible refine below_then ?_ (by with_reducible assumption)) | (with_reducible refine Below.setCell ?_ (by go_size) _)))
      have HF := Lib.hid hb0
      obtain ⟨ob, oc, rfl, so, _⟩ := set_of_own r1 (by omega) haf.out
      have HO := Lib.hid so
      have HA := Lib.hid (HA.out.keep hb0)
      have HB := Lib.hid (HB.out.keep hb0)
      have O1 := Lib.hid HO.out
      have A1 := Lib.hid HA.out
      clear so r1 hb1 hb0
      go_wp2_with fail
      refine (C1.out ob oc _ HO.out HB.out).mono ?_
      rintro e w2 ⟨v1, rfl, q1, hb1⟩
      obtain ⟨b1, k1, rfl, s1, _⟩ := set_of_own q1 (by have := hJ1.out.2; omega) hJ1.out.1
      have HQ := Lib.hid q1
      have S1 := Lib.hid s1
      have HBEL := Lib.hid hb1
      have HO := Lib.hid (HO.out.keep hb1)
      have HA := Lib.hid (HA.out.keep hb1)
      have HB := Lib.hid (HB.out.keep hb1)
      clear q1 s1 hb1
      go_wp2_with fail
      refine (D1.out _ HA.out HB.out).mono ?_
      rintro e w3 ⟨v2, rfl, q2, hb1⟩
      obtain ⟨b2, k2, rfl, s2, _⟩ := set_of_own q2 (by have := hJ1.out.2; omega) hJ1.out.1
      have S2 := Lib.hid s2
      clear q2 s2
      (have S1 := Lib.hid (S1.out.keep hb1); have HQ := Lib.hid (own_keep HQ.out hb1); have HBEL := Lib.hid (below_then HBEL.out hb1); have HO := Lib.hid (HO.out.keep hb1); have HA := Lib.hid (HA.out.keep hb1); have HB := Lib.hid (HB.out.keep hb1))
      clear hb1
      go_wp2_with fail
      refine (C2.out ob oc _ HO.out HB.out).mono ?_
      rintro e w4 ⟨v3, rfl, q3, hb1⟩
      obtain ⟨b3, k3, rfl, s3, _⟩ := set_of_own q3 (by have := hJ2.out.2; omega) hJ2.out.1
      (have S1 := Lib.hid (S1.out.keep hb1); have HQ := Lib.hid (own_keep HQ.out hb1); have HBEL := Lib.hid (below_then HBEL.out hb1); have HO := Lib.hid (HO.out.keep hb1); have HA := Lib.hid (HA.out.keep hb1); have HB := Lib.hid (HB.out.keep hb1))
      have S2 := Lib.hid (S2.out.keep hb1)
      have S3 := Lib.hid s3
      clear q3 s3 hb1
      go_wp2_with fail
      refine (D2.out _ HA.out HB.out).mono ?_
      rintro e w5 ⟨v4, rfl, q4, hb1⟩
      obtain ⟨b4, k4, rfl, s4, _⟩ := set_of_own q4 (by have := hJ2.out.2; omega) hJ2.out.1
      (have S1 := Lib.hid (S1.out.keep hb1); have HQ := Lib.hid (own_keep HQ.out hb1); have HBEL := Lib.hid (below_then HBEL.out hb1); have HO := Lib.hid (HO.out.keep hb1); have HA := Lib.hid (HA.out.keep hb1); have HB := Lib.hid (HB.out.keep hb1))
      have S2 := Lib.hid (S2.out.keep hb1)
      have S3 := Lib.hid (S3.out.keep hb1)
      have S4 := Lib.hid s4
      clear q4 s4 hb1
      go_wp2_with fail
      refine (C3.out ob oc _ HO.out HB.out).mono ?_
      rintro e w6 ⟨v5, rfl, q5, hb1⟩
      obtain ⟨b5, k5, rfl, s5, _⟩ := set_of_own q5 (by have := hJ3.out.2; omega) hJ3.out.1
      (have S1 := Lib.hid (S1.out.keep hb1); have HQ := Lib.hid (own_keep HQ.out hb1); have HBEL := Lib.hid (below_then HBEL.out hb1); have HO := Lib.hid (HO.out.keep hb1); have HA := Lib.hid (HA.out.keep hb1); have HB := Lib.hid (HB.out.keep hb1))
      have S2 := Lib.hid (S2.out.keep hb1)
      have S3 := Lib.hid (S3.out.keep hb1)
      have S4 := Lib.hid (S4.out.keep hb1)
      have S5 := Lib.hid s5
      clear q5 s5 hb1
      go_wp2_with fail
      refine (D3.out _ HA.out HB.out).mono ?_
      rintro e w7 ⟨v6, rfl, q6, hb1⟩
      obtain ⟨b6, k6, rfl, s6, _⟩ := set_of_own q6 (by have := hJ3.out.2; omega) hJ3.out.1
      (have S1 := Lib.hid (S1.out.keep hb1); have HQ := Lib.hid (own_keep HQ.out hb1); have HBEL := Lib.hid (below_then HBEL.out hb1); have HO := Lib.hid (HO.out.keep hb1); have HA := Lib.hid (HA.out.keep hb1); have HB := Lib.hid (HB.out.keep hb1); have S2 := Lib.hid (S2.out.keep hb1); have S3 := Lib.hid (S3.out.keep hb1); have S4 := Lib.hid (S4.out.keep hb1); have S5 := Lib.hid (S5.out.keep hb1))
      have S6 := Lib.hid s6
      clear q6 s6 hb1
      go_wp2_with fail
      refine (C4.out ob oc _ HO.out HB.out).mono ?_
      rintro e w8 ⟨rfl, hb1⟩
      (have S1 := Lib.hid (S1.out.keep hb1); have HQ := Lib.hid (own_keep HQ.out hb1); have HBEL := Lib.hid (below_then HBEL.out hb1); have HO := Lib.hid (HO.out.keep hb1); have HA := Lib.hid (HA.out.keep hb1); have HB := Lib.hid (HB.out.keep hb1); have S2 := Lib.hid (S2.out.keep hb1); have S3 := Lib.hid (S3.out.keep hb1); have S4 := Lib.hid (S4.out.keep hb1); have S5 := Lib.hid (S5.out.keep hb1); have S6 := Lib.hid (S6.out.keep hb1))
      clear hb1
      go_wp2_with fail
      refine (D4.out _ HA.out HB.out).mono ?_
      rintro e w9 ⟨rfl, hb1⟩
      (have S1 := Lib.hid (S1.out.keep hb1); have HQ := Lib.hid (own_keep HQ.out hb1); have HBEL := Lib.hid (below_then HBEL.out hb1); have HO := Lib.hid (HO.out.keep hb1); have HA := Lib.hid (HA.out.keep hb1); have HB := Lib.hid (HB.out.keep hb1); have S2 := Lib.hid (S2.out.keep hb1); have S3 := Lib.hid (S3.out.keep hb1); have S4 := Lib.hid (S4.out.keep hb1); have S5 := Lib.hid (S5.out.keep hb1); have S6 := Lib.hid (S6.out.keep hb1))
      clear hb1
      go_wp2_with fail
      refine (C5.out ob oc _ HO.out HB.out).mono ?_
      rintro e w10 ⟨rfl, hb1⟩
      (have S1 := Lib.hid (S1.out.keep hb1); have HQ := Lib.hid (own_keep HQ.out hb1); have HBEL := Lib.hid (below_then HBEL.out hb1); have HO := Lib.hid (HO.out.keep hb1); have HA := Lib.hid (HA.out.keep hb1); have HB := Lib.hid (HB.out.keep hb1); have S2 := Lib.hid (S2.out.keep hb1); have S3 := Lib.hid (S3.out.keep hb1); have S4 := Lib.hid (S4.out.keep hb1); have S5 := Lib.hid (S5.out.keep hb1); have S6 := Lib.hid (S6.out.keep hb1))
      clear hb1
      go_wp2_with fail
      refine (D5.out _ HA.out HB.out).mono ?_
      rintro e w11 ⟨rfl, hb1⟩
      (have S1 := Lib.hid (S1.out.keep hb1); have HQ := Lib.hid (own_keep HQ.out hb1); have HBEL := Lib.hid (below_then HBEL.out hb1); have HO := Lib.hid (HO.out.keep hb1); have HA := Lib.hid (HA.out.keep hb1); have HB := Lib.hid (HB.out.keep hb1); have S2 := Lib.hid (S2.out.keep hb1); have S3 := Lib.hid (S3.out.keep hb1); have S4 := Lib.hid (S4.out.keep hb1); have S5 := Lib.hid (S5.out.keep hb1); have S6 := Lib.hid (S6.out.keep hb1))
      clear hb1
      clear C1 C2 C3 C4 C5 D1 D2 D3 D4 D5
      go_wp2_with fail
      refine (Calls.rb_eq (ref03_Same b1 b2 k1 k2 j1 j1 _ S1.out S2.out) (show Value.bool (decide (j1 = j1)) = .bool true by simp)).mono ?_
      rintro e w12 ⟨rfl, hb1⟩
      (have S1 := Lib.hid (S1.out.keep hb1); have HQ := Lib.hid (own_keep HQ.out hb1); have HBEL := Lib.hid (below_then HBEL.out hb1); have HO := Lib.hid (HO.out.keep hb1); have HA := Lib.hid (HA.out.keep hb1); have HB := Lib.hid (HB.out.keep hb1); have S2 := Lib.hid (S2.out.keep hb1); have S3 := Lib.hid (S3.out.keep hb1); have S4 := Lib.hid (S4.out.keep hb1); have S5 := Lib.hid (S5.out.keep hb1); have S6 := Lib.hid (S6.out.keep hb1))
      clear hb1
      go_wp2_with fail
      refine (Calls.rb_eq (ref03_Same b3 b4 k3 k4 j2 j2 _ S3.out S4.out) (show Value.bool (decide (j2 = j2)) = .bool true by simp)).mono ?_
      rintro e w13 ⟨rfl, hb1⟩
      (have S1 := Lib.hid (S1.out.keep hb1); have HQ := Lib.hid (own_keep HQ.out hb1); have HBEL := Lib.hid (below_then HBEL.out hb1); have HO := Lib.hid (HO.out.keep hb1); have HA := Lib.hid (HA.out.keep hb1); have HB := Lib.hid (HB.out.keep hb1); have S2 := Lib.hid (S2.out.keep hb1); have S3 := Lib.hid (S3.out.keep hb1); have S4 := Lib.hid (S4.out.keep hb1); have S5 := Lib.hid (S5.out.keep hb1); have S6 := Lib.hid (S6.out.keep hb1))
      clear hb1
      go_wp2_with fail
      refine (Calls.rb_eq (ref03_Same b5 b6 k5 k6 j3 j3 _ S5.out S6.out) (show Value.bool (decide (j3 = j3)) = .bool true by simp)).mono ?_
      rintro e w14 ⟨rfl, hb1⟩
      (have S1 := Lib.hid (S1.out.keep hb1); have HQ := Lib.hid (own_keep HQ.out hb1); have HBEL := Lib.hid (below_then HBEL.out hb1); have HO := Lib.hid (HO.out.keep hb1); have HA := Lib.hid (HA.out.keep hb1); have HB := Lib.hid (HB.out.keep hb1); have S2 := Lib.hid (S2.out.keep hb1); have S3 := Lib.hid (S3.out.keep hb1); have S4 := Lib.hid (S4.out.keep hb1); have S5 := Lib.hid (S5.out.keep hb1); have S6 := Lib.hid (S6.out.keep hb1))
      clear hb1 S1 S2 S3 S4 S5 S6
      go_wp2_with fail
      go_loopw [29] (fun i wr => ∃ (k : Nat) (ws : List Nat), k ≤ j1.length ∧ i = .int .i64 k ∧ W64 ws ∧ ws.length = j1.length ∧ wr.ownsRow w1.heap.size 34 1 (.slice b1 j1.length k1) j1.length (wcells ws) ∧ Below w1.heap.size w1 wr) (fun i _ => j1.length - (intOf i).toNat)
      case atStart => exact ⟨0, j1, Nat.zero_le _, rfl, hJ1.out.1, rfl, HQ.out, HBEL.out⟩
      case round =>
        clear HO HA HB HQ HBEL
        have hjl := hJ1.out.2
        obtain ⟨k, ws, hk, rfl, hwf, hwl, hown, hbel⟩ := hrel
        have HQ := Lib.hid hown
        have HW := Lib.hid hwf
        clear hown hwf
        by_cases hlt : k < j1.length
        · obtain ⟨g, cap, cur, hv, hg0, _⟩ := HQ.out.2.resolve_left (fun h => by have := h.2; omega)
          cases hv
          have hkl : k < ws.length := by omega
          have hx : ws[k] < 18446744073709551616 := HW.out _ (List.getElem_mem hkl)
          have hca : wr.cell? ⟨g, k, none⟩ = some (.int .u64 (ws[k] : Int)) := by rw [HQ.out.cellAt _ (by omega)]; exact wcells_at hkl
          have hfa : wr.frozen? ⟨g, k, none⟩ = false := HQ.out.frozenAt _
          have hst := Lib.hid (HQ.out.stored k (.int .u64 (IntKind.u64.wrap ((ws[k] : Int) + 1))))
          have hpb := Lib.hid (show wcells (ws.set k ((ws[k] + 1) % 18446744073709551616)) = (wcells ws).set k (.int .u64 (IntKind.u64.wrap ((ws[k] : Int) + 1))) by
            rw [IntKind.wrap_u64, show ((ws[k] : Int) + 1) % 18446744073709551616 = (((ws[k] + 1) % 18446744073709551616 : Nat) : Int) by omega]
            simp [wcells, List.map_set])
          have hfit : W64 (ws.set k ((ws[k] + 1) % 18446744073709551616)) := fun y hy => by
            rcases List.mem_or_eq_of_mem_set hy with h | rfl
            · exact HW.out y h
            · exact Nat.mod_lt _ (by decide)
          have hfit := Lib.hid hfit
          obtain ⟨x, hxx⟩ : ∃ x, x = ws[k] := ⟨_, rfl⟩
          rw [← hxx] at hca hx hst hpb hfit
          clear hxx
          go_wp2_with (refine wp_region_quiet_lit (by kernel_rfl) (by kernel_rfl) ?_; (repeat (any_goals (first | go_big_quiet_step (fail) | quiet_step (fail) | (refine wpQuiet_step (fun K hK => ?_); go_simp; split <;> (refine hK _ ?_; clear hK K))))); all_goals (refine wpQuiet_nil ?_; intro _ hw'; obtain ⟨nq, hw''⟩ := hw'; subst hw''))
          all_goals
            go_roundw
            case rel => exact ⟨k + 1, _, by omega, by go_num, hfit.out, by simp; omega, by rw [hpb.out]; exact hst.out.1, hbel.setCell (p := ⟨g, k, none⟩) hg0 _⟩
            case measure => simp [intOf]; omega
        · obtain rfl : k = j1.length := by omega
          have hO := Lib.hid (O1.out.keep hbel)
          have hA := Lib.hid (A1.out.keep hbel)
          go_wp2_with fail
          refine (Calls.rb_eq (ref03_Same ob ba oc ca a a _ hO.out hA.out) (show Value.bool (decide (a = a)) = .bool true by simp)).mono ?_
          rintro e w15 ⟨rfl, hb1⟩
          have hB2 := below_then HF.out (below_then hbel hb1)
          go_wp2_with fail
          go_returns
          exact ⟨rfl, hB2⟩
    · have h2' : 300 < b.length := by omega
      go_enter Try.func3, Try.ntmps3
      go_wp2_with (refine wp_region_quiet_lit (by kernel_rfl) (by kernel_rfl) ?_; (repeat (any_goals (first | go_big_quiet_step (fail) | quiet_step (fail) | (refine wpQuiet_step (fun K hK => ?_); go_simp; split <;> (refine hK _ ?_; clear hK K))))); all_goals (refine wpQuiet_nil ?_; intro _ hw'; obtain ⟨nq, hw''⟩ := hw'; subst hw''))
      all_goals
        go_returns
        exact ⟨rfl, by (repeat (first | (with_reducible exact Below.refl _ _) | (with_reducible assumption) | (with_reducible refine below_alloc ?_ _) | (with_reducible refine below_drewN ?_ _) | (with_reducible refine Below.drew ?_) | (with_reducible refine below_then ?_ (by with_reducible assumption)) | (with_reducible refine Below.setCell ?_ (by go_size) _)))⟩
  · have h1' : 300 < a.length := by omega
    go_enter Try.func3, Try.ntmps3
    go_wp2_with (refine wp_region_quiet_lit (by kernel_rfl) (by kernel_rfl) ?_; (repeat (any_goals (first | go_big_quiet_step (fail) | quiet_step (fail) | (refine wpQuiet_step (fun K hK => ?_); go_simp; split <;> (refine hK _ ?_; clear hK K))))); all_goals (refine wpQuiet_nil ?_; intro _ hw'; obtain ⟨nq, hw''⟩ := hw'; subst hw''))
    all_goals
      go_returns
      exact ⟨rfl, by (repeat (first | (with_reducible exact Below.refl _ _) | (with_reducible assumption) | (with_reducible refine below_alloc ?_ _) | (with_reducible refine below_drewN ?_ _) | (with_reducible refine Below.drew ?_) | (with_reducible refine below_then ?_ (by with_reducible assumption)) | (with_reducible refine Below.setCell ?_ (by go_size) _)))⟩

set_option maxRecDepth 100000 in set_option maxHeartbeats 4000000 in
theorem lift_setJoins (os : Os) (started : os.Started) (H : Type) (enc : TypeId × Value → H) :
    ReturnsInHanded {} Try.checked os 3 .any (Rows.setJoinsSpec.pre6 enc Try.prog Try.f3 Rows.setJoinsRow.domain false) (Rows.setJoinsSpec.post enc Try.prog Try.f3 false true false false) := by
  refine returnsInHanded_of_change (C := Try.checked) ownKnob0 started (by kernel_rfl) Try.func3
    (ChangeSpec.witness6 (enc := enc) (C := Try.checked) false ⟨#[], #[.int .i64 0, .slice none 0 0, .slice none 0 0], []⟩ 8 (by kernel_rfl) (by kernel_rfl) (by kernel_rfl) (by kernel_rfl)) ?_
  intro W base args ds gs before hval0 hW hcnd _
  have hval : ∀ (j : Nat) t v, Try.f3.params[j]? = some t → args[j]? = some v → Value.okWide Try.prog W .any base t v := hval0
  have hW' := hW
  obtain ⟨p, q, hA0, hV, rfl, hfz, hnd⟩ := hW
  have hA : DataW.TrodAll enc Try.prog W 0 (fun _ => true) true Try.f3.params.toList args.toList ds p := hA0
  rw [Try.params3] at hA hval
  have hK := hA
  obtain ⟨v0, vs0, d0, ds0, p0, q0, hargs, rfl, rfl, h0, r0⟩ := trodAll_cons hA
  obtain ⟨v1, vs1, d1, ds1, p1, q1, rfl, rfl, rfl, h1, r1⟩ := trodAll_cons r0
  obtain ⟨v2, vs2, d2, ds2, p2, q2, rfl, rfl, rfl, h2, r2⟩ := trodAll_cons r1
  obtain ⟨rfl, rfl, rfl⟩ := trodAll_nil r2
  obtain rfl : args = #[v0, v1, v2] := by cases args; simp_all
  obtain ⟨n, rfl⟩ := okWide_int Try.underlying3 (hval 0 _ v0 rfl rfl)
  obtain ⟨ba, a, ca, rfl, ha, hna⟩ := open_set (hval 1 _ v1 rfl rfl) h1
  obtain ⟨bb, b, cb, rfl, hb, hnb⟩ := open_set (hval 2 _ v2 rfl rfl) h2
  obtain ⟨rfl, rfl⟩ := trodVars_none hV
  clear hA0 hval0
  simp only [List.append_nil] at hW' hK
  refine (law03_SetJoins n ba bb ca cb a b W ha hb hna).mono fun e W' ⟨he, bel⟩ => ?_
  subst he
  refine ⟨_, rfl, _, _, _, [], _, [], hW', trodAll_mk1 (shut_bool Try.underlying4 _), trodAll_below bel _ _ _ _ ?_ hK, rfl, bel.frame _, fun h => by cases h⟩
  intro t ht
  simp at ht
  rcases ht with rfl | rfl | rfl <;> exact ⟨by kernel_rfl, of_decide_eq_true (by kernel_rfl)⟩

theorem holds_setJoins : Rows.setJoinsRow.holds Try.pinned (OpenSpec.ofChange Rows.setJoinsSpec) :=
  OpenClaim.holds_of_wide 3 Try.f3 rfl rfl rfl rfl rfl rfl rfl ⟨rfl, rfl, rfl, rfl, rfl⟩ rfl rfl rfl rfl rfl (by kernel_rfl) Try.func3 (by kernel_rfl)
    (of_decide_eq_true (by kernel_rfl)) (by unfold Func.isWrapper; first | (rw [if_pos (by decide +kernel)]; kernel_rfl) | (rw [if_neg (by decide +kernel)]; exact ⟨rfl, rfl⟩))
    (fun os started H enc _ => lift_setJoins os started H enc)

theorem SetJoins_holds : Rows.SetJoinsSaid := holds_setJoins
end Go.Proofs.Ytilibdhcahdndaa
