/- CalsBusy: what is busy through a span is so through each that it lies in, and what is busy through two spans, one behind the other, is busy through either: the call returns true. -/
import Derived.Test.YtfikgjcmnooglaaYardM
import Derived.Test.YtfikgjcmnooglaaYardTwo
import Derived.Test.YtfikgjcmnooglaaTimeW
import Derived.Test.YtfikgjcmnooglaaRowYard
namespace Go.Proofs.Ytfikgjcmnooglaa
open Go.ChangeShapes Go.WideShapes Go.ChangeAt Go.RowKit Go.Shelf

set_option maxRecDepth 100000 in set_option maxHeartbeats 4000000 in
theorem busy_great (d : V3) (bn bl : Option Addr) (cn cl : Nat) (ns ls : List (List Sl)) (f t g u : Int) (w : World) (hn : CR w bn ns) (hl : CR w bl ls)
    (hG : ∀ W, CR W bn ns → CR W bl ls → Calls Try.prog 26 #[.agg #[.int .i64 d.x, .int .i64 d.y, .int .i64 d.z, (.slice bn ns.length cn), (.slice bl ls.length cl)]] W (RB W (.bool true))) :
    Calls Try.prog 12 #[.agg #[.int .i64 d.x, .int .i64 d.y, .int .i64 d.z, (.slice bn ns.length cn), (.slice bl ls.length cl)], .agg #[.int .i64 f, .int .i64 t], .agg #[.int .i64 g, .int .i64 u]] w (RB w (.bool true)) := by
  obtain ⟨W0, hW0⟩ : ∃ W0, W0 = (((w.alloc (.cells #[.int .i64 d.x, .int .i64 d.y, .int .i64 d.z, (.slice bn ns.length cn), (.slice bl ls.length cl)] 42)).alloc (.cells #[.int .i64 f, .int .i64 t] 24)).alloc (.cells #[.int .i64 g, .int .i64 u] 24)) := ⟨_, rfl⟩
  have F := Lib.hid (show BFr w W0 d bn bl cn cl ns ls f t g u by rw [hW0]; exact BFr.new w d bn bl cn cl ns ls f t g u hn hl)
  have HW := Lib.hid hW0
  have A1 := Lib.hid (fun W => law09_alive W)
  have G := Lib.hid hG
  clear hW0 hn hl hG
  (go_enter Try.func12, Try.ntmps12; go_upto_region 1 with fail; rw [← HW.out]; go_wp2_with fail; refine (A1.out _).mono ?_; rintro e w1 ⟨rfl, hb⟩; have F := Lib.hid (F.out.keep hb); clear hb; (have y0 := F.out.y.cell 0 _ rfl; have y1 := F.out.y.cell 1 _ rfl; have y2 := F.out.y.cell 2 _ rfl; have y3 := F.out.y.cell 3 _ rfl; have y4 := F.out.y.cell 4 _ rfl); go_wp2_with fail; refine (G.out _ F.out.hn F.out.hl).mono ?_; rintro e w2 ⟨rfl, hb⟩; have F := Lib.hid (F.out.keep hb); clear hb; clear y0 y1 y2 y3 y4)
  go_wp2_with fail
  go_returns
  exact ⟨rfl, F.out.b⟩
set_option maxRecDepth 100000 in set_option maxHeartbeats 4000000 in
theorem busy_err (d : V3) (bn bl : Option Addr) (cn cl : Nat) (ns ls : List (List Sl)) (f t g u : Int) (w : World) (hn : CR w bn ns) (hl : CR w bl ls) (hs : (ns.length ≤ 1000 ∧ ∀ c ∈ ns, c.length ≤ 10000) ∧ (ls.length ≤ 1000 ∧ ∀ c ∈ ls, c.length ≤ 10000))
    (hG : ∀ W, CR W bn ns → CR W bl ls → Calls Try.prog 26 #[.agg #[.int .i64 d.x, .int .i64 d.y, .int .i64 d.z, (.slice bn ns.length cn), (.slice bl ls.length cl)]] W (RB W (.bool false))) (he : ¬ (busyE ⟨d, ns, ls⟩ f t = 0 ∧ busyE ⟨d, ns, ls⟩ g u = 0)) :
    Calls Try.prog 12 #[.agg #[.int .i64 d.x, .int .i64 d.y, .int .i64 d.z, (.slice bn ns.length cn), (.slice bl ls.length cl)], .agg #[.int .i64 f, .int .i64 t], .agg #[.int .i64 g, .int .i64 u]] w (RB w (.bool true)) := by
  obtain ⟨W0, hW0⟩ : ∃ W0, W0 = (((w.alloc (.cells #[.int .i64 d.x, .int .i64 d.y, .int .i64 d.z, (.slice bn ns.length cn), (.slice bl ls.length cl)] 42)).alloc (.cells #[.int .i64 f, .int .i64 t] 24)).alloc (.cells #[.int .i64 g, .int .i64 u] 24)) := ⟨_, rfl⟩
  have F := Lib.hid (show BFr w W0 d bn bl cn cl ns ls f t g u by rw [hW0]; exact BFr.new w d bn bl cn cl ns ls f t g u hn hl)
  have HW := Lib.hid hW0
  have A1 := Lib.hid (fun W => law09_alive W)
  have G := Lib.hid hG
  have Ssm := Lib.hid hs
  have B1 := Lib.hid (fun (W : World) v (h : YS W v ⟨d, ns, ls⟩) => y_Busy h f t)
  have B2 := Lib.hid (fun (W : World) v (h : YS W v ⟨d, ns, ls⟩) => y_Busy h g u)
  generalize (busyV ⟨d, ns, ls⟩ f t).1 = x1 at *
  generalize (busyV ⟨d, ns, ls⟩ f t).2 = x2 at *
  generalize (busyV ⟨d, ns, ls⟩ g u).1 = z1 at *
  generalize (busyV ⟨d, ns, ls⟩ g u).2 = z2 at *
  generalize busyE ⟨d, ns, ls⟩ f t = x3 at *
  generalize busyE ⟨d, ns, ls⟩ g u = z3 at *
  clear hW0 hn hl hG hs
  by_cases h1 : x3 = 0
  · have h2 : z3 ≠ 0 := fun e => he ⟨h1, e⟩
    subst h1
    have e1 : (z3 == 0) = false := by simpa using h2
    have e2 : (z3 != 0) = true := by simpa using h2
    clear he h2
    (go_enter Try.func12, Try.ntmps12; go_upto_region 1 with fail; rw [← HW.out]; go_wp2_with fail; refine (A1.out _).mono ?_; rintro e w1 ⟨rfl, hb⟩; have F := Lib.hid (F.out.keep hb); clear hb; (have y0 := F.out.y.cell 0 _ rfl; have y1 := F.out.y.cell 1 _ rfl; have y2 := F.out.y.cell 2 _ rfl; have y3 := F.out.y.cell 3 _ rfl; have y4 := F.out.y.cell 4 _ rfl); go_wp2_with fail; refine (G.out _ F.out.hn F.out.hl).mono ?_; rintro e w2 ⟨rfl, hb⟩; have F := Lib.hid (F.out.keep hb); clear hb; clear y0 y1 y2 y3 y4)
    ((have y0 := F.out.y.cell 0 _ rfl; have y1 := F.out.y.cell 1 _ rfl; have y2 := F.out.y.cell 2 _ rfl; have y3 := F.out.y.cell 3 _ rfl; have y4 := F.out.y.cell 4 _ rfl); (have s0 := F.out.s.cell 0 _ rfl; have s1 := F.out.s.cell 1 _ rfl; have t0 := F.out.t.cell 0 _ rfl; have t1 := F.out.t.cell 1 _ rfl); go_wp2_with fail; refine (B1.out _ _ (F.out.ys Ssm.out)).mono ?_; rintro e w3 ⟨a1, a2, rfl, X1, X2, hb⟩; have F := Lib.hid (F.out.keep hb); have X1 := Lib.hid X1; have X2 := Lib.hid X2; clear hb; clear y0 y1 y2 y3 y4; clear s0 s1 t0 t1; (have y0 := F.out.y.cell 0 _ rfl; have y1 := F.out.y.cell 1 _ rfl; have y2 := F.out.y.cell 2 _ rfl; have y3 := F.out.y.cell 3 _ rfl; have y4 := F.out.y.cell 4 _ rfl); (have s0 := F.out.s.cell 0 _ rfl; have s1 := F.out.s.cell 1 _ rfl; have t0 := F.out.t.cell 0 _ rfl; have t1 := F.out.t.cell 1 _ rfl); go_wp2_with fail; refine (B2.out _ _ (F.out.ys Ssm.out)).mono ?_; rintro e w4 ⟨c1, c2, rfl, Z1, Z2, hb⟩; have F := Lib.hid (F.out.keep hb); have X1 := Lib.hid (X1.out.keep hb); have X2 := Lib.hid (X2.out.keep hb); have Z1 := Lib.hid Z1; have Z2 := Lib.hid Z2; clear hb; clear y0 y1 y2 y3 y4; clear s0 s1 t0 t1; (have y0 := F.out.y.cell 0 _ rfl; have y1 := F.out.y.cell 1 _ rfl; have y2 := F.out.y.cell 2 _ rfl; have y3 := F.out.y.cell 3 _ rfl; have y4 := F.out.y.cell 4 _ rfl); (have s0 := F.out.s.cell 0 _ rfl; have s1 := F.out.s.cell 1 _ rfl; have t0 := F.out.t.cell 0 _ rfl; have t1 := F.out.t.cell 1 _ rfl))
    go_wp2_with fail
    go_returns
    exact ⟨rfl, F.out.b⟩
  · have e1 : (x3 == 0) = false := by simpa using h1
    have e2 : (x3 != 0) = true := by simpa using h1
    clear he h1
    (go_enter Try.func12, Try.ntmps12; go_upto_region 1 with fail; rw [← HW.out]; go_wp2_with fail; refine (A1.out _).mono ?_; rintro e w1 ⟨rfl, hb⟩; have F := Lib.hid (F.out.keep hb); clear hb; (have y0 := F.out.y.cell 0 _ rfl; have y1 := F.out.y.cell 1 _ rfl; have y2 := F.out.y.cell 2 _ rfl; have y3 := F.out.y.cell 3 _ rfl; have y4 := F.out.y.cell 4 _ rfl); go_wp2_with fail; refine (G.out _ F.out.hn F.out.hl).mono ?_; rintro e w2 ⟨rfl, hb⟩; have F := Lib.hid (F.out.keep hb); clear hb; clear y0 y1 y2 y3 y4)
    ((have y0 := F.out.y.cell 0 _ rfl; have y1 := F.out.y.cell 1 _ rfl; have y2 := F.out.y.cell 2 _ rfl; have y3 := F.out.y.cell 3 _ rfl; have y4 := F.out.y.cell 4 _ rfl); (have s0 := F.out.s.cell 0 _ rfl; have s1 := F.out.s.cell 1 _ rfl; have t0 := F.out.t.cell 0 _ rfl; have t1 := F.out.t.cell 1 _ rfl); go_wp2_with fail; refine (B1.out _ _ (F.out.ys Ssm.out)).mono ?_; rintro e w3 ⟨a1, a2, rfl, X1, X2, hb⟩; have F := Lib.hid (F.out.keep hb); have X1 := Lib.hid X1; have X2 := Lib.hid X2; clear hb; clear y0 y1 y2 y3 y4; clear s0 s1 t0 t1; (have y0 := F.out.y.cell 0 _ rfl; have y1 := F.out.y.cell 1 _ rfl; have y2 := F.out.y.cell 2 _ rfl; have y3 := F.out.y.cell 3 _ rfl; have y4 := F.out.y.cell 4 _ rfl); (have s0 := F.out.s.cell 0 _ rfl; have s1 := F.out.s.cell 1 _ rfl; have t0 := F.out.t.cell 0 _ rfl; have t1 := F.out.t.cell 1 _ rfl); go_wp2_with fail; refine (B2.out _ _ (F.out.ys Ssm.out)).mono ?_; rintro e w4 ⟨c1, c2, rfl, Z1, Z2, hb⟩; have F := Lib.hid (F.out.keep hb); have X1 := Lib.hid (X1.out.keep hb); have X2 := Lib.hid (X2.out.keep hb); have Z1 := Lib.hid Z1; have Z2 := Lib.hid Z2; clear hb; clear y0 y1 y2 y3 y4; clear s0 s1 t0 t1; (have y0 := F.out.y.cell 0 _ rfl; have y1 := F.out.y.cell 1 _ rfl; have y2 := F.out.y.cell 2 _ rfl; have y3 := F.out.y.cell 3 _ rfl; have y4 := F.out.y.cell 4 _ rfl); (have s0 := F.out.s.cell 0 _ rfl; have s1 := F.out.s.cell 1 _ rfl; have t0 := F.out.t.cell 0 _ rfl; have t1 := F.out.t.cell 1 _ rfl))
    go_wp2_with fail
    go_returns
    exact ⟨rfl, F.out.b⟩
set_option maxRecDepth 100000 in set_option maxHeartbeats 4000000 in
theorem busy_ok (d : V3) (bn bl : Option Addr) (cn cl : Nat) (ns ls : List (List Sl)) (f t g u : Int) (w : World) (hn : CR w bn ns) (hl : CR w bl ls) (hs : (ns.length ≤ 1000 ∧ ∀ c ∈ ns, c.length ≤ 10000) ∧ (ls.length ≤ 1000 ∧ ∀ c ∈ ls, c.length ≤ 10000))
    (hG : ∀ W, CR W bn ns → CR W bl ls → Calls Try.prog 26 #[.agg #[.int .i64 d.x, .int .i64 d.y, .int .i64 d.z, (.slice bn ns.length cn), (.slice bl ls.length cl)]] W (RB W (.bool false))) (he1 : busyE ⟨d, ns, ls⟩ f t = 0) (he2 : busyE ⟨d, ns, ls⟩ g u = 0) :
    Calls Try.prog 12 #[.agg #[.int .i64 d.x, .int .i64 d.y, .int .i64 d.z, (.slice bn ns.length cn), (.slice bl ls.length cl)], .agg #[.int .i64 f, .int .i64 t], .agg #[.int .i64 g, .int .i64 u]] w (RB w (.bool true)) := by
  obtain ⟨W0, hW0⟩ : ∃ W0, W0 = (((w.alloc (.cells #[.int .i64 d.x, .int .i64 d.y, .int .i64 d.z, (.slice bn ns.length cn), (.slice bl ls.length cl)] 42)).alloc (.cells #[.int .i64 f, .int .i64 t] 24)).alloc (.cells #[.int .i64 g, .int .i64 u] 24)) := ⟨_, rfl⟩
  have F := Lib.hid (show BFr w W0 d bn bl cn cl ns ls f t g u by rw [hW0]; exact BFr.new w d bn bl cn cl ns ls f t g u hn hl)
  have HW := Lib.hid hW0
  have A1 := Lib.hid (fun W => law09_alive W)
  have G := Lib.hid hG
  have Ssm := Lib.hid hs
  obtain ⟨hok, m1⟩ := busyE_0 he1
  obtain ⟨_, m2⟩ := busyE_0 he2
  have hM := Yd.ok_many hok
  have hA := Yd.ok_all hok
  have hL := Yd.ok_len hok
  have hn9 := hs.1.1
  have e1 : ∀ f t, busyE ⟨d, ns, ls⟩ f t = 0 → busyV ⟨d, ns, ls⟩ f t = (whS (fun c => !clearB c f t) ns, whS (fun c => !clearB c f t) ls) := fun f t h => if_pos h
  have B1 := Lib.hid (fun (W : World) v (h : YS W v ⟨d, ns, ls⟩) => by have := y_Busy h f t; rw [e1 f t he1, he1] at this; exact this)
  have B2 := Lib.hid (fun (W : World) v (h : YS W v ⟨d, ns, ls⟩) => by have := y_Busy h g u; rw [e1 g u he2, he2] at this; exact this)
  have T := Lib.hid (fun W => time_Within f t g u W m1 m2)
  have I1 := Lib.hid (fun (W : World) a b (h1 : SS W a (whS (fun c => !clearB c f t) ns)) (h2 : SS W b (whS (fun c => !clearB c g u) ns)) => ss_In h1 h2 (whS_chk2 _ _ hM.1))
  have I2 := Lib.hid (fun (W : World) a b (h1 : SS W a (whS (fun c => !clearB c f t) ls)) (h2 : SS W b (whS (fun c => !clearB c g u) ls)) => by have := ss_In h1 h2 (whS_chk2 _ _ hM.2); rw [hL] at this; exact this)
  have Q1 : (decide (g ≤ f) && decide (t ≤ u)) = true → (!anyNZ (joinIf lessW ns.length (whS (fun c => !clearB c f t) ns) (whS (fun c => !clearB c g u) ns))) = true := fun h => by
    rw [Bool.and_eq_true, decide_eq_true_eq, decide_eq_true_eq] at h
    rw [whS_in hM.1 (fun c hc => busy_in (hA.1 c hc) m1.1.2 m2.1.2 h.1 h.2)]
    rfl
  have Q2 : (decide (g ≤ f) && decide (t ≤ u)) = true → (!anyNZ (joinIf lessW (3 * (ns.length : Int)) (whS (fun c => !clearB c f t) ls) (whS (fun c => !clearB c g u) ls))) = true := fun h => by
    rw [Bool.and_eq_true, decide_eq_true_eq, decide_eq_true_eq] at h
    rw [← hL, whS_in hM.2 (fun c hc => busy_in (hA.2 c hc) m1.1.2 m2.1.2 h.1 h.2)]
    rfl
  by_cases htg : t = g
  · subst htg
    have m3 : spMay f u := ⟨⟨m1.1.1, by have := m1.1.2; have := m2.1.2; omega⟩, m2.2⟩
    have he3 : busyE ⟨d, ns, ls⟩ f u = 0 := by unfold busyE; rw [hok, if_pos rfl, okIf_yes m3]
    have B3 := Lib.hid (fun (W : World) v (h : YS W v ⟨d, ns, ls⟩) => by have := y_Busy h f u; rw [e1 f u he3, he3] at this; exact this)
    have O1 := Lib.hid (fun (W : World) a b (h1 : SS W a (whS (fun c => !clearB c f t) ns)) (h2 : SS W b (whS (fun c => !clearB c t u) ns)) => by have := ss_Or h1 h2 (whS_chk2 _ _ hM.1); rw [whS_or (r := fun c => !clearB c f u) hM.1 (fun c hc => busy_or (hA.1 c hc) m1.1.2 m2.1.2)] at this; exact this)
    have O2 := Lib.hid (fun (W : World) a b (h1 : SS W a (whS (fun c => !clearB c f t) ls)) (h2 : SS W b (whS (fun c => !clearB c t u) ls)) => by have := ss_Or h1 h2 (whS_chk2 _ _ hM.2); rw [whS_or (r := fun c => !clearB c f u) hM.2 (fun c hc => busy_or (hA.2 c hc) m1.1.2 m2.1.2), hL] at this; exact this)
    have E1 := Lib.hid (fun W u v (x : List Nat) (h : SS W u x) (h2 : SS W v x) => Calls.rb_eq (h.same h2) (show Value.bool (decide (x = x)) = .bool true by simp))
    generalize (decide (t ≤ f) && decide (t ≤ u)) = r at *
    generalize (!anyNZ (joinIf lessW ns.length (whS (fun c => !clearB c f t) ns) (whS (fun c => !clearB c t u) ns))) = q1 at *
    generalize (!anyNZ (joinIf lessW (3 * (ns.length : Int)) (whS (fun c => !clearB c f t) ls) (whS (fun c => !clearB c t u) ls))) = q2 at *
    generalize whS (fun c => !clearB c f t) ns = x1 at *
    generalize whS (fun c => !clearB c f t) ls = x2 at *
    generalize whS (fun c => !clearB c t u) ns = z1 at *
    generalize whS (fun c => !clearB c t u) ls = z2 at *
    generalize whS (fun c => !clearB c f u) ns = v1 at *
    generalize whS (fun c => !clearB c f u) ls = v2 at *
    clear hW0 hn hl hG hs he1 he2 he3 hok hM hA hL e1 m1 m2 m3
    have hr : r = false ∨ (r = true ∧ q1 = true ∧ q2 = true) := by
      cases r with
      | false => exact .inl rfl
      | true => exact .inr ⟨rfl, Q1 rfl, Q2 rfl⟩
    clear Q1 Q2
    rcases hr with rfl | ⟨rfl, rfl, rfl⟩
    · (go_enter Try.func12, Try.ntmps12; go_upto_region 1 with fail; rw [← HW.out]; go_wp2_with fail; refine (A1.out _).mono ?_; rintro e w1 ⟨rfl, hb⟩; have F := Lib.hid (F.out.keep hb); clear hb; (have y0 := F.out.y.cell 0 _ rfl; have y1 := F.out.y.cell 1 _ rfl; have y2 := F.out.y.cell 2 _ rfl; have y3 := F.out.y.cell 3 _ rfl; have y4 := F.out.y.cell 4 _ rfl); go_wp2_with fail; refine (G.out _ F.out.hn F.out.hl).mono ?_; rintro e w2 ⟨rfl, hb⟩; have F := Lib.hid (F.out.keep hb); clear hb; clear y0 y1 y2 y3 y4)
      ((have y0 := F.out.y.cell 0 _ rfl; have y1 := F.out.y.cell 1 _ rfl; have y2 := F.out.y.cell 2 _ rfl; have y3 := F.out.y.cell 3 _ rfl; have y4 := F.out.y.cell 4 _ rfl); (have s0 := F.out.s.cell 0 _ rfl; have s1 := F.out.s.cell 1 _ rfl; have t0 := F.out.t.cell 0 _ rfl; have t1 := F.out.t.cell 1 _ rfl); go_wp2_with fail; refine (B1.out _ _ (F.out.ys Ssm.out)).mono ?_; rintro e w3 ⟨a1, a2, rfl, X1, X2, hb⟩; have F := Lib.hid (F.out.keep hb); have X1 := Lib.hid X1; have X2 := Lib.hid X2; clear hb; clear y0 y1 y2 y3 y4; clear s0 s1 t0 t1; (have y0 := F.out.y.cell 0 _ rfl; have y1 := F.out.y.cell 1 _ rfl; have y2 := F.out.y.cell 2 _ rfl; have y3 := F.out.y.cell 3 _ rfl; have y4 := F.out.y.cell 4 _ rfl); (have s0 := F.out.s.cell 0 _ rfl; have s1 := F.out.s.cell 1 _ rfl; have t0 := F.out.t.cell 0 _ rfl; have t1 := F.out.t.cell 1 _ rfl); go_wp2_with fail; refine (B2.out _ _ (F.out.ys Ssm.out)).mono ?_; rintro e w4 ⟨c1, c2, rfl, Z1, Z2, hb⟩; have F := Lib.hid (F.out.keep hb); have X1 := Lib.hid (X1.out.keep hb); have X2 := Lib.hid (X2.out.keep hb); have Z1 := Lib.hid Z1; have Z2 := Lib.hid Z2; clear hb; clear y0 y1 y2 y3 y4; clear s0 s1 t0 t1; (have y0 := F.out.y.cell 0 _ rfl; have y1 := F.out.y.cell 1 _ rfl; have y2 := F.out.y.cell 2 _ rfl; have y3 := F.out.y.cell 3 _ rfl; have y4 := F.out.y.cell 4 _ rfl); (have s0 := F.out.s.cell 0 _ rfl; have s1 := F.out.s.cell 1 _ rfl; have t0 := F.out.t.cell 0 _ rfl; have t1 := F.out.t.cell 1 _ rfl))
      (go_wp2_with fail; refine (T.out _).mono ?_; rintro e w5 ⟨rfl, hb⟩; have F := Lib.hid (F.out.keep hb); have X1 := Lib.hid (X1.out.keep hb); have X2 := Lib.hid (X2.out.keep hb); have Z1 := Lib.hid (Z1.out.keep hb); have Z2 := Lib.hid (Z2.out.keep hb); clear hb; clear y0 y1 y2 y3 y4; clear s0 s1 t0 t1; go_wp2_with fail; refine (I1.out _ _ _ X1.out Z1.out).mono ?_; rintro e w6 ⟨rfl, hb⟩; have F := Lib.hid (F.out.keep hb); have X1 := Lib.hid (X1.out.keep hb); have X2 := Lib.hid (X2.out.keep hb); have Z1 := Lib.hid (Z1.out.keep hb); have Z2 := Lib.hid (Z2.out.keep hb); clear hb; go_wp2_with fail; refine (I2.out _ _ _ X2.out Z2.out).mono ?_; rintro e w7 ⟨rfl, hb⟩; have F := Lib.hid (F.out.keep hb); have X1 := Lib.hid (X1.out.keep hb); have X2 := Lib.hid (X2.out.keep hb); have Z1 := Lib.hid (Z1.out.keep hb); have Z2 := Lib.hid (Z2.out.keep hb); clear hb; (have y0 := F.out.y.cell 0 _ rfl; have y1 := F.out.y.cell 1 _ rfl; have y2 := F.out.y.cell 2 _ rfl; have y3 := F.out.y.cell 3 _ rfl; have y4 := F.out.y.cell 4 _ rfl); (have s0 := F.out.s.cell 0 _ rfl; have s1 := F.out.s.cell 1 _ rfl; have t0 := F.out.t.cell 0 _ rfl; have t1 := F.out.t.cell 1 _ rfl); go_wp2_with fail)
      (refine (B3.out _ _ (F.out.ys Ssm.out)).mono ?_; rintro e w8 ⟨p1, p2, rfl, V1, V2, hb⟩; have F := Lib.hid (F.out.keep hb); have X1 := Lib.hid (X1.out.keep hb); have X2 := Lib.hid (X2.out.keep hb); have Z1 := Lib.hid (Z1.out.keep hb); have Z2 := Lib.hid (Z2.out.keep hb); have V1 := Lib.hid V1; have V2 := Lib.hid V2; clear hb; clear y0 y1 y2 y3 y4; clear s0 s1 t0 t1; go_wp2_with fail; refine (O1.out _ _ _ X1.out Z1.out).mono ?_; rintro e w9 ⟨m1, rfl, M1, hb⟩; have F := Lib.hid (F.out.keep hb); have X2 := Lib.hid (X2.out.keep hb); have Z2 := Lib.hid (Z2.out.keep hb); have V1 := Lib.hid (V1.out.keep hb); have V2 := Lib.hid (V2.out.keep hb); have M1 := Lib.hid M1; clear hb; go_wp2_with fail; refine (O2.out _ _ _ X2.out Z2.out).mono ?_; rintro e w10 ⟨m2, rfl, M2, hb⟩; have F := Lib.hid (F.out.keep hb); have V1 := Lib.hid (V1.out.keep hb); have V2 := Lib.hid (V2.out.keep hb); have M1 := Lib.hid (M1.out.keep hb); have M2 := Lib.hid M2; clear hb; go_wp2_with fail; refine (E1.out _ _ _ _ V1.out M1.out).mono ?_; rintro e w11 ⟨rfl, hb⟩; have F := Lib.hid (F.out.keep hb); have V2 := Lib.hid (V2.out.keep hb); have M2 := Lib.hid (M2.out.keep hb); clear hb; go_wp2_with fail; refine (E1.out _ _ _ _ V2.out M2.out).mono ?_; rintro e w12 ⟨rfl, hb⟩; have F := Lib.hid (F.out.keep hb); clear hb; go_wp2_with fail; go_returns; exact ⟨rfl, F.out.b⟩)
    · (go_enter Try.func12, Try.ntmps12; go_upto_region 1 with fail; rw [← HW.out]; go_wp2_with fail; refine (A1.out _).mono ?_; rintro e w1 ⟨rfl, hb⟩; have F := Lib.hid (F.out.keep hb); clear hb; (have y0 := F.out.y.cell 0 _ rfl; have y1 := F.out.y.cell 1 _ rfl; have y2 := F.out.y.cell 2 _ rfl; have y3 := F.out.y.cell 3 _ rfl; have y4 := F.out.y.cell 4 _ rfl); go_wp2_with fail; refine (G.out _ F.out.hn F.out.hl).mono ?_; rintro e w2 ⟨rfl, hb⟩; have F := Lib.hid (F.out.keep hb); clear hb; clear y0 y1 y2 y3 y4)
      ((have y0 := F.out.y.cell 0 _ rfl; have y1 := F.out.y.cell 1 _ rfl; have y2 := F.out.y.cell 2 _ rfl; have y3 := F.out.y.cell 3 _ rfl; have y4 := F.out.y.cell 4 _ rfl); (have s0 := F.out.s.cell 0 _ rfl; have s1 := F.out.s.cell 1 _ rfl; have t0 := F.out.t.cell 0 _ rfl; have t1 := F.out.t.cell 1 _ rfl); go_wp2_with fail; refine (B1.out _ _ (F.out.ys Ssm.out)).mono ?_; rintro e w3 ⟨a1, a2, rfl, X1, X2, hb⟩; have F := Lib.hid (F.out.keep hb); have X1 := Lib.hid X1; have X2 := Lib.hid X2; clear hb; clear y0 y1 y2 y3 y4; clear s0 s1 t0 t1; (have y0 := F.out.y.cell 0 _ rfl; have y1 := F.out.y.cell 1 _ rfl; have y2 := F.out.y.cell 2 _ rfl; have y3 := F.out.y.cell 3 _ rfl; have y4 := F.out.y.cell 4 _ rfl); (have s0 := F.out.s.cell 0 _ rfl; have s1 := F.out.s.cell 1 _ rfl; have t0 := F.out.t.cell 0 _ rfl; have t1 := F.out.t.cell 1 _ rfl); go_wp2_with fail; refine (B2.out _ _ (F.out.ys Ssm.out)).mono ?_; rintro e w4 ⟨c1, c2, rfl, Z1, Z2, hb⟩; have F := Lib.hid (F.out.keep hb); have X1 := Lib.hid (X1.out.keep hb); have X2 := Lib.hid (X2.out.keep hb); have Z1 := Lib.hid Z1; have Z2 := Lib.hid Z2; clear hb; clear y0 y1 y2 y3 y4; clear s0 s1 t0 t1; (have y0 := F.out.y.cell 0 _ rfl; have y1 := F.out.y.cell 1 _ rfl; have y2 := F.out.y.cell 2 _ rfl; have y3 := F.out.y.cell 3 _ rfl; have y4 := F.out.y.cell 4 _ rfl); (have s0 := F.out.s.cell 0 _ rfl; have s1 := F.out.s.cell 1 _ rfl; have t0 := F.out.t.cell 0 _ rfl; have t1 := F.out.t.cell 1 _ rfl))
      (go_wp2_with fail; refine (T.out _).mono ?_; rintro e w5 ⟨rfl, hb⟩; have F := Lib.hid (F.out.keep hb); have X1 := Lib.hid (X1.out.keep hb); have X2 := Lib.hid (X2.out.keep hb); have Z1 := Lib.hid (Z1.out.keep hb); have Z2 := Lib.hid (Z2.out.keep hb); clear hb; clear y0 y1 y2 y3 y4; clear s0 s1 t0 t1; go_wp2_with fail; refine (I1.out _ _ _ X1.out Z1.out).mono ?_; rintro e w6 ⟨rfl, hb⟩; have F := Lib.hid (F.out.keep hb); have X1 := Lib.hid (X1.out.keep hb); have X2 := Lib.hid (X2.out.keep hb); have Z1 := Lib.hid (Z1.out.keep hb); have Z2 := Lib.hid (Z2.out.keep hb); clear hb; go_wp2_with fail; refine (I2.out _ _ _ X2.out Z2.out).mono ?_; rintro e w7 ⟨rfl, hb⟩; have F := Lib.hid (F.out.keep hb); have X1 := Lib.hid (X1.out.keep hb); have X2 := Lib.hid (X2.out.keep hb); have Z1 := Lib.hid (Z1.out.keep hb); have Z2 := Lib.hid (Z2.out.keep hb); clear hb; (have y0 := F.out.y.cell 0 _ rfl; have y1 := F.out.y.cell 1 _ rfl; have y2 := F.out.y.cell 2 _ rfl; have y3 := F.out.y.cell 3 _ rfl; have y4 := F.out.y.cell 4 _ rfl); (have s0 := F.out.s.cell 0 _ rfl; have s1 := F.out.s.cell 1 _ rfl; have t0 := F.out.t.cell 0 _ rfl; have t1 := F.out.t.cell 1 _ rfl); go_wp2_with fail)
      (refine (B3.out _ _ (F.out.ys Ssm.out)).mono ?_; rintro e w8 ⟨p1, p2, rfl, V1, V2, hb⟩; have F := Lib.hid (F.out.keep hb); have X1 := Lib.hid (X1.out.keep hb); have X2 := Lib.hid (X2.out.keep hb); have Z1 := Lib.hid (Z1.out.keep hb); have Z2 := Lib.hid (Z2.out.keep hb); have V1 := Lib.hid V1; have V2 := Lib.hid V2; clear hb; clear y0 y1 y2 y3 y4; clear s0 s1 t0 t1; go_wp2_with fail; refine (O1.out _ _ _ X1.out Z1.out).mono ?_; rintro e w9 ⟨m1, rfl, M1, hb⟩; have F := Lib.hid (F.out.keep hb); have X2 := Lib.hid (X2.out.keep hb); have Z2 := Lib.hid (Z2.out.keep hb); have V1 := Lib.hid (V1.out.keep hb); have V2 := Lib.hid (V2.out.keep hb); have M1 := Lib.hid M1; clear hb; go_wp2_with fail; refine (O2.out _ _ _ X2.out Z2.out).mono ?_; rintro e w10 ⟨m2, rfl, M2, hb⟩; have F := Lib.hid (F.out.keep hb); have V1 := Lib.hid (V1.out.keep hb); have V2 := Lib.hid (V2.out.keep hb); have M1 := Lib.hid (M1.out.keep hb); have M2 := Lib.hid M2; clear hb; go_wp2_with fail; refine (E1.out _ _ _ _ V1.out M1.out).mono ?_; rintro e w11 ⟨rfl, hb⟩; have F := Lib.hid (F.out.keep hb); have V2 := Lib.hid (V2.out.keep hb); have M2 := Lib.hid (M2.out.keep hb); clear hb; go_wp2_with fail; refine (E1.out _ _ _ _ V2.out M2.out).mono ?_; rintro e w12 ⟨rfl, hb⟩; have F := Lib.hid (F.out.keep hb); clear hb; go_wp2_with fail; go_returns; exact ⟨rfl, F.out.b⟩)
  · have hne : (t == g) = false := by simpa using htg
    have hne' : (t != g) = true := by simpa using htg
    generalize (decide (g ≤ f) && decide (t ≤ u)) = r at *
    generalize (!anyNZ (joinIf lessW ns.length (whS (fun c => !clearB c f t) ns) (whS (fun c => !clearB c g u) ns))) = q1 at *
    generalize (!anyNZ (joinIf lessW (3 * (ns.length : Int)) (whS (fun c => !clearB c f t) ls) (whS (fun c => !clearB c g u) ls))) = q2 at *
    generalize whS (fun c => !clearB c f t) ns = x1 at *
    generalize whS (fun c => !clearB c f t) ls = x2 at *
    generalize whS (fun c => !clearB c g u) ns = z1 at *
    generalize whS (fun c => !clearB c g u) ls = z2 at *
    clear hW0 hn hl hG hs he1 he2 hok hM hA hL e1 m1 m2 htg
    have hr : r = false ∨ (r = true ∧ q1 = true ∧ q2 = true) := by
      cases r with
      | false => exact .inl rfl
      | true => exact .inr ⟨rfl, Q1 rfl, Q2 rfl⟩
    clear Q1 Q2
    rcases hr with rfl | ⟨rfl, rfl, rfl⟩
    · (go_enter Try.func12, Try.ntmps12; go_upto_region 1 with fail; rw [← HW.out]; go_wp2_with fail; refine (A1.out _).mono ?_; rintro e w1 ⟨rfl, hb⟩; have F := Lib.hid (F.out.keep hb); clear hb; (have y0 := F.out.y.cell 0 _ rfl; have y1 := F.out.y.cell 1 _ rfl; have y2 := F.out.y.cell 2 _ rfl; have y3 := F.out.y.cell 3 _ rfl; have y4 := F.out.y.cell 4 _ rfl); go_wp2_with fail; refine (G.out _ F.out.hn F.out.hl).mono ?_; rintro e w2 ⟨rfl, hb⟩; have F := Lib.hid (F.out.keep hb); clear hb; clear y0 y1 y2 y3 y4)
      ((have y0 := F.out.y.cell 0 _ rfl; have y1 := F.out.y.cell 1 _ rfl; have y2 := F.out.y.cell 2 _ rfl; have y3 := F.out.y.cell 3 _ rfl; have y4 := F.out.y.cell 4 _ rfl); (have s0 := F.out.s.cell 0 _ rfl; have s1 := F.out.s.cell 1 _ rfl; have t0 := F.out.t.cell 0 _ rfl; have t1 := F.out.t.cell 1 _ rfl); go_wp2_with fail; refine (B1.out _ _ (F.out.ys Ssm.out)).mono ?_; rintro e w3 ⟨a1, a2, rfl, X1, X2, hb⟩; have F := Lib.hid (F.out.keep hb); have X1 := Lib.hid X1; have X2 := Lib.hid X2; clear hb; clear y0 y1 y2 y3 y4; clear s0 s1 t0 t1; (have y0 := F.out.y.cell 0 _ rfl; have y1 := F.out.y.cell 1 _ rfl; have y2 := F.out.y.cell 2 _ rfl; have y3 := F.out.y.cell 3 _ rfl; have y4 := F.out.y.cell 4 _ rfl); (have s0 := F.out.s.cell 0 _ rfl; have s1 := F.out.s.cell 1 _ rfl; have t0 := F.out.t.cell 0 _ rfl; have t1 := F.out.t.cell 1 _ rfl); go_wp2_with fail; refine (B2.out _ _ (F.out.ys Ssm.out)).mono ?_; rintro e w4 ⟨c1, c2, rfl, Z1, Z2, hb⟩; have F := Lib.hid (F.out.keep hb); have X1 := Lib.hid (X1.out.keep hb); have X2 := Lib.hid (X2.out.keep hb); have Z1 := Lib.hid Z1; have Z2 := Lib.hid Z2; clear hb; clear y0 y1 y2 y3 y4; clear s0 s1 t0 t1; (have y0 := F.out.y.cell 0 _ rfl; have y1 := F.out.y.cell 1 _ rfl; have y2 := F.out.y.cell 2 _ rfl; have y3 := F.out.y.cell 3 _ rfl; have y4 := F.out.y.cell 4 _ rfl); (have s0 := F.out.s.cell 0 _ rfl; have s1 := F.out.s.cell 1 _ rfl; have t0 := F.out.t.cell 0 _ rfl; have t1 := F.out.t.cell 1 _ rfl))
      (go_wp2_with fail; refine (T.out _).mono ?_; rintro e w5 ⟨rfl, hb⟩; have F := Lib.hid (F.out.keep hb); have X1 := Lib.hid (X1.out.keep hb); have X2 := Lib.hid (X2.out.keep hb); have Z1 := Lib.hid (Z1.out.keep hb); have Z2 := Lib.hid (Z2.out.keep hb); clear hb; clear y0 y1 y2 y3 y4; clear s0 s1 t0 t1; go_wp2_with fail; refine (I1.out _ _ _ X1.out Z1.out).mono ?_; rintro e w6 ⟨rfl, hb⟩; have F := Lib.hid (F.out.keep hb); have X1 := Lib.hid (X1.out.keep hb); have X2 := Lib.hid (X2.out.keep hb); have Z1 := Lib.hid (Z1.out.keep hb); have Z2 := Lib.hid (Z2.out.keep hb); clear hb; go_wp2_with fail; refine (I2.out _ _ _ X2.out Z2.out).mono ?_; rintro e w7 ⟨rfl, hb⟩; have F := Lib.hid (F.out.keep hb); have X1 := Lib.hid (X1.out.keep hb); have X2 := Lib.hid (X2.out.keep hb); have Z1 := Lib.hid (Z1.out.keep hb); have Z2 := Lib.hid (Z2.out.keep hb); clear hb; (have y0 := F.out.y.cell 0 _ rfl; have y1 := F.out.y.cell 1 _ rfl; have y2 := F.out.y.cell 2 _ rfl; have y3 := F.out.y.cell 3 _ rfl; have y4 := F.out.y.cell 4 _ rfl); (have s0 := F.out.s.cell 0 _ rfl; have s1 := F.out.s.cell 1 _ rfl; have t0 := F.out.t.cell 0 _ rfl; have t1 := F.out.t.cell 1 _ rfl); go_wp2_with fail)
      go_returns
      exact ⟨rfl, F.out.b⟩
    · (go_enter Try.func12, Try.ntmps12; go_upto_region 1 with fail; rw [← HW.out]; go_wp2_with fail; refine (A1.out _).mono ?_; rintro e w1 ⟨rfl, hb⟩; have F := Lib.hid (F.out.keep hb); clear hb; (have y0 := F.out.y.cell 0 _ rfl; have y1 := F.out.y.cell 1 _ rfl; have y2 := F.out.y.cell 2 _ rfl; have y3 := F.out.y.cell 3 _ rfl; have y4 := F.out.y.cell 4 _ rfl); go_wp2_with fail; refine (G.out _ F.out.hn F.out.hl).mono ?_; rintro e w2 ⟨rfl, hb⟩; have F := Lib.hid (F.out.keep hb); clear hb; clear y0 y1 y2 y3 y4)
      ((have y0 := F.out.y.cell 0 _ rfl; have y1 := F.out.y.cell 1 _ rfl; have y2 := F.out.y.cell 2 _ rfl; have y3 := F.out.y.cell 3 _ rfl; have y4 := F.out.y.cell 4 _ rfl); (have s0 := F.out.s.cell 0 _ rfl; have s1 := F.out.s.cell 1 _ rfl; have t0 := F.out.t.cell 0 _ rfl; have t1 := F.out.t.cell 1 _ rfl); go_wp2_with fail; refine (B1.out _ _ (F.out.ys Ssm.out)).mono ?_; rintro e w3 ⟨a1, a2, rfl, X1, X2, hb⟩; have F := Lib.hid (F.out.keep hb); have X1 := Lib.hid X1; have X2 := Lib.hid X2; clear hb; clear y0 y1 y2 y3 y4; clear s0 s1 t0 t1; (have y0 := F.out.y.cell 0 _ rfl; have y1 := F.out.y.cell 1 _ rfl; have y2 := F.out.y.cell 2 _ rfl; have y3 := F.out.y.cell 3 _ rfl; have y4 := F.out.y.cell 4 _ rfl); (have s0 := F.out.s.cell 0 _ rfl; have s1 := F.out.s.cell 1 _ rfl; have t0 := F.out.t.cell 0 _ rfl; have t1 := F.out.t.cell 1 _ rfl); go_wp2_with fail; refine (B2.out _ _ (F.out.ys Ssm.out)).mono ?_; rintro e w4 ⟨c1, c2, rfl, Z1, Z2, hb⟩; have F := Lib.hid (F.out.keep hb); have X1 := Lib.hid (X1.out.keep hb); have X2 := Lib.hid (X2.out.keep hb); have Z1 := Lib.hid Z1; have Z2 := Lib.hid Z2; clear hb; clear y0 y1 y2 y3 y4; clear s0 s1 t0 t1; (have y0 := F.out.y.cell 0 _ rfl; have y1 := F.out.y.cell 1 _ rfl; have y2 := F.out.y.cell 2 _ rfl; have y3 := F.out.y.cell 3 _ rfl; have y4 := F.out.y.cell 4 _ rfl); (have s0 := F.out.s.cell 0 _ rfl; have s1 := F.out.s.cell 1 _ rfl; have t0 := F.out.t.cell 0 _ rfl; have t1 := F.out.t.cell 1 _ rfl))
      (go_wp2_with fail; refine (T.out _).mono ?_; rintro e w5 ⟨rfl, hb⟩; have F := Lib.hid (F.out.keep hb); have X1 := Lib.hid (X1.out.keep hb); have X2 := Lib.hid (X2.out.keep hb); have Z1 := Lib.hid (Z1.out.keep hb); have Z2 := Lib.hid (Z2.out.keep hb); clear hb; clear y0 y1 y2 y3 y4; clear s0 s1 t0 t1; go_wp2_with fail; refine (I1.out _ _ _ X1.out Z1.out).mono ?_; rintro e w6 ⟨rfl, hb⟩; have F := Lib.hid (F.out.keep hb); have X1 := Lib.hid (X1.out.keep hb); have X2 := Lib.hid (X2.out.keep hb); have Z1 := Lib.hid (Z1.out.keep hb); have Z2 := Lib.hid (Z2.out.keep hb); clear hb; go_wp2_with fail; refine (I2.out _ _ _ X2.out Z2.out).mono ?_; rintro e w7 ⟨rfl, hb⟩; have F := Lib.hid (F.out.keep hb); have X1 := Lib.hid (X1.out.keep hb); have X2 := Lib.hid (X2.out.keep hb); have Z1 := Lib.hid (Z1.out.keep hb); have Z2 := Lib.hid (Z2.out.keep hb); clear hb; (have y0 := F.out.y.cell 0 _ rfl; have y1 := F.out.y.cell 1 _ rfl; have y2 := F.out.y.cell 2 _ rfl; have y3 := F.out.y.cell 3 _ rfl; have y4 := F.out.y.cell 4 _ rfl); (have s0 := F.out.s.cell 0 _ rfl; have s1 := F.out.s.cell 1 _ rfl; have t0 := F.out.t.cell 0 _ rfl; have t1 := F.out.t.cell 1 _ rfl); go_wp2_with fail)
      go_returns
      exact ⟨rfl, F.out.b⟩
theorem law09_CalsBusy (d : V3) (bn bl : Option Addr) (cn cl : Nat) (ns ls : List (List Sl)) (f t g u : Int) (w : World) (hn : CR w bn ns) (hl : CR w bl ls)
    (hz : (ns.length * 24 ≤ reachBytes ∧ ∀ c ∈ ns, c.length * 24 ≤ reachBytes) ∧ (ls.length * 24 ≤ reachBytes ∧ ∀ c ∈ ls, c.length * 24 ≤ reachBytes)) :
    Calls Try.prog 12 #[.agg #[.int .i64 d.x, .int .i64 d.y, .int .i64 d.z, (.slice bn ns.length cn), (.slice bl ls.length cl)], .agg #[.int .i64 f, .int .i64 t], .agg #[.int .i64 g, .int .i64 u]] w (RB w (.bool true)) := by
  have hG := fun W (h1 : CR W bn ns) (h2 : CR W bl ls) => great_reach d bn bl cn cl ns ls W h1 h2 hz
  cases hg : greatB ns ls with
  | true =>
    rw [hg] at hG
    exact busy_great d bn bl cn cl ns ls f t g u w hn hl hG
  | false =>
    rw [hg] at hG
    have hs := great_small hg
    by_cases he : busyE ⟨d, ns, ls⟩ f t = 0 ∧ busyE ⟨d, ns, ls⟩ g u = 0
    · exact busy_ok d bn bl cn cl ns ls f t g u w hn hl hs hG he.1 he.2
    · exact busy_err d bn bl cn cl ns ls f t g u w hn hl hs hG he

set_option maxRecDepth 100000 in set_option maxHeartbeats 4000000 in
theorem lift_calsBusy (os : Os) (started : os.Started) (H : Type) (enc : TypeId × Value → H) :
    ReturnsInHanded {} Try.checked os 12 .any (Rows.calsBusySpec.pre6 enc Try.prog Try.f12 Rows.calsBusyRow.domain false) (Rows.calsBusySpec.post enc Try.prog Try.f12 false true false false) := by
  refine returnsInHanded_of_change_sized (C := Try.checked) ownKnob0 started (by kernel_rfl) Try.func12
    (ChangeSpec.witness6 (enc := enc) (C := Try.checked) false ⟨#[], #[.agg #[.int .i64 (⟨0, 0, 0⟩ : V3).x, .int .i64 (⟨0, 0, 0⟩ : V3).y, .int .i64 (⟨0, 0, 0⟩ : V3).z, (.slice none 0 0), (.slice none 0 0)], .agg #[.int .i64 0, .int .i64 0], .agg #[.int .i64 0, .int .i64 0]], []⟩ 8 (by kernel_rfl) (by kernel_rfl) (by kernel_rfl) (by kernel_rfl)) ?_
  intro W base args ds gs before hval0 hW hcnd hwt _
  have hval : ∀ (j : Nat) t v, Try.f12.params[j]? = some t → args[j]? = some v → Value.okWide Try.prog W .any base t v := hval0
  have hW' := hW
  obtain ⟨p, q, hA0, hV, rfl, hfz, hnd⟩ := hW
  have hA : DataW.TrodAll enc Try.prog W 0 (fun _ => true) true Try.f12.params.toList args.toList ds p := hA0
  rw [Try.params12] at hA hval hwt
  have hK := hA
  obtain ⟨v0, vs0, d0, ds0, p0, q0, hargs, rfl, rfl, h0, r0⟩ := trodAll_cons hA
  obtain ⟨v1, vs1, d1, ds1, p1, q1, rfl, rfl, rfl, h1, r1⟩ := trodAll_cons r0
  obtain ⟨v2, vs2, d2, ds2, p2, q2, rfl, rfl, rfl, h2, r2⟩ := trodAll_cons r1
  obtain ⟨rfl, rfl, rfl⟩ := trodAll_nil r2
  obtain rfl : args = #[v0, v1, v2] := by cases args; simp_all
  obtain ⟨d, bn, bl, ns, ls, cn, cl, rfl, hn, hl, hz⟩ := open_yard (hval 0 _ v0 rfl rfl) h0
  obtain ⟨f, t, rfl⟩ := open_span (hval 1 _ v1 rfl rfl)
  obtain ⟨g, u, rfl⟩ := open_span (hval 2 _ v2 rfl rfl)
  have hz' := hz reachBytes (fun k hk => by have := List.all_eq_true.1 hwt k (DataW.weights_mem_each (j := 0) rfl rfl k hk); simpa using this)
  obtain ⟨rfl, rfl⟩ := trodVars_none hV
  clear hA0 hval0
  simp only [List.append_nil] at hW' hK
  refine (law09_CalsBusy d bn bl cn cl ns ls f t g u W hn hl hz').mono fun e W' ⟨he, bel⟩ => ?_
  subst he
  refine ⟨_, rfl, _, _, _, [], _, [], hW', trodAll_mk1 (shut_bool Try.underlying4 _), trodAll_below bel _ _ _ _ ?_ hK, rfl, bel.frame _, fun h => by cases h⟩
  intro t ht
  simp at ht <;> (rcases ht with rfl | rfl | rfl <;> exact ⟨by kernel_rfl, of_decide_eq_true (by kernel_rfl)⟩)

theorem holds_calsBusy : Rows.calsBusyRow.holds Try.pinned (OpenSpec.ofChange Rows.calsBusySpec) :=
  OpenClaim.holds_of_wide 12 Try.f12 rfl rfl rfl rfl rfl rfl rfl ⟨rfl, rfl, rfl, rfl, rfl⟩ rfl rfl rfl rfl rfl (by kernel_rfl) Try.func12 (by kernel_rfl)
    (of_decide_eq_true (by kernel_rfl)) (by unfold Func.isWrapper; first | (rw [if_pos (by decide +kernel)]; kernel_rfl) | (rw [if_neg (by decide +kernel)]; exact ⟨rfl, rfl⟩))
    (fun os started H enc _ => lift_calsBusy os started H enc)

theorem CalsBusy_holds : Rows.CalsBusySaid := holds_calsBusy
end Go.Proofs.Ytfikgjcmnooglaa
