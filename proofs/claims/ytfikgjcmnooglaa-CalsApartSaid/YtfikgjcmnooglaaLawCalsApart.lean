/- CalsApart: two owners never have one midplane, or cable, at one moment, and what an owner has at a moment is busy through each span with it: the call returns true. -/
import Derived.Test.YtfikgjcmnooglaaYardM
import Derived.Test.YtfikgjcmnooglaaYardTwo
import Derived.Test.YtfikgjcmnooglaaRowYard
namespace Go.Proofs.Ytfikgjcmnooglaa
open Go.ChangeShapes Go.WideShapes Go.ChangeAt Go.RowKit Go.Shelf

/-- Calendars and a span, in their boxes. -/
structure AFr (w W : World) (d : V3) (bn bl : Option Addr) (cn cl : Nat) (ns ls : List (List Sl)) (f t : Int) : Prop where
  y : Blk W w.heap.size 42 #[.int .i64 d.x, .int .i64 d.y, .int .i64 d.z, (.slice bn ns.length cn), (.slice bl ls.length cl)]
  s : Blk W (w.heap.size + 1) 24 #[.int .i64 f, .int .i64 t]
  hn : CR W bn ns
  hl : CR W bl ls
  b : Below w.heap.size w W
theorem AFr.keep {w W W' : World} {d : V3} {bn bl : Option Addr} {cn cl : Nat} {ns ls : List (List Sl)} {f t : Int} (h : AFr w W d bn bl cn cl ns ls f t) (hb : Below W.heap.size W W') : AFr w W' d bn bl cn cl ns ls f t :=
  ⟨h.y.below hb, h.s.below hb, h.hn.keep hb, h.hl.keep hb, below_then h.b hb⟩
theorem AFr.new (w : World) (d : V3) (bn bl : Option Addr) (cn cl : Nat) (ns ls : List (List Sl)) (f t : Int) (hn : CR w bn ns) (hl : CR w bl ls) : AFr w ((w.alloc (.cells #[.int .i64 d.x, .int .i64 d.y, .int .i64 d.z, (.slice bn ns.length cn), (.slice bl ls.length cl)] 42)).alloc (.cells #[.int .i64 f, .int .i64 t] 24)) d bn bl cn cl ns ls f t := by
  have hb : Below w.heap.size w ((w.alloc (.cells #[.int .i64 d.x, .int .i64 d.y, .int .i64 d.z, (.slice bn ns.length cn), (.slice bl ls.length cl)] 42)).alloc (.cells #[.int .i64 f, .int .i64 t] 24)) := by (repeat (first | (with_reducible exact Below.refl _ _) | (with_reducible assumption) | (with_reducible refine below_alloc ?_ _) | (with_reducible refine below_drewN ?_ _) | (with_reducible refine Below.drew ?_) | (with_reducible refine below_then ?_ (by with_reducible assumption)) | (with_reducible refine Below.setCell ?_ (by go_size) _)))
  have e1 : w.heap.size + 1 = (w.alloc (.cells #[.int .i64 d.x, .int .i64 d.y, .int .i64 d.z, (.slice bn ns.length cn), (.slice bl ls.length cl)] 42)).heap.size := by simp
  refine ⟨(Blk.new ..).alloc _, ?_, hn.keep hb, hl.keep hb, hb⟩
  rw [e1]; exact Blk.new ..
theorem AFr.ys {w W : World} {d : V3} {bn bl : Option Addr} {cn cl : Nat} {ns ls : List (List Sl)} {f t : Int} (h : AFr w W d bn bl cn cl ns ls f t) (hs : (ns.length ≤ 1000 ∧ ∀ c ∈ ns, c.length ≤ 10000) ∧ (ls.length ≤ 1000 ∧ ∀ c ∈ ls, c.length ≤ 10000)) :
    YS W (.agg #[.int .i64 d.x, .int .i64 d.y, .int .i64 d.z, (.slice bn ns.length cn), (.slice bl ls.length cl)]) ⟨d, ns, ls⟩ := ⟨bn, bl, cn, cl, rfl, ⟨h.hn, hs.1.1, hs.1.2⟩, ⟨h.hl, hs.2.1, hs.2.2⟩⟩
/-! ### the plain law -/
theorem ownE_0 {y : Yd} {a : Int} (h : ownE y a = 0) : y.okB = true ∧ 0 ≤ a ∧ a < 1099511627776 := by
  unfold ownE at h
  cases hok : y.okB with
  | false => rw [hok] at h; cases h
  | true =>
    rw [hok, if_pos rfl] at h
    refine ⟨rfl, ?_⟩
    by_cases hs : 0 ≤ a ∧ a < 1099511627776
    · exact hs
    · rw [okIf_no hs] at h; cases h
theorem own_apart {c : List Sl} (hc : calE c = 0) {ow ot a : Int} (h0 : 0 ≤ a) (h1 : a < 1099511627776) (hne : ow ≠ ot) (h : ownB ow a c = true) : ownB ot a c = false := by
  rw [← hit_own hc ow h0 h1, Bool.and_eq_true, decide_eq_true_eq, decide_eq_true_eq] at h
  rw [← hit_own hc ot h0 h1, decide_eq_true h.1, Bool.true_and, decide_eq_false_iff_not]
  intro e
  exact hne (h.2.symm.trans e)
theorem own_busy {c : List Sl} (hc : calE c = 0) {ow a f t : Int} (h1 : f ≤ a) (h2 : a < t) (h : ownB ow a c = true) : (!clearB c f t) = true := by
  cases hq : clearB c f t with
  | false => rfl
  | true =>
    have h3 := (clear_at hc (show f < t by omega)).1 hq
    obtain ⟨s, hs, hm⟩ := List.any_eq_true.1 h
    obtain ⟨k, hk, rfl⟩ := List.mem_iff_getElem.1 hs
    unfold mine inB at hm
    simp only [Bool.and_eq_true, decide_eq_true_eq] at hm
    have := h3 k hk
    omega
set_option maxRecDepth 100000 in set_option maxHeartbeats 4000000 in
theorem apart_great (d : V3) (bn bl : Option Addr) (cn cl : Nat) (ns ls : List (List Sl)) (ow ot a f t : Int) (w : World) (hn : CR w bn ns) (hl : CR w bl ls)
    (hG : ∀ W, CR W bn ns → CR W bl ls → Calls Try.prog 26 #[.agg #[.int .i64 d.x, .int .i64 d.y, .int .i64 d.z, (.slice bn ns.length cn), (.slice bl ls.length cl)]] W (RB W (.bool true))) :
    Calls Try.prog 13 #[.agg #[.int .i64 d.x, .int .i64 d.y, .int .i64 d.z, (.slice bn ns.length cn), (.slice bl ls.length cl)], .int .i64 ow, .int .i64 ot, .int .i64 a, .agg #[.int .i64 f, .int .i64 t]] w (RB w (.bool true)) := by
  obtain ⟨W0, hW0⟩ : ∃ W0, W0 = ((w.alloc (.cells #[.int .i64 d.x, .int .i64 d.y, .int .i64 d.z, (.slice bn ns.length cn), (.slice bl ls.length cl)] 42)).alloc (.cells #[.int .i64 f, .int .i64 t] 24)) := ⟨_, rfl⟩
  have F := Lib.hid (show AFr w W0 d bn bl cn cl ns ls f t by rw [hW0]; exact AFr.new w d bn bl cn cl ns ls f t hn hl)
  have HW := Lib.hid hW0
  have A1 := Lib.hid (fun W => law09_alive W)
  have G := Lib.hid hG
  clear hW0 hn hl hG
  (go_enter Try.func13, Try.ntmps13; go_upto_region 1 with fail; rw [← HW.out]; go_wp2_with fail; refine (A1.out _).mono ?_; rintro e w1 ⟨rfl, hb⟩; have F := Lib.hid (F.out.keep hb); clear hb; (have y0 := F.out.y.cell 0 _ rfl; have y1 := F.out.y.cell 1 _ rfl; have y2 := F.out.y.cell 2 _ rfl; have y3 := F.out.y.cell 3 _ rfl; have y4 := F.out.y.cell 4 _ rfl); go_wp2_with fail; refine (G.out _ F.out.hn F.out.hl).mono ?_; rintro e w2 ⟨rfl, hb⟩; have F := Lib.hid (F.out.keep hb); clear hb; clear y0 y1 y2 y3 y4)
  go_wp2_with fail
  go_returns
  exact ⟨rfl, F.out.b⟩
set_option maxRecDepth 100000 in set_option maxHeartbeats 4000000 in
theorem apart_err (d : V3) (bn bl : Option Addr) (cn cl : Nat) (ns ls : List (List Sl)) (ow ot a f t : Int) (w : World) (hn : CR w bn ns) (hl : CR w bl ls) (hs : (ns.length ≤ 1000 ∧ ∀ c ∈ ns, c.length ≤ 10000) ∧ (ls.length ≤ 1000 ∧ ∀ c ∈ ls, c.length ≤ 10000))
    (hG : ∀ W, CR W bn ns → CR W bl ls → Calls Try.prog 26 #[.agg #[.int .i64 d.x, .int .i64 d.y, .int .i64 d.z, (.slice bn ns.length cn), (.slice bl ls.length cl)]] W (RB W (.bool false))) (he : ownE ⟨d, ns, ls⟩ a ≠ 0) :
    Calls Try.prog 13 #[.agg #[.int .i64 d.x, .int .i64 d.y, .int .i64 d.z, (.slice bn ns.length cn), (.slice bl ls.length cl)], .int .i64 ow, .int .i64 ot, .int .i64 a, .agg #[.int .i64 f, .int .i64 t]] w (RB w (.bool true)) := by
  obtain ⟨W0, hW0⟩ : ∃ W0, W0 = ((w.alloc (.cells #[.int .i64 d.x, .int .i64 d.y, .int .i64 d.z, (.slice bn ns.length cn), (.slice bl ls.length cl)] 42)).alloc (.cells #[.int .i64 f, .int .i64 t] 24)) := ⟨_, rfl⟩
  have F := Lib.hid (show AFr w W0 d bn bl cn cl ns ls f t by rw [hW0]; exact AFr.new w d bn bl cn cl ns ls f t hn hl)
  have HW := Lib.hid hW0
  have A1 := Lib.hid (fun W => law09_alive W)
  have G := Lib.hid hG
  have Ssm := Lib.hid hs
  have B1 := Lib.hid (fun (W : World) v (h : YS W v ⟨d, ns, ls⟩) => y_Owned h ow a)
  have B2 := Lib.hid (fun (W : World) v (h : YS W v ⟨d, ns, ls⟩) => y_Owned h ot a)
  generalize (ownV ⟨d, ns, ls⟩ ow a).1 = x1 at *
  generalize (ownV ⟨d, ns, ls⟩ ow a).2 = x2 at *
  generalize (ownV ⟨d, ns, ls⟩ ot a).1 = z1 at *
  generalize (ownV ⟨d, ns, ls⟩ ot a).2 = z2 at *
  generalize ownE ⟨d, ns, ls⟩ a = x3 at *
  have e1 : (x3 == 0) = false := by simpa using he
  have e2 : (x3 != 0) = true := by simpa using he
  clear hW0 hn hl hG hs he
  (go_enter Try.func13, Try.ntmps13; go_upto_region 1 with fail; rw [← HW.out]; go_wp2_with fail; refine (A1.out _).mono ?_; rintro e w1 ⟨rfl, hb⟩; have F := Lib.hid (F.out.keep hb); clear hb; (have y0 := F.out.y.cell 0 _ rfl; have y1 := F.out.y.cell 1 _ rfl; have y2 := F.out.y.cell 2 _ rfl; have y3 := F.out.y.cell 3 _ rfl; have y4 := F.out.y.cell 4 _ rfl); go_wp2_with fail; refine (G.out _ F.out.hn F.out.hl).mono ?_; rintro e w2 ⟨rfl, hb⟩; have F := Lib.hid (F.out.keep hb); clear hb; clear y0 y1 y2 y3 y4)
  ((have y0 := F.out.y.cell 0 _ rfl; have y1 := F.out.y.cell 1 _ rfl; have y2 := F.out.y.cell 2 _ rfl; have y3 := F.out.y.cell 3 _ rfl; have y4 := F.out.y.cell 4 _ rfl); go_wp2_with fail; refine (B1.out _ _ (F.out.ys Ssm.out)).mono ?_; rintro e w3 ⟨a1, a2, rfl, X1, X2, hb⟩; have F := Lib.hid (F.out.keep hb); have X1 := Lib.hid X1; have X2 := Lib.hid X2; clear hb; clear y0 y1 y2 y3 y4; (have y0 := F.out.y.cell 0 _ rfl; have y1 := F.out.y.cell 1 _ rfl; have y2 := F.out.y.cell 2 _ rfl; have y3 := F.out.y.cell 3 _ rfl; have y4 := F.out.y.cell 4 _ rfl); go_wp2_with fail; refine (B2.out _ _ (F.out.ys Ssm.out)).mono ?_; rintro e w4 ⟨c1, c2, rfl, Z1, Z2, hb⟩; have F := Lib.hid (F.out.keep hb); have X1 := Lib.hid (X1.out.keep hb); have X2 := Lib.hid (X2.out.keep hb); have Z1 := Lib.hid Z1; have Z2 := Lib.hid Z2; clear hb; clear y0 y1 y2 y3 y4; (have y0 := F.out.y.cell 0 _ rfl; have y1 := F.out.y.cell 1 _ rfl; have y2 := F.out.y.cell 2 _ rfl; have y3 := F.out.y.cell 3 _ rfl; have y4 := F.out.y.cell 4 _ rfl); (have s0 := F.out.s.cell 0 _ rfl; have s1 := F.out.s.cell 1 _ rfl))
  go_wp2_with fail
  go_returns
  exact ⟨by first | rfl | simp, F.out.b⟩
set_option maxRecDepth 100000 in set_option maxHeartbeats 4000000 in
theorem apart_ok (d : V3) (bn bl : Option Addr) (cn cl : Nat) (ns ls : List (List Sl)) (ow ot a f t : Int) (w : World) (hn : CR w bn ns) (hl : CR w bl ls) (hs : (ns.length ≤ 1000 ∧ ∀ c ∈ ns, c.length ≤ 10000) ∧ (ls.length ≤ 1000 ∧ ∀ c ∈ ls, c.length ≤ 10000))
    (hG : ∀ W, CR W bn ns → CR W bl ls → Calls Try.prog 26 #[.agg #[.int .i64 d.x, .int .i64 d.y, .int .i64 d.z, (.slice bn ns.length cn), (.slice bl ls.length cl)]] W (RB W (.bool false))) (he : ownE ⟨d, ns, ls⟩ a = 0) :
    Calls Try.prog 13 #[.agg #[.int .i64 d.x, .int .i64 d.y, .int .i64 d.z, (.slice bn ns.length cn), (.slice bl ls.length cl)], .int .i64 ow, .int .i64 ot, .int .i64 a, .agg #[.int .i64 f, .int .i64 t]] w (RB w (.bool true)) := by
  obtain ⟨W0, hW0⟩ : ∃ W0, W0 = ((w.alloc (.cells #[.int .i64 d.x, .int .i64 d.y, .int .i64 d.z, (.slice bn ns.length cn), (.slice bl ls.length cl)] 42)).alloc (.cells #[.int .i64 f, .int .i64 t] 24)) := ⟨_, rfl⟩
  have F := Lib.hid (show AFr w W0 d bn bl cn cl ns ls f t by rw [hW0]; exact AFr.new w d bn bl cn cl ns ls f t hn hl)
  have HW := Lib.hid hW0
  have A1 := Lib.hid (fun W => law09_alive W)
  have G := Lib.hid hG
  have Ssm := Lib.hid hs
  obtain ⟨hok, a0, a1⟩ := ownE_0 he
  have hM := Yd.ok_many hok
  have hA := Yd.ok_all hok
  have hL := Yd.ok_len hok
  have hn9 := hs.1.1
  have e1 : ∀ ow, ownV ⟨d, ns, ls⟩ ow a = (whS (ownB ow a) ns, whS (ownB ow a) ls) := fun ow => if_pos he
  have B1 := Lib.hid (fun (W : World) v (h : YS W v ⟨d, ns, ls⟩) => by have := y_Owned h ow a; rw [e1, he] at this; exact this)
  have B2 := Lib.hid (fun (W : World) v (h : YS W v ⟨d, ns, ls⟩) => by have := y_Owned h ot a; rw [e1, he] at this; exact this)
  have B3 := Lib.hid (fun (W : World) v (h : YS W v ⟨d, ns, ls⟩) => y_Busy h f t)
  have I1 := Lib.hid (fun (W : World) x y (h1 : SS W x (whS (ownB ow a) ns)) (h2 : SS W y (whS (ownB ot a) ns)) => ss_Meet h1 h2 (whS_chk2 _ _ hM.1))
  have I2 := Lib.hid (fun (W : World) x y (h1 : SS W x (whS (ownB ow a) ls)) (h2 : SS W y (whS (ownB ot a) ls)) => by have := ss_Meet h1 h2 (whS_chk2 _ _ hM.2); rw [hL] at this; exact this)
  have Q1 : ow ≠ ot → anyNZ (joinIf andW ns.length (whS (ownB ow a) ns) (whS (ownB ot a) ns)) = false := fun h => whS_apart hM.1 (fun c hc => own_apart (hA.1 c hc) a0 a1 h)
  have Q2 : ow ≠ ot → anyNZ (joinIf andW (3 * (ns.length : Int)) (whS (ownB ow a) ls) (whS (ownB ot a) ls)) = false := fun h => by rw [← hL]; exact whS_apart hM.2 (fun c hc => own_apart (hA.2 c hc) a0 a1 h)
  by_cases hb0 : busyE ⟨d, ns, ls⟩ f t = 0
  · have eb : busyV ⟨d, ns, ls⟩ f t = (whS (fun c => !clearB c f t) ns, whS (fun c => !clearB c f t) ls) := if_pos hb0
    rw [eb, hb0] at B3
    have J1 := Lib.hid (fun (W : World) x y (h1 : SS W x (whS (ownB ow a) ns)) (h2 : SS W y (whS (fun c => !clearB c f t) ns)) => ss_In h1 h2 (whS_chk2 _ _ hM.1))
    have J2 := Lib.hid (fun (W : World) x y (h1 : SS W x (whS (ownB ow a) ls)) (h2 : SS W y (whS (fun c => !clearB c f t) ls)) => by have := ss_In h1 h2 (whS_chk2 _ _ hM.2); rw [hL] at this; exact this)
    have R1 : f ≤ a → a < t → (!anyNZ (joinIf lessW ns.length (whS (ownB ow a) ns) (whS (fun c => !clearB c f t) ns))) = true := fun h1 h2 => by rw [whS_in hM.1 (fun c hc => own_busy (hA.1 c hc) h1 h2)]; rfl
    have R2 : f ≤ a → a < t → (!anyNZ (joinIf lessW (3 * (ns.length : Int)) (whS (ownB ow a) ls) (whS (fun c => !clearB c f t) ls))) = true := fun h1 h2 => by rw [← hL, whS_in hM.2 (fun c hc => own_busy (hA.2 c hc) h1 h2)]; rfl
    generalize (!anyNZ (joinIf lessW ns.length (whS (ownB ow a) ns) (whS (fun c => !clearB c f t) ns))) = r1 at *
    generalize (!anyNZ (joinIf lessW (3 * (ns.length : Int)) (whS (ownB ow a) ls) (whS (fun c => !clearB c f t) ls))) = r2 at *
    generalize anyNZ (joinIf andW ns.length (whS (ownB ow a) ns) (whS (ownB ot a) ns)) = q1 at *
    generalize anyNZ (joinIf andW (3 * (ns.length : Int)) (whS (ownB ow a) ls) (whS (ownB ot a) ls)) = q2 at *
    generalize whS (ownB ow a) ns = x1 at *
    generalize whS (ownB ow a) ls = x2 at *
    generalize whS (ownB ot a) ns = z1 at *
    generalize whS (ownB ot a) ls = z2 at *
    generalize whS (fun c => !clearB c f t) ns = v1 at *
    generalize whS (fun c => !clearB c f t) ls = v2 at *
    clear hW0 hn hl hG hs he hok hM hA hL e1 eb hb0 a0 a1
    have hq : ow = ot ∨ (ow ≠ ot ∧ q1 = false ∧ q2 = false) := by
      by_cases h : ow = ot
      · exact .inl h
      · exact .inr ⟨h, Q1 h, Q2 h⟩
    clear Q1 Q2
    have hr : a < f ∨ (f ≤ a ∧ t ≤ a) ∨ (f ≤ a ∧ a < t ∧ r1 = true ∧ r2 = true) := by
      by_cases h1 : f ≤ a
      · by_cases h2 : a < t
        · exact .inr (.inr ⟨h1, h2, R1 h1 h2, R2 h1 h2⟩)
        · exact .inr (.inl ⟨h1, by omega⟩)
      · exact .inl (by omega)
    clear R1 R2
    rcases hq with rfl | ⟨hne, rfl, rfl⟩
    · rcases hr with h1 | ⟨h1, h2⟩ | ⟨h1, h2, rfl, rfl⟩
      · (go_enter Try.func13, Try.ntmps13; go_upto_region 1 with fail; rw [← HW.out]; go_wp2_with fail; refine (A1.out _).mono ?_; rintro e w1 ⟨rfl, hb⟩; have F := Lib.hid (F.out.keep hb); clear hb; (have y0 := F.out.y.cell 0 _ rfl; have y1 := F.out.y.cell 1 _ rfl; have y2 := F.out.y.cell 2 _ rfl; have y3 := F.out.y.cell 3 _ rfl; have y4 := F.out.y.cell 4 _ rfl); go_wp2_with fail; refine (G.out _ F.out.hn F.out.hl).mono ?_; rintro e w2 ⟨rfl, hb⟩; have F := Lib.hid (F.out.keep hb); clear hb; clear y0 y1 y2 y3 y4)
        ((have y0 := F.out.y.cell 0 _ rfl; have y1 := F.out.y.cell 1 _ rfl; have y2 := F.out.y.cell 2 _ rfl; have y3 := F.out.y.cell 3 _ rfl; have y4 := F.out.y.cell 4 _ rfl); go_wp2_with fail; refine (B1.out _ _ (F.out.ys Ssm.out)).mono ?_; rintro e w3 ⟨a1, a2, rfl, X1, X2, hb⟩; have F := Lib.hid (F.out.keep hb); have X1 := Lib.hid X1; have X2 := Lib.hid X2; clear hb; clear y0 y1 y2 y3 y4; (have y0 := F.out.y.cell 0 _ rfl; have y1 := F.out.y.cell 1 _ rfl; have y2 := F.out.y.cell 2 _ rfl; have y3 := F.out.y.cell 3 _ rfl; have y4 := F.out.y.cell 4 _ rfl); go_wp2_with fail; refine (B2.out _ _ (F.out.ys Ssm.out)).mono ?_; rintro e w4 ⟨c1, c2, rfl, Z1, Z2, hb⟩; have F := Lib.hid (F.out.keep hb); have X1 := Lib.hid (X1.out.keep hb); have X2 := Lib.hid (X2.out.keep hb); have Z1 := Lib.hid Z1; have Z2 := Lib.hid Z2; clear hb; clear y0 y1 y2 y3 y4; (have y0 := F.out.y.cell 0 _ rfl; have y1 := F.out.y.cell 1 _ rfl; have y2 := F.out.y.cell 2 _ rfl; have y3 := F.out.y.cell 3 _ rfl; have y4 := F.out.y.cell 4 _ rfl); (have s0 := F.out.s.cell 0 _ rfl; have s1 := F.out.s.cell 1 _ rfl))
        (go_wp2_with fail; refine (I1.out _ _ _ X1.out Z1.out).mono ?_; rintro e w6 ⟨rfl, hb⟩; have F := Lib.hid (F.out.keep hb); have X1 := Lib.hid (X1.out.keep hb); have X2 := Lib.hid (X2.out.keep hb); have Z2 := Lib.hid (Z2.out.keep hb); clear hb; clear y0 y1 y2 y3 y4; clear s0 s1; go_wp2_with fail; refine (I2.out _ _ _ X2.out Z2.out).mono ?_; rintro e w7 ⟨rfl, hb⟩; have F := Lib.hid (F.out.keep hb); have X1 := Lib.hid (X1.out.keep hb); have X2 := Lib.hid (X2.out.keep hb); clear hb; (have y0 := F.out.y.cell 0 _ rfl; have y1 := F.out.y.cell 1 _ rfl; have y2 := F.out.y.cell 2 _ rfl; have y3 := F.out.y.cell 3 _ rfl; have y4 := F.out.y.cell 4 _ rfl); (have s0 := F.out.s.cell 0 _ rfl; have s1 := F.out.s.cell 1 _ rfl); go_wp2_with fail; refine (B3.out _ _ (F.out.ys Ssm.out)).mono ?_; rintro e w8 ⟨m1, l1, rfl, M1, M2, hb⟩; have F := Lib.hid (F.out.keep hb); have X1 := Lib.hid (X1.out.keep hb); have X2 := Lib.hid (X2.out.keep hb); have M1 := Lib.hid M1; have M2 := Lib.hid M2; clear hb; clear y0 y1 y2 y3 y4; clear s0 s1; (have s0 := F.out.s.cell 0 _ rfl; have s1 := F.out.s.cell 1 _ rfl); go_wp2_with fail)
        go_returns
        exact ⟨rfl, F.out.b⟩
      · (go_enter Try.func13, Try.ntmps13; go_upto_region 1 with fail; rw [← HW.out]; go_wp2_with fail; refine (A1.out _).mono ?_; rintro e w1 ⟨rfl, hb⟩; have F := Lib.hid (F.out.keep hb); clear hb; (have y0 := F.out.y.cell 0 _ rfl; have y1 := F.out.y.cell 1 _ rfl; have y2 := F.out.y.cell 2 _ rfl; have y3 := F.out.y.cell 3 _ rfl; have y4 := F.out.y.cell 4 _ rfl); go_wp2_with fail; refine (G.out _ F.out.hn F.out.hl).mono ?_; rintro e w2 ⟨rfl, hb⟩; have F := Lib.hid (F.out.keep hb); clear hb; clear y0 y1 y2 y3 y4)
        ((have y0 := F.out.y.cell 0 _ rfl; have y1 := F.out.y.cell 1 _ rfl; have y2 := F.out.y.cell 2 _ rfl; have y3 := F.out.y.cell 3 _ rfl; have y4 := F.out.y.cell 4 _ rfl); go_wp2_with fail; refine (B1.out _ _ (F.out.ys Ssm.out)).mono ?_; rintro e w3 ⟨a1, a2, rfl, X1, X2, hb⟩; have F := Lib.hid (F.out.keep hb); have X1 := Lib.hid X1; have X2 := Lib.hid X2; clear hb; clear y0 y1 y2 y3 y4; (have y0 := F.out.y.cell 0 _ rfl; have y1 := F.out.y.cell 1 _ rfl; have y2 := F.out.y.cell 2 _ rfl; have y3 := F.out.y.cell 3 _ rfl; have y4 := F.out.y.cell 4 _ rfl); go_wp2_with fail; refine (B2.out _ _ (F.out.ys Ssm.out)).mono ?_; rintro e w4 ⟨c1, c2, rfl, Z1, Z2, hb⟩; have F := Lib.hid (F.out.keep hb); have X1 := Lib.hid (X1.out.keep hb); have X2 := Lib.hid (X2.out.keep hb); have Z1 := Lib.hid Z1; have Z2 := Lib.hid Z2; clear hb; clear y0 y1 y2 y3 y4; (have y0 := F.out.y.cell 0 _ rfl; have y1 := F.out.y.cell 1 _ rfl; have y2 := F.out.y.cell 2 _ rfl; have y3 := F.out.y.cell 3 _ rfl; have y4 := F.out.y.cell 4 _ rfl); (have s0 := F.out.s.cell 0 _ rfl; have s1 := F.out.s.cell 1 _ rfl))
        (go_wp2_with fail; refine (I1.out _ _ _ X1.out Z1.out).mono ?_; rintro e w6 ⟨rfl, hb⟩; have F := Lib.hid (F.out.keep hb); have X1 := Lib.hid (X1.out.keep hb); have X2 := Lib.hid (X2.out.keep hb); have Z2 := Lib.hid (Z2.out.keep hb); clear hb; clear y0 y1 y2 y3 y4; clear s0 s1; go_wp2_with fail; refine (I2.out _ _ _ X2.out Z2.out).mono ?_; rintro e w7 ⟨rfl, hb⟩; have F := Lib.hid (F.out.keep hb); have X1 := Lib.hid (X1.out.keep hb); have X2 := Lib.hid (X2.out.keep hb); clear hb; (have y0 := F.out.y.cell 0 _ rfl; have y1 := F.out.y.cell 1 _ rfl; have y2 := F.out.y.cell 2 _ rfl; have y3 := F.out.y.cell 3 _ rfl; have y4 := F.out.y.cell 4 _ rfl); (have s0 := F.out.s.cell 0 _ rfl; have s1 := F.out.s.cell 1 _ rfl); go_wp2_with fail; refine (B3.out _ _ (F.out.ys Ssm.out)).mono ?_; rintro e w8 ⟨m1, l1, rfl, M1, M2, hb⟩; have F := Lib.hid (F.out.keep hb); have X1 := Lib.hid (X1.out.keep hb); have X2 := Lib.hid (X2.out.keep hb); have M1 := Lib.hid M1; have M2 := Lib.hid M2; clear hb; clear y0 y1 y2 y3 y4; clear s0 s1; (have s0 := F.out.s.cell 0 _ rfl; have s1 := F.out.s.cell 1 _ rfl); go_wp2_with fail)
        go_returns
        exact ⟨rfl, F.out.b⟩
      · (go_enter Try.func13, Try.ntmps13; go_upto_region 1 with fail; rw [← HW.out]; go_wp2_with fail; refine (A1.out _).mono ?_; rintro e w1 ⟨rfl, hb⟩; have F := Lib.hid (F.out.keep hb); clear hb; (have y0 := F.out.y.cell 0 _ rfl; have y1 := F.out.y.cell 1 _ rfl; have y2 := F.out.y.cell 2 _ rfl; have y3 := F.out.y.cell 3 _ rfl; have y4 := F.out.y.cell 4 _ rfl); go_wp2_with fail; refine (G.out _ F.out.hn F.out.hl).mono ?_; rintro e w2 ⟨rfl, hb⟩; have F := Lib.hid (F.out.keep hb); clear hb; clear y0 y1 y2 y3 y4)
        ((have y0 := F.out.y.cell 0 _ rfl; have y1 := F.out.y.cell 1 _ rfl; have y2 := F.out.y.cell 2 _ rfl; have y3 := F.out.y.cell 3 _ rfl; have y4 := F.out.y.cell 4 _ rfl); go_wp2_with fail; refine (B1.out _ _ (F.out.ys Ssm.out)).mono ?_; rintro e w3 ⟨a1, a2, rfl, X1, X2, hb⟩; have F := Lib.hid (F.out.keep hb); have X1 := Lib.hid X1; have X2 := Lib.hid X2; clear hb; clear y0 y1 y2 y3 y4; (have y0 := F.out.y.cell 0 _ rfl; have y1 := F.out.y.cell 1 _ rfl; have y2 := F.out.y.cell 2 _ rfl; have y3 := F.out.y.cell 3 _ rfl; have y4 := F.out.y.cell 4 _ rfl); go_wp2_with fail; refine (B2.out _ _ (F.out.ys Ssm.out)).mono ?_; rintro e w4 ⟨c1, c2, rfl, Z1, Z2, hb⟩; have F := Lib.hid (F.out.keep hb); have X1 := Lib.hid (X1.out.keep hb); have X2 := Lib.hid (X2.out.keep hb); have Z1 := Lib.hid Z1; have Z2 := Lib.hid Z2; clear hb; clear y0 y1 y2 y3 y4; (have y0 := F.out.y.cell 0 _ rfl; have y1 := F.out.y.cell 1 _ rfl; have y2 := F.out.y.cell 2 _ rfl; have y3 := F.out.y.cell 3 _ rfl; have y4 := F.out.y.cell 4 _ rfl); (have s0 := F.out.s.cell 0 _ rfl; have s1 := F.out.s.cell 1 _ rfl))
        (go_wp2_with fail; refine (I1.out _ _ _ X1.out Z1.out).mono ?_; rintro e w6 ⟨rfl, hb⟩; have F := Lib.hid (F.out.keep hb); have X1 := Lib.hid (X1.out.keep hb); have X2 := Lib.hid (X2.out.keep hb); have Z2 := Lib.hid (Z2.out.keep hb); clear hb; clear y0 y1 y2 y3 y4; clear s0 s1; go_wp2_with fail; refine (I2.out _ _ _ X2.out Z2.out).mono ?_; rintro e w7 ⟨rfl, hb⟩; have F := Lib.hid (F.out.keep hb); have X1 := Lib.hid (X1.out.keep hb); have X2 := Lib.hid (X2.out.keep hb); clear hb; (have y0 := F.out.y.cell 0 _ rfl; have y1 := F.out.y.cell 1 _ rfl; have y2 := F.out.y.cell 2 _ rfl; have y3 := F.out.y.cell 3 _ rfl; have y4 := F.out.y.cell 4 _ rfl); (have s0 := F.out.s.cell 0 _ rfl; have s1 := F.out.s.cell 1 _ rfl); go_wp2_with fail; refine (B3.out _ _ (F.out.ys Ssm.out)).mono ?_; rintro e w8 ⟨m1, l1, rfl, M1, M2, hb⟩; have F := Lib.hid (F.out.keep hb); have X1 := Lib.hid (X1.out.keep hb); have X2 := Lib.hid (X2.out.keep hb); have M1 := Lib.hid M1; have M2 := Lib.hid M2; clear hb; clear y0 y1 y2 y3 y4; clear s0 s1; (have s0 := F.out.s.cell 0 _ rfl; have s1 := F.out.s.cell 1 _ rfl); go_wp2_with fail)
        (refine (J1.out _ _ _ X1.out M1.out).mono ?_; rintro e w9 ⟨rfl, hb⟩; have F := Lib.hid (F.out.keep hb); have X2 := Lib.hid (X2.out.keep hb); have M2 := Lib.hid (M2.out.keep hb); clear hb; go_wp2_with fail; refine (J2.out _ _ _ X2.out M2.out).mono ?_; rintro e w10 ⟨rfl, hb⟩; have F := Lib.hid (F.out.keep hb); clear hb; go_wp2_with fail; go_returns; exact ⟨rfl, F.out.b⟩)
    · have n1 : (ow == ot) = false := by simpa using hne
      have n2 : (ow != ot) = true := by simpa using hne
      clear hne
      rcases hr with h1 | ⟨h1, h2⟩ | ⟨h1, h2, rfl, rfl⟩
      · (go_enter Try.func13, Try.ntmps13; go_upto_region 1 with fail; rw [← HW.out]; go_wp2_with fail; refine (A1.out _).mono ?_; rintro e w1 ⟨rfl, hb⟩; have F := Lib.hid (F.out.keep hb); clear hb; (have y0 := F.out.y.cell 0 _ rfl; have y1 := F.out.y.cell 1 _ rfl; have y2 := F.out.y.cell 2 _ rfl; have y3 := F.out.y.cell 3 _ rfl; have y4 := F.out.y.cell 4 _ rfl); go_wp2_with fail; refine (G.out _ F.out.hn F.out.hl).mono ?_; rintro e w2 ⟨rfl, hb⟩; have F := Lib.hid (F.out.keep hb); clear hb; clear y0 y1 y2 y3 y4)
        ((have y0 := F.out.y.cell 0 _ rfl; have y1 := F.out.y.cell 1 _ rfl; have y2 := F.out.y.cell 2 _ rfl; have y3 := F.out.y.cell 3 _ rfl; have y4 := F.out.y.cell 4 _ rfl); go_wp2_with fail; refine (B1.out _ _ (F.out.ys Ssm.out)).mono ?_; rintro e w3 ⟨a1, a2, rfl, X1, X2, hb⟩; have F := Lib.hid (F.out.keep hb); have X1 := Lib.hid X1; have X2 := Lib.hid X2; clear hb; clear y0 y1 y2 y3 y4; (have y0 := F.out.y.cell 0 _ rfl; have y1 := F.out.y.cell 1 _ rfl; have y2 := F.out.y.cell 2 _ rfl; have y3 := F.out.y.cell 3 _ rfl; have y4 := F.out.y.cell 4 _ rfl); go_wp2_with fail; refine (B2.out _ _ (F.out.ys Ssm.out)).mono ?_; rintro e w4 ⟨c1, c2, rfl, Z1, Z2, hb⟩; have F := Lib.hid (F.out.keep hb); have X1 := Lib.hid (X1.out.keep hb); have X2 := Lib.hid (X2.out.keep hb); have Z1 := Lib.hid Z1; have Z2 := Lib.hid Z2; clear hb; clear y0 y1 y2 y3 y4; (have y0 := F.out.y.cell 0 _ rfl; have y1 := F.out.y.cell 1 _ rfl; have y2 := F.out.y.cell 2 _ rfl; have y3 := F.out.y.cell 3 _ rfl; have y4 := F.out.y.cell 4 _ rfl); (have s0 := F.out.s.cell 0 _ rfl; have s1 := F.out.s.cell 1 _ rfl))
        (go_wp2_with fail; refine (I1.out _ _ _ X1.out Z1.out).mono ?_; rintro e w6 ⟨rfl, hb⟩; have F := Lib.hid (F.out.keep hb); have X1 := Lib.hid (X1.out.keep hb); have X2 := Lib.hid (X2.out.keep hb); have Z2 := Lib.hid (Z2.out.keep hb); clear hb; clear y0 y1 y2 y3 y4; clear s0 s1; go_wp2_with fail; refine (I2.out _ _ _ X2.out Z2.out).mono ?_; rintro e w7 ⟨rfl, hb⟩; have F := Lib.hid (F.out.keep hb); have X1 := Lib.hid (X1.out.keep hb); have X2 := Lib.hid (X2.out.keep hb); clear hb; (have y0 := F.out.y.cell 0 _ rfl; have y1 := F.out.y.cell 1 _ rfl; have y2 := F.out.y.cell 2 _ rfl; have y3 := F.out.y.cell 3 _ rfl; have y4 := F.out.y.cell 4 _ rfl); (have s0 := F.out.s.cell 0 _ rfl; have s1 := F.out.s.cell 1 _ rfl); go_wp2_with fail; refine (B3.out _ _ (F.out.ys Ssm.out)).mono ?_; rintro e w8 ⟨m1, l1, rfl, M1, M2, hb⟩; have F := Lib.hid (F.out.keep hb); have X1 := Lib.hid (X1.out.keep hb); have X2 := Lib.hid (X2.out.keep hb); have M1 := Lib.hid M1; have M2 := Lib.hid M2; clear hb; clear y0 y1 y2 y3 y4; clear s0 s1; (have s0 := F.out.s.cell 0 _ rfl; have s1 := F.out.s.cell 1 _ rfl); go_wp2_with fail)
        go_returns
        exact ⟨rfl, F.out.b⟩
      · (go_enter Try.func13, Try.ntmps13; go_upto_region 1 with fail; rw [← HW.out]; go_wp2_with fail; refine (A1.out _).mono ?_; rintro e w1 ⟨rfl, hb⟩; have F := Lib.hid (F.out.keep hb); clear hb; (have y0 := F.out.y.cell 0 _ rfl; have y1 := F.out.y.cell 1 _ rfl; have y2 := F.out.y.cell 2 _ rfl; have y3 := F.out.y.cell 3 _ rfl; have y4 := F.out.y.cell 4 _ rfl); go_wp2_with fail; refine (G.out _ F.out.hn F.out.hl).mono ?_; rintro e w2 ⟨rfl, hb⟩; have F := Lib.hid (F.out.keep hb); clear hb; clear y0 y1 y2 y3 y4)
        ((have y0 := F.out.y.cell 0 _ rfl; have y1 := F.out.y.cell 1 _ rfl; have y2 := F.out.y.cell 2 _ rfl; have y3 := F.out.y.cell 3 _ rfl; have y4 := F.out.y.cell 4 _ rfl); go_wp2_with fail; refine (B1.out _ _ (F.out.ys Ssm.out)).mono ?_; rintro e w3 ⟨a1, a2, rfl, X1, X2, hb⟩; have F := Lib.hid (F.out.keep hb); have X1 := Lib.hid X1; have X2 := Lib.hid X2; clear hb; clear y0 y1 y2 y3 y4; (have y0 := F.out.y.cell 0 _ rfl; have y1 := F.out.y.cell 1 _ rfl; have y2 := F.out.y.cell 2 _ rfl; have y3 := F.out.y.cell 3 _ rfl; have y4 := F.out.y.cell 4 _ rfl); go_wp2_with fail; refine (B2.out _ _ (F.out.ys Ssm.out)).mono ?_; rintro e w4 ⟨c1, c2, rfl, Z1, Z2, hb⟩; have F := Lib.hid (F.out.keep hb); have X1 := Lib.hid (X1.out.keep hb); have X2 := Lib.hid (X2.out.keep hb); have Z1 := Lib.hid Z1; have Z2 := Lib.hid Z2; clear hb; clear y0 y1 y2 y3 y4; (have y0 := F.out.y.cell 0 _ rfl; have y1 := F.out.y.cell 1 _ rfl; have y2 := F.out.y.cell 2 _ rfl; have y3 := F.out.y.cell 3 _ rfl; have y4 := F.out.y.cell 4 _ rfl); (have s0 := F.out.s.cell 0 _ rfl; have s1 := F.out.s.cell 1 _ rfl))
        (go_wp2_with fail; refine (I1.out _ _ _ X1.out Z1.out).mono ?_; rintro e w6 ⟨rfl, hb⟩; have F := Lib.hid (F.out.keep hb); have X1 := Lib.hid (X1.out.keep hb); have X2 := Lib.hid (X2.out.keep hb); have Z2 := Lib.hid (Z2.out.keep hb); clear hb; clear y0 y1 y2 y3 y4; clear s0 s1; go_wp2_with fail; refine (I2.out _ _ _ X2.out Z2.out).mono ?_; rintro e w7 ⟨rfl, hb⟩; have F := Lib.hid (F.out.keep hb); have X1 := Lib.hid (X1.out.keep hb); have X2 := Lib.hid (X2.out.keep hb); clear hb; (have y0 := F.out.y.cell 0 _ rfl; have y1 := F.out.y.cell 1 _ rfl; have y2 := F.out.y.cell 2 _ rfl; have y3 := F.out.y.cell 3 _ rfl; have y4 := F.out.y.cell 4 _ rfl); (have s0 := F.out.s.cell 0 _ rfl; have s1 := F.out.s.cell 1 _ rfl); go_wp2_with fail; refine (B3.out _ _ (F.out.ys Ssm.out)).mono ?_; rintro e w8 ⟨m1, l1, rfl, M1, M2, hb⟩; have F := Lib.hid (F.out.keep hb); have X1 := Lib.hid (X1.out.keep hb); have X2 := Lib.hid (X2.out.keep hb); have M1 := Lib.hid M1; have M2 := Lib.hid M2; clear hb; clear y0 y1 y2 y3 y4; clear s0 s1; (have s0 := F.out.s.cell 0 _ rfl; have s1 := F.out.s.cell 1 _ rfl); go_wp2_with fail)
        go_returns
        exact ⟨rfl, F.out.b⟩
      · (go_enter Try.func13, Try.ntmps13; go_upto_region 1 with fail; rw [← HW.out]; go_wp2_with fail; refine (A1.out _).mono ?_; rintro e w1 ⟨rfl, hb⟩; have F := Lib.hid (F.out.keep hb); clear hb; (have y0 := F.out.y.cell 0 _ rfl; have y1 := F.out.y.cell 1 _ rfl; have y2 := F.out.y.cell 2 _ rfl; have y3 := F.out.y.cell 3 _ rfl; have y4 := F.out.y.cell 4 _ rfl); go_wp2_with fail; refine (G.out _ F.out.hn F.out.hl).mono ?_; rintro e w2 ⟨rfl, hb⟩; have F := Lib.hid (F.out.keep hb); clear hb; clear y0 y1 y2 y3 y4)
        ((have y0 := F.out.y.cell 0 _ rfl; have y1 := F.out.y.cell 1 _ rfl; have y2 := F.out.y.cell 2 _ rfl; have y3 := F.out.y.cell 3 _ rfl; have y4 := F.out.y.cell 4 _ rfl); go_wp2_with fail; refine (B1.out _ _ (F.out.ys Ssm.out)).mono ?_; rintro e w3 ⟨a1, a2, rfl, X1, X2, hb⟩; have F := Lib.hid (F.out.keep hb); have X1 := Lib.hid X1; have X2 := Lib.hid X2; clear hb; clear y0 y1 y2 y3 y4; (have y0 := F.out.y.cell 0 _ rfl; have y1 := F.out.y.cell 1 _ rfl; have y2 := F.out.y.cell 2 _ rfl; have y3 := F.out.y.cell 3 _ rfl; have y4 := F.out.y.cell 4 _ rfl); go_wp2_with fail; refine (B2.out _ _ (F.out.ys Ssm.out)).mono ?_; rintro e w4 ⟨c1, c2, rfl, Z1, Z2, hb⟩; have F := Lib.hid (F.out.keep hb); have X1 := Lib.hid (X1.out.keep hb); have X2 := Lib.hid (X2.out.keep hb); have Z1 := Lib.hid Z1; have Z2 := Lib.hid Z2; clear hb; clear y0 y1 y2 y3 y4; (have y0 := F.out.y.cell 0 _ rfl; have y1 := F.out.y.cell 1 _ rfl; have y2 := F.out.y.cell 2 _ rfl; have y3 := F.out.y.cell 3 _ rfl; have y4 := F.out.y.cell 4 _ rfl); (have s0 := F.out.s.cell 0 _ rfl; have s1 := F.out.s.cell 1 _ rfl))
        (go_wp2_with fail; refine (I1.out _ _ _ X1.out Z1.out).mono ?_; rintro e w6 ⟨rfl, hb⟩; have F := Lib.hid (F.out.keep hb); have X1 := Lib.hid (X1.out.keep hb); have X2 := Lib.hid (X2.out.keep hb); have Z2 := Lib.hid (Z2.out.keep hb); clear hb; clear y0 y1 y2 y3 y4; clear s0 s1; go_wp2_with fail; refine (I2.out _ _ _ X2.out Z2.out).mono ?_; rintro e w7 ⟨rfl, hb⟩; have F := Lib.hid (F.out.keep hb); have X1 := Lib.hid (X1.out.keep hb); have X2 := Lib.hid (X2.out.keep hb); clear hb; (have y0 := F.out.y.cell 0 _ rfl; have y1 := F.out.y.cell 1 _ rfl; have y2 := F.out.y.cell 2 _ rfl; have y3 := F.out.y.cell 3 _ rfl; have y4 := F.out.y.cell 4 _ rfl); (have s0 := F.out.s.cell 0 _ rfl; have s1 := F.out.s.cell 1 _ rfl); go_wp2_with fail; refine (B3.out _ _ (F.out.ys Ssm.out)).mono ?_; rintro e w8 ⟨m1, l1, rfl, M1, M2, hb⟩; have F := Lib.hid (F.out.keep hb); have X1 := Lib.hid (X1.out.keep hb); have X2 := Lib.hid (X2.out.keep hb); have M1 := Lib.hid M1; have M2 := Lib.hid M2; clear hb; clear y0 y1 y2 y3 y4; clear s0 s1; (have s0 := F.out.s.cell 0 _ rfl; have s1 := F.out.s.cell 1 _ rfl); go_wp2_with fail)
        (refine (J1.out _ _ _ X1.out M1.out).mono ?_; rintro e w9 ⟨rfl, hb⟩; have F := Lib.hid (F.out.keep hb); have X2 := Lib.hid (X2.out.keep hb); have M2 := Lib.hid (M2.out.keep hb); clear hb; go_wp2_with fail; refine (J2.out _ _ _ X2.out M2.out).mono ?_; rintro e w10 ⟨rfl, hb⟩; have F := Lib.hid (F.out.keep hb); clear hb; go_wp2_with fail; go_returns; exact ⟨rfl, F.out.b⟩)
  · generalize anyNZ (joinIf andW ns.length (whS (ownB ow a) ns) (whS (ownB ot a) ns)) = q1 at *
    generalize anyNZ (joinIf andW (3 * (ns.length : Int)) (whS (ownB ow a) ls) (whS (ownB ot a) ls)) = q2 at *
    generalize whS (ownB ow a) ns = x1 at *
    generalize whS (ownB ow a) ls = x2 at *
    generalize whS (ownB ot a) ns = z1 at *
    generalize whS (ownB ot a) ls = z2 at *
    generalize (busyV ⟨d, ns, ls⟩ f t).1 = v1 at *
    generalize (busyV ⟨d, ns, ls⟩ f t).2 = v2 at *
    generalize busyE ⟨d, ns, ls⟩ f t = v3 at *
    have k1 : (v3 == 0) = false := by simpa using hb0
    have k2 : (v3 != 0) = true := by simpa using hb0
    clear hW0 hn hl hG hs he hok hM hA hL e1 hb0 a0 a1
    have hq : ow = ot ∨ (ow ≠ ot ∧ q1 = false ∧ q2 = false) := by
      by_cases h : ow = ot
      · exact .inl h
      · exact .inr ⟨h, Q1 h, Q2 h⟩
    clear Q1 Q2
    rcases hq with rfl | ⟨hne, rfl, rfl⟩
    · (go_enter Try.func13, Try.ntmps13; go_upto_region 1 with fail; rw [← HW.out]; go_wp2_with fail; refine (A1.out _).mono ?_; rintro e w1 ⟨rfl, hb⟩; have F := Lib.hid (F.out.keep hb); clear hb; (have y0 := F.out.y.cell 0 _ rfl; have y1 := F.out.y.cell 1 _ rfl; have y2 := F.out.y.cell 2 _ rfl; have y3 := F.out.y.cell 3 _ rfl; have y4 := F.out.y.cell 4 _ rfl); go_wp2_with fail; refine (G.out _ F.out.hn F.out.hl).mono ?_; rintro e w2 ⟨rfl, hb⟩; have F := Lib.hid (F.out.keep hb); clear hb; clear y0 y1 y2 y3 y4)
      ((have y0 := F.out.y.cell 0 _ rfl; have y1 := F.out.y.cell 1 _ rfl; have y2 := F.out.y.cell 2 _ rfl; have y3 := F.out.y.cell 3 _ rfl; have y4 := F.out.y.cell 4 _ rfl); go_wp2_with fail; refine (B1.out _ _ (F.out.ys Ssm.out)).mono ?_; rintro e w3 ⟨a1, a2, rfl, X1, X2, hb⟩; have F := Lib.hid (F.out.keep hb); have X1 := Lib.hid X1; have X2 := Lib.hid X2; clear hb; clear y0 y1 y2 y3 y4; (have y0 := F.out.y.cell 0 _ rfl; have y1 := F.out.y.cell 1 _ rfl; have y2 := F.out.y.cell 2 _ rfl; have y3 := F.out.y.cell 3 _ rfl; have y4 := F.out.y.cell 4 _ rfl); go_wp2_with fail; refine (B2.out _ _ (F.out.ys Ssm.out)).mono ?_; rintro e w4 ⟨c1, c2, rfl, Z1, Z2, hb⟩; have F := Lib.hid (F.out.keep hb); have X1 := Lib.hid (X1.out.keep hb); have X2 := Lib.hid (X2.out.keep hb); have Z1 := Lib.hid Z1; have Z2 := Lib.hid Z2; clear hb; clear y0 y1 y2 y3 y4; (have y0 := F.out.y.cell 0 _ rfl; have y1 := F.out.y.cell 1 _ rfl; have y2 := F.out.y.cell 2 _ rfl; have y3 := F.out.y.cell 3 _ rfl; have y4 := F.out.y.cell 4 _ rfl); (have s0 := F.out.s.cell 0 _ rfl; have s1 := F.out.s.cell 1 _ rfl))
      (go_wp2_with fail; refine (I1.out _ _ _ X1.out Z1.out).mono ?_; rintro e w6 ⟨rfl, hb⟩; have F := Lib.hid (F.out.keep hb); have X1 := Lib.hid (X1.out.keep hb); have X2 := Lib.hid (X2.out.keep hb); have Z2 := Lib.hid (Z2.out.keep hb); clear hb; clear y0 y1 y2 y3 y4; clear s0 s1; go_wp2_with fail; refine (I2.out _ _ _ X2.out Z2.out).mono ?_; rintro e w7 ⟨rfl, hb⟩; have F := Lib.hid (F.out.keep hb); have X1 := Lib.hid (X1.out.keep hb); have X2 := Lib.hid (X2.out.keep hb); clear hb; (have y0 := F.out.y.cell 0 _ rfl; have y1 := F.out.y.cell 1 _ rfl; have y2 := F.out.y.cell 2 _ rfl; have y3 := F.out.y.cell 3 _ rfl; have y4 := F.out.y.cell 4 _ rfl); (have s0 := F.out.s.cell 0 _ rfl; have s1 := F.out.s.cell 1 _ rfl); go_wp2_with fail; refine (B3.out _ _ (F.out.ys Ssm.out)).mono ?_; rintro e w8 ⟨m1, l1, rfl, M1, M2, hb⟩; have F := Lib.hid (F.out.keep hb); have X1 := Lib.hid (X1.out.keep hb); have X2 := Lib.hid (X2.out.keep hb); have M1 := Lib.hid M1; have M2 := Lib.hid M2; clear hb; clear y0 y1 y2 y3 y4; clear s0 s1; (have s0 := F.out.s.cell 0 _ rfl; have s1 := F.out.s.cell 1 _ rfl); go_wp2_with fail)
      go_returns
      exact ⟨rfl, F.out.b⟩
    · have n1 : (ow == ot) = false := by simpa using hne
      have n2 : (ow != ot) = true := by simpa using hne
      clear hne
      (go_enter Try.func13, Try.ntmps13; go_upto_region 1 with fail; rw [← HW.out]; go_wp2_with fail; refine (A1.out _).mono ?_; rintro e w1 ⟨rfl, hb⟩; have F := Lib.hid (F.out.keep hb); clear hb; (have y0 := F.out.y.cell 0 _ rfl; have y1 := F.out.y.cell 1 _ rfl; have y2 := F.out.y.cell 2 _ rfl; have y3 := F.out.y.cell 3 _ rfl; have y4 := F.out.y.cell 4 _ rfl); go_wp2_with fail; refine (G.out _ F.out.hn F.out.hl).mono ?_; rintro e w2 ⟨rfl, hb⟩; have F := Lib.hid (F.out.keep hb); clear hb; clear y0 y1 y2 y3 y4)
      ((have y0 := F.out.y.cell 0 _ rfl; have y1 := F.out.y.cell 1 _ rfl; have y2 := F.out.y.cell 2 _ rfl; have y3 := F.out.y.cell 3 _ rfl; have y4 := F.out.y.cell 4 _ rfl); go_wp2_with fail; refine (B1.out _ _ (F.out.ys Ssm.out)).mono ?_; rintro e w3 ⟨a1, a2, rfl, X1, X2, hb⟩; have F := Lib.hid (F.out.keep hb); have X1 := Lib.hid X1; have X2 := Lib.hid X2; clear hb; clear y0 y1 y2 y3 y4; (have y0 := F.out.y.cell 0 _ rfl; have y1 := F.out.y.cell 1 _ rfl; have y2 := F.out.y.cell 2 _ rfl; have y3 := F.out.y.cell 3 _ rfl; have y4 := F.out.y.cell 4 _ rfl); go_wp2_with fail; refine (B2.out _ _ (F.out.ys Ssm.out)).mono ?_; rintro e w4 ⟨c1, c2, rfl, Z1, Z2, hb⟩; have F := Lib.hid (F.out.keep hb); have X1 := Lib.hid (X1.out.keep hb); have X2 := Lib.hid (X2.out.keep hb); have Z1 := Lib.hid Z1; have Z2 := Lib.hid Z2; clear hb; clear y0 y1 y2 y3 y4; (have y0 := F.out.y.cell 0 _ rfl; have y1 := F.out.y.cell 1 _ rfl; have y2 := F.out.y.cell 2 _ rfl; have y3 := F.out.y.cell 3 _ rfl; have y4 := F.out.y.cell 4 _ rfl); (have s0 := F.out.s.cell 0 _ rfl; have s1 := F.out.s.cell 1 _ rfl))
      (go_wp2_with fail; refine (I1.out _ _ _ X1.out Z1.out).mono ?_; rintro e w6 ⟨rfl, hb⟩; have F := Lib.hid (F.out.keep hb); have X1 := Lib.hid (X1.out.keep hb); have X2 := Lib.hid (X2.out.keep hb); have Z2 := Lib.hid (Z2.out.keep hb); clear hb; clear y0 y1 y2 y3 y4; clear s0 s1; go_wp2_with fail; refine (I2.out _ _ _ X2.out Z2.out).mono ?_; rintro e w7 ⟨rfl, hb⟩; have F := Lib.hid (F.out.keep hb); have X1 := Lib.hid (X1.out.keep hb); have X2 := Lib.hid (X2.out.keep hb); clear hb; (have y0 := F.out.y.cell 0 _ rfl; have y1 := F.out.y.cell 1 _ rfl; have y2 := F.out.y.cell 2 _ rfl; have y3 := F.out.y.cell 3 _ rfl; have y4 := F.out.y.cell 4 _ rfl); (have s0 := F.out.s.cell 0 _ rfl; have s1 := F.out.s.cell 1 _ rfl); go_wp2_with fail; refine (B3.out _ _ (F.out.ys Ssm.out)).mono ?_; rintro e w8 ⟨m1, l1, rfl, M1, M2, hb⟩; have F := Lib.hid (F.out.keep hb); have X1 := Lib.hid (X1.out.keep hb); have X2 := Lib.hid (X2.out.keep hb); have M1 := Lib.hid M1; have M2 := Lib.hid M2; clear hb; clear y0 y1 y2 y3 y4; clear s0 s1; (have s0 := F.out.s.cell 0 _ rfl; have s1 := F.out.s.cell 1 _ rfl); go_wp2_with fail)
      go_returns
      exact ⟨rfl, F.out.b⟩
theorem law09_CalsApart (d : V3) (bn bl : Option Addr) (cn cl : Nat) (ns ls : List (List Sl)) (ow ot a f t : Int) (w : World) (hn : CR w bn ns) (hl : CR w bl ls)
    (hz : (ns.length * 24 ≤ reachBytes ∧ ∀ c ∈ ns, c.length * 24 ≤ reachBytes) ∧ (ls.length * 24 ≤ reachBytes ∧ ∀ c ∈ ls, c.length * 24 ≤ reachBytes)) :
    Calls Try.prog 13 #[.agg #[.int .i64 d.x, .int .i64 d.y, .int .i64 d.z, (.slice bn ns.length cn), (.slice bl ls.length cl)], .int .i64 ow, .int .i64 ot, .int .i64 a, .agg #[.int .i64 f, .int .i64 t]] w (RB w (.bool true)) := by
  have hG := fun W (h1 : CR W bn ns) (h2 : CR W bl ls) => great_reach d bn bl cn cl ns ls W h1 h2 hz
  cases hg : greatB ns ls with
  | true =>
    rw [hg] at hG
    exact apart_great d bn bl cn cl ns ls ow ot a f t w hn hl hG
  | false =>
    rw [hg] at hG
    have hs := great_small hg
    by_cases he : ownE ⟨d, ns, ls⟩ a = 0
    · exact apart_ok d bn bl cn cl ns ls ow ot a f t w hn hl hs hG he
    · exact apart_err d bn bl cn cl ns ls ow ot a f t w hn hl hs hG he

set_option maxRecDepth 100000 in set_option maxHeartbeats 4000000 in
theorem lift_calsApart (os : Os) (started : os.Started) (H : Type) (enc : TypeId × Value → H) :
    ReturnsInHanded {} Try.checked os 13 .any (Rows.calsApartSpec.pre6 enc Try.prog Try.f13 Rows.calsApartRow.domain false) (Rows.calsApartSpec.post enc Try.prog Try.f13 false true false false) := by
  refine returnsInHanded_of_change_sized (C := Try.checked) ownKnob0 started (by kernel_rfl) Try.func13
    (ChangeSpec.witness6 (enc := enc) (C := Try.checked) false ⟨#[], #[.agg #[.int .i64 (⟨0, 0, 0⟩ : V3).x, .int .i64 (⟨0, 0, 0⟩ : V3).y, .int .i64 (⟨0, 0, 0⟩ : V3).z, (.slice none 0 0), (.slice none 0 0)], .int .i64 0, .int .i64 0, .int .i64 0, .agg #[.int .i64 0, .int .i64 0]], []⟩ 8 (by kernel_rfl) (by kernel_rfl) (by kernel_rfl) (by kernel_rfl)) ?_
  intro W base args ds gs before hval0 hW hcnd hwt _
  have hval : ∀ (j : Nat) t v, Try.f13.params[j]? = some t → args[j]? = some v → Value.okWide Try.prog W .any base t v := hval0
  have hW' := hW
  obtain ⟨p, q, hA0, hV, rfl, hfz, hnd⟩ := hW
  have hA : DataW.TrodAll enc Try.prog W 0 (fun _ => true) true Try.f13.params.toList args.toList ds p := hA0
  rw [Try.params13] at hA hval hwt
  have hK := hA
  obtain ⟨v0, vs0, d0, ds0, p0, q0, hargs, rfl, rfl, h0, r0⟩ := trodAll_cons hA
  obtain ⟨v1, vs1, d1, ds1, p1, q1, rfl, rfl, rfl, h1, r1⟩ := trodAll_cons r0
  obtain ⟨v2, vs2, d2, ds2, p2, q2, rfl, rfl, rfl, h2, r2⟩ := trodAll_cons r1
  obtain ⟨v3, vs3, d3, ds3, p3, q3, rfl, rfl, rfl, h3, r3⟩ := trodAll_cons r2
  obtain ⟨v4, vs4, d4, ds4, p4, q4, rfl, rfl, rfl, h4, r4⟩ := trodAll_cons r3
  obtain ⟨rfl, rfl, rfl⟩ := trodAll_nil r4
  obtain rfl : args = #[v0, v1, v2, v3, v4] := by cases args; simp_all
  obtain ⟨d, bn, bl, ns, ls, cn, cl, rfl, hn, hl, hz⟩ := open_yard (hval 0 _ v0 rfl rfl) h0
  obtain ⟨ow, rfl⟩ := okWide_int Try.underlying3 (hval 1 _ v1 rfl rfl)
  obtain ⟨ot, rfl⟩ := okWide_int Try.underlying3 (hval 2 _ v2 rfl rfl)
  obtain ⟨a, rfl⟩ := okWide_int Try.underlying3 (hval 3 _ v3 rfl rfl)
  obtain ⟨f, t, rfl⟩ := open_span (hval 4 _ v4 rfl rfl)
  have hz' := hz reachBytes (fun k hk => by have := List.all_eq_true.1 hwt k (DataW.weights_mem_each (j := 0) rfl rfl k hk); simpa using this)
  obtain ⟨rfl, rfl⟩ := trodVars_none hV
  clear hA0 hval0
  simp only [List.append_nil] at hW' hK
  refine (law09_CalsApart d bn bl cn cl ns ls ow ot a f t W hn hl hz').mono fun e W' ⟨he, bel⟩ => ?_
  subst he
  refine ⟨_, rfl, _, _, _, [], _, [], hW', trodAll_mk1 (shut_bool Try.underlying4 _), trodAll_below bel _ _ _ _ ?_ hK, rfl, bel.frame _, fun h => by cases h⟩
  intro t ht
  simp at ht <;> (rcases ht with rfl | rfl | rfl | rfl | rfl <;> exact ⟨by kernel_rfl, of_decide_eq_true (by kernel_rfl)⟩)

theorem holds_calsApart : Rows.calsApartRow.holds Try.pinned (OpenSpec.ofChange Rows.calsApartSpec) :=
  OpenClaim.holds_of_wide 13 Try.f13 rfl rfl rfl rfl rfl rfl rfl ⟨rfl, rfl, rfl, rfl, rfl⟩ rfl rfl rfl rfl rfl (by kernel_rfl) Try.func13 (by kernel_rfl)
    (of_decide_eq_true (by kernel_rfl)) (by unfold Func.isWrapper; first | (rw [if_pos (by decide +kernel)]; kernel_rfl) | (rw [if_neg (by decide +kernel)]; exact ⟨rfl, rfl⟩))
    (fun os started H enc _ => lift_calsApart os started H enc)

theorem CalsApart_holds : Rows.CalsApartSaid := holds_calsApart
end Go.Proofs.Ytfikgjcmnooglaa
