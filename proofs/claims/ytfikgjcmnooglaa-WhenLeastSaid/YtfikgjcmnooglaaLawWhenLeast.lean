/- WhenLeast: where something is free from a moment on, it is so from one of Times' on that is not later: the call returns true. -/
import Derived.Test.YtfikgjcmnooglaaWhenFree
import Derived.Test.YtfikgjcmnooglaaRowYard
namespace Go.Proofs.Ytfikgjcmnooglaa
open Go.ChangeShapes Go.WideShapes Go.ChangeAt Go.RowKit Go.Shelf

theorem timesE_0 {y : Yd} {f : Int} (h : timesE y f = 0) : y.okB = true ∧ 0 ≤ f ∧ f < 1099511627776 := by
  unfold timesE at h
  split at h
  · next hk =>
    split at h
    · next hf => exact ⟨hk, hf⟩
    · omega
  · omega
theorem timesV_ge {y : Yd} {f x : Int} (h : x ∈ timesV y f) : f ≤ x := by
  unfold timesV at h
  split at h
  · rw [mem_pmsL] at h
    rcases h with h | h
    · simp at h; omega
    · have := ends_after x h; omega
  · cases h
theorem timesV_len {y : Yd} {f : Int} (h : y.all.length ≤ 20000000) : (timesV y f).length ≤ 100000000 := by
  unfold timesV
  split
  · have h1 := pmsL_len (endsL (afterB f) y.all) [f]
    have h2 := endsL_len (afterB f) y.all
    simp at h1
    omega
  · exact Nat.zero_le _
set_option maxRecDepth 100000 in set_option maxHeartbeats 4000000 in
theorem core_WhenLeast (y : Yd) (bn bl : Option Addr) (cn cl : Nat) (bm bk : Option Addr) (cm ck : Nat) (ms ks : List Nat) (fr a long : Int) (w : World) (hn : CC w bn y.ns) (hl : CC w bl y.ls) (hm : SetIn w bm ms) (hk : SetIn w bk ks) (m1 : ms.length ≤ 100) (k1 : ks.length ≤ 100)
    (hG : ∀ W, Below w.heap.size w W → Calls Try.prog 26 #[.agg #[.int .i64 y.d.x, .int .i64 y.d.y, .int .i64 y.d.z, (.slice bn y.ns.length cn), (.slice bl y.ls.length cl)]] W (RB W (.bool false))) :
    Calls Try.prog 17 #[.agg #[.int .i64 y.d.x, .int .i64 y.d.y, .int .i64 y.d.z, (.slice bn y.ns.length cn), (.slice bl y.ls.length cl)], .slice bm ms.length cm, .slice bk ks.length ck, .int .i64 fr, .int .i64 a, .int .i64 long] w (RB w (.bool true)) := by
  have hys : YS w (.agg #[.int .i64 y.d.x, .int .i64 y.d.y, .int .i64 y.d.z, (.slice bn y.ns.length cn), (.slice bl y.ls.length cl)]) y := ⟨bn, bl, cn, cl, rfl, hn, hl⟩
  have A1 := Lib.hid (fun W => law10_alive W)
  have G1 := Lib.hid hG
  have hal := hys.all_len
  have hn9 := hn.many
  have HYS := Lib.hid hys
  have T1 := Lib.hid (fun W (hb : Below w.heap.size w W) => when_Times fr _ y W (hys.keep hb))
  have C1 := Lib.hid (fun W (hb : Below w.heap.size w W) => set_Check y.ns.length bm cm ms W (hm.keep hb).rd hm.len hm.fit)
  have C2 := Lib.hid (fun W (hb : Below w.heap.size w W) => set_Check (3 * (y.ns.length : Int)) bk ck ks W (hk.keep hb).rd hk.len hk.fit)
  have SM := Lib.hid (show SS w (.slice bm ms.length cm) ms from ⟨bm, cm, rfl, hm⟩)
  have SK := Lib.hid (show SS w (.slice bk ks.length ck) ks from ⟨bk, ck, rfl, hk⟩)
  have FM := Lib.hid hm.fit
  have FK := Lib.hid hk.fit
  have HTE := Lib.hid (fun h => timesE_0 (y := y) (f := fr) h)
  obtain ⟨l, hlv⟩ : ∃ l, l = timesV y fr := ⟨_, rfl⟩
  obtain ⟨x1, hx1⟩ : ∃ x1, x1 = timesE y fr := ⟨_, rfl⟩
  obtain ⟨q1, hq1⟩ : ∃ q1, q1 = sChk y.ns.length ms := ⟨_, rfl⟩
  obtain ⟨q2, hq2⟩ : ∃ q2, q2 = sChk (3 * (y.ns.length : Int)) ks := ⟨_, rfl⟩
  rw [← hlv, ← hx1] at T1
  rw [← hx1] at HTE
  rw [← hq1] at C1
  rw [← hq2] at C2
  have hll : l.length ≤ 100000000 := by rw [hlv]; exact timesV_len hal
  have HLV := Lib.hid hlv
  have HQ1 := Lib.hid hq1
  have HQ2 := Lib.hid hq2
  clear hn hl hm hk hG hys hal hlv hx1 hq1 hq2
  go_enter Try.func17, Try.ntmps17
  go_wp2_with fail
  refine (A1.out _).mono ?_
  rintro e w1 ⟨rfl, hb⟩
  have YB := Lib.hid (show Blk w1 w.heap.size 42 #[.int .i64 y.d.x, .int .i64 y.d.y, .int .i64 y.d.z, (.slice bn y.ns.length cn), (.slice bl y.ls.length cl)] from (Blk.new w 42 #[.int .i64 y.d.x, .int .i64 y.d.y, .int .i64 y.d.z, (.slice bn y.ns.length cn), (.slice bl y.ls.length cl)]).below hb)
  have HB := Lib.hid (below_then (show Below w.heap.size w (w.alloc (.cells #[.int .i64 y.d.x, .int .i64 y.d.y, .int .i64 y.d.z, (.slice bn y.ns.length cn), (.slice bl y.ls.length cl)] 42)) by (repeat (first | (with_reducible exact Below.refl _ _) | (with_reducible assumption) | (with_reducible refine below_alloc ?_ _) | (with_reducible refine below_drewN ?_ _) | (with_reducible refine Below.drew ?_) | (with_reducible refine below_then ?_ (by with_reducible assumption)) | (with_reducible refine Below.setCell ?_ (by go_size) _)))) hb)
  clear hb A1
  (have y0 := YB.out.cell 0 _ rfl; have y1 := YB.out.cell 1 _ rfl; have y2 := YB.out.cell 2 _ rfl; have y3 := YB.out.cell 3 _ rfl; have y4 := YB.out.cell 4 _ rfl)
  go_wp2_with fail
  refine (G1.out _ HB.out).mono ?_
  rintro e w2 ⟨rfl, hb⟩
  have YB := Lib.hid (YB.out.below hb)
  have HB := Lib.hid (below_then HB.out hb)
  clear hb G1
  clear y0 y1 y2 y3 y4
  (have y0 := YB.out.cell 0 _ rfl; have y1 := YB.out.cell 1 _ rfl; have y2 := YB.out.cell 2 _ rfl; have y3 := YB.out.cell 3 _ rfl; have y4 := YB.out.cell 4 _ rfl)
  go_wp2_with fail
  refine (T1.out _ HB.out).mono ?_
  rintro e w3 ⟨lv, rfl, HM, hb⟩
  obtain ⟨lb, lc, rfl, hrd⟩ := HM.ex
  have HM := Lib.hid hrd
  have YB := Lib.hid (YB.out.below hb)
  have HB := Lib.hid (below_then HB.out hb)
  clear hb T1 hrd
  clear y0 y1 y2 y3 y4
  (have y0 := YB.out.cell 0 _ rfl; have y1 := YB.out.cell 1 _ rfl; have y2 := YB.out.cell 2 _ rfl; have y3 := YB.out.cell 3 _ rfl; have y4 := YB.out.cell 4 _ rfl)
  by_cases hE : x1 = 0
  · obtain ⟨hok, f0, f1⟩ := HTE.out hE
    have HOK := Lib.hid hok
    subst hE
    clear hok HTE
    by_cases g1 : a < fr
    · have d1 : decide (a < fr) = true := decide_eq_true g1
      (go_wp2_with fail; go_returns; exact ⟨rfl, HB.out⟩)
    have d1 : decide (a < fr) = false := decide_eq_false g1
    by_cases g2 : 1099511627776 ≤ a
    · have d2 : decide (1099511627776 ≤ a) = true := decide_eq_true g2
      (go_wp2_with fail; go_returns; exact ⟨rfl, HB.out⟩)
    have d2 : decide (1099511627776 ≤ a) = false := decide_eq_false g2
    by_cases g3 : long < 1
    · have d3 : decide (long < 1) = true := decide_eq_true g3
      (go_wp2_with fail; go_returns; exact ⟨rfl, HB.out⟩)
    have d3 : decide (long < 1) = false := decide_eq_false g3
    by_cases g4 : 1099511627776 - a < long
    · have d4 : decide (1099511627776 - a < long) = true := decide_eq_true g4
      (go_wp2_with fail; go_returns; exact ⟨rfl, HB.out⟩)
    have d4 : decide (1099511627776 - a < long) = false := decide_eq_false g4
    by_cases g5 : q1 = 0
    · by_cases g6 : q2 = 0
      · subst g5
        subst g6
        have hL := Yd.ok_len HOK.out
        have HFr := Lib.hid (fun x W (hb : Below w.heap.size w W) (h0 : fr ≤ x) (h1 : x ≤ a) => law10_free y _ _ _ ms ks x long W (HYS.out.keep hb) (SM.out.keep hb) (SK.out.keep hb) HOK.out HQ1.out.symm (by rw [hL]; exact HQ2.out.symm) FM.out FK.out (by omega) (by omega) (by omega))
        have HPl := Lib.hid (fun h => least_plain (y := y) (ms := ms) (ks := ks) (fr := fr) (a := a) (long := long) HOK.out f0 (by omega) (by omega) (by omega) HQ1.out.symm (by rw [hL]; exact HQ2.out.symm) FM.out FK.out h)
        have HGe := Lib.hid (fun x (hx : x ∈ l) => timesV_ge (y := y) (f := fr) (by rw [← HLV.out]; exact hx))
        rw [← HLV.out] at HPl
        clear hL HQ1 HQ2 FM FK HOK HLV
        go_wp2_with fail
        refine (C1.out _ HB.out).mono ?_
        (rintro e w4 ⟨rfl, hw9⟩; have hw9 := hw9.symm; subst hw9)
        go_wp2_with fail
        refine (C2.out _ HB.out).mono ?_
        (rintro e w5 ⟨rfl, hw9⟩; have hw9 := hw9.symm; subst hw9)
        go_wp2_with fail
        refine (HFr.out a _ HB.out (by omega) (by omega)).mono ?_
        rintro e w6 ⟨rfl, hb⟩
        have YB := Lib.hid (YB.out.below hb)
        have HM := Lib.hid (HM.out.keep hb)
        have HB := Lib.hid (below_then HB.out hb)
        clear hb C1 C2
        clear y0 y1 y2 y3 y4
        cases hz : freeAt y ms ks long a with
        | false =>
          (go_wp2_with fail; go_returns; exact ⟨rfl, HB.out⟩)
        | true =>
          obtain ⟨m, hm1, hm2, hm3⟩ := HPl.out hz
          have HM1 := Lib.hid (⟨hm1, hm2, hm3⟩ : m ∈ l ∧ m ≤ a ∧ freeAt y ms ks long m = true)
          clear hm1 hm2 hm3 HPl hz
          go_wp2_with fail
          go_loopw [17] (fun i wr => ∃ k : Nat, k ≤ l.length ∧ i = .int .i64 k ∧ (∀ j (hj : j < l.length), j < k → ¬ (l[j] ≤ a ∧ freeAt y ms ks long l[j] = true)) ∧ Below w6.heap.size w6 wr) (fun i _ => l.length - (valNum i).toNat)
          case atStart => exact ⟨0, Nat.zero_le _, rfl, fun j _ hj => absurd hj (by omega), Below.refl _ _⟩
          case round =>
            obtain ⟨k, hk, rfl, hno, hbl⟩ := hrel
            have HNo := Lib.hid hno
            have HBl := Lib.hid hbl
            clear hno hbl
            by_cases hlt : k < l.length
            · obtain ⟨b, off, rfl, c0, hbl⟩ := mi_at (HM.out.keep HBl.out) hlt
              have hge := HGe.out l[k] (List.getElem_mem hlt)
              have HNx := Lib.hid (fun (h : ¬ (l[k] ≤ a ∧ freeAt y ms ks long l[k] = true)) j (hj : j < l.length) (hjk : j < k + 1) => show ¬ (l[j] ≤ a ∧ freeAt y ms ks long l[j] = true) by
                rcases Nat.lt_or_ge j k with h5 | h5
                · exact HNo.out j hj h5
                · have : j = k := by omega
                  subst this; exact h)
              obtain ⟨x, hx⟩ : ∃ x, x = l[k] := ⟨_, rfl⟩
              rw [← hx] at c0 hge HNx
              clear hx
              have YB := Lib.hid (YB.out.below HBl.out)
              have hyl := YB.out.lt
              have HBw := Lib.hid (below_then HB.out HBl.out)
              (have y0 := YB.out.cell 0 _ rfl; have y1 := YB.out.cell 1 _ rfl; have y2 := YB.out.cell 2 _ rfl; have y3 := YB.out.cell 3 _ rfl; have y4 := YB.out.cell 4 _ rfl)
              by_cases hxa : x ≤ a
              · have d9 : decide (x ≤ a) = true := decide_eq_true hxa
                have HI := Lib.hid (fun (x' : Aft wr) => Calls.aft_of (x := x') (HFr.out x x'.to (below_then HBw.out x'.h) hge hxa))
                cases hz : freeAt y ms ks long x with
                | true =>
                  rw [hz] at HI
                  clear HNx HNo
                  go_wp2_with (refine wp_region_aft (by kernel_rfl) (by kernel_rfl) ?_; (repeat (any_goals (first | go_big_quiet_step (with_reducible exact HI.out _) | quiet_step (with_reducible exact HI.out _) | (refine wpQuiet_step (fun K hK => ?_); go_simp; split <;> (refine hK _ ?_; clear hK K))))); all_goals (refine wpQuiet_nil ?_; intro wq hw'; obtain ⟨x1, hx1⟩ := hw'; have hbq := x1.h; rw [← hx1] at hbq; clear hx1 x1))
                  all_goals
                    go_returns
                    exact ⟨rfl, below_then HBw.out (by (repeat (first | (with_reducible exact Below.refl _ _) | (with_reducible assumption) | (with_reducible refine below_alloc ?_ _) | (with_reducible refine below_drewN ?_ _) | (with_reducible refine Below.drew ?_) | (with_reducible refine below_then ?_ (by with_reducible assumption)) | (with_reducible refine Below.setCell ?_ (by go_size) _))))⟩
                | false =>
                  rw [hz] at HI
                  have HN2 := Lib.hid (HNx.out (fun h => by rw [hz] at h; exact absurd h.2 (by decide)))
                  clear HNx HNo hz
                  go_wp2_with (refine wp_region_aft (by kernel_rfl) (by kernel_rfl) ?_; (repeat (any_goals (first | go_big_quiet_step (with_reducible exact HI.out _) | quiet_step (with_reducible exact HI.out _) | (refine wpQuiet_step (fun K hK => ?_); go_simp; split <;> (refine hK _ ?_; clear hK K))))); all_goals (refine wpQuiet_nil ?_; intro wq hw'; obtain ⟨x1, hx1⟩ := hw'; have hbq := x1.h; rw [← hx1] at hbq; clear hx1 x1))
                  all_goals
                    go_roundw
                    case rel => exact ⟨k + 1, by omega, by go_num, HN2.out, below_then HBl.out (by (repeat (first | (with_reducible exact Below.refl _ _) | (with_reducible assumption) | (with_reducible refine below_alloc ?_ _) | (with_reducible refine below_drewN ?_ _) | (with_reducible refine Below.drew ?_) | (with_reducible refine below_then ?_ (by with_reducible assumption)) | (with_reducible refine Below.setCell ?_ (by go_size) _))))⟩
                    case measure => (simp [valNum] <;> omega)
              · have d9 : decide (x ≤ a) = false := decide_eq_false hxa
                have HN2 := Lib.hid (HNx.out (fun h => hxa h.1))
                clear HNx HNo
                go_wp2_with (refine wp_region_aft (by kernel_rfl) (by kernel_rfl) ?_; (repeat (any_goals (first | go_big_quiet_step (fail) | quiet_step (fail) | (refine wpQuiet_step (fun K hK => ?_); go_simp; split <;> (refine hK _ ?_; clear hK K))))); all_goals (refine wpQuiet_nil ?_; intro wq hw'; obtain ⟨x1, hx1⟩ := hw'; have hbq := x1.h; rw [← hx1] at hbq; clear hx1 x1))
                all_goals
                  go_roundw
                  case rel => exact ⟨k + 1, by omega, by go_num, HN2.out, below_then HBl.out (by (repeat (first | (with_reducible exact Below.refl _ _) | (with_reducible assumption) | (with_reducible refine below_alloc ?_ _) | (with_reducible refine below_drewN ?_ _) | (with_reducible refine Below.drew ?_) | (with_reducible refine below_then ?_ (by with_reducible assumption)) | (with_reducible refine Below.setCell ?_ (by go_size) _))))⟩
                  case measure => (simp [valNum] <;> omega)
            · exfalso
              obtain ⟨h1, h2, h3⟩ := HM1.out
              obtain ⟨j, hj, e⟩ := List.mem_iff_getElem.1 h1
              exact HNo.out j hj (by omega) (by rw [e]; exact ⟨h2, h3⟩)
      · subst g5
        have e1 : (q2 == 0) = false := by simpa using g6
        have e2 : (q2 != 0) = true := by simpa using g6
        go_wp2_with fail
        refine (C1.out _ HB.out).mono ?_
        (rintro e w4 ⟨rfl, hw9⟩; have hw9 := hw9.symm; subst hw9)
        go_wp2_with fail
        refine (C2.out _ HB.out).mono ?_
        (rintro e w5 ⟨rfl, hw9⟩; have hw9 := hw9.symm; subst hw9)
        (go_wp2_with fail; go_returns; exact ⟨rfl, HB.out⟩)
    · have e1 : (q1 == 0) = false := by simpa using g5
      have e2 : (q1 != 0) = true := by simpa using g5
      go_wp2_with fail
      refine (C1.out _ HB.out).mono ?_
      (rintro e w4 ⟨rfl, hw9⟩; have hw9 := hw9.symm; subst hw9)
      (go_wp2_with fail; go_returns; exact ⟨rfl, HB.out⟩)
  · have e1 : (x1 == 0) = false := by simpa using hE
    have e2 : (x1 != 0) = true := by simpa using hE
    (go_wp2_with fail; go_returns; exact ⟨rfl, HB.out⟩)
set_option maxRecDepth 100000 in set_option maxHeartbeats 4000000 in
theorem least_great (y : Yd) (bn bl : Option Addr) (cn cl : Nat) (bm bk : Option Addr) (cm ck : Nat) (ms ks : List Nat) (fr a long : Int) (w : World) (gy : Bool)
    (hG : ∀ W, Below w.heap.size w W → Calls Try.prog 26 #[.agg #[.int .i64 y.d.x, .int .i64 y.d.y, .int .i64 y.d.z, (.slice bn y.ns.length cn), (.slice bl y.ls.length cl)]] W (RB W (.bool gy))) (hc : gy = true ∨ (gy = false ∧ 100 < ms.length) ∨ (gy = false ∧ ms.length ≤ 100 ∧ 100 < ks.length)) :
    Calls Try.prog 17 #[.agg #[.int .i64 y.d.x, .int .i64 y.d.y, .int .i64 y.d.z, (.slice bn y.ns.length cn), (.slice bl y.ls.length cl)], .slice bm ms.length cm, .slice bk ks.length ck, .int .i64 fr, .int .i64 a, .int .i64 long] w (RB w (.bool true)) := by
  have A1 := Lib.hid (fun W => law10_alive W)
  have G1 := Lib.hid hG
  clear hG
  go_enter Try.func17, Try.ntmps17
  go_wp2_with fail
  refine (A1.out _).mono ?_
  rintro e w1 ⟨rfl, hb⟩
  have YB := Lib.hid (show Blk w1 w.heap.size 42 #[.int .i64 y.d.x, .int .i64 y.d.y, .int .i64 y.d.z, (.slice bn y.ns.length cn), (.slice bl y.ls.length cl)] from (Blk.new w 42 #[.int .i64 y.d.x, .int .i64 y.d.y, .int .i64 y.d.z, (.slice bn y.ns.length cn), (.slice bl y.ls.length cl)]).below hb)
  have HB := Lib.hid (below_then (show Below w.heap.size w (w.alloc (.cells #[.int .i64 y.d.x, .int .i64 y.d.y, .int .i64 y.d.z, (.slice bn y.ns.length cn), (.slice bl y.ls.length cl)] 42)) by (repeat (first | (with_reducible exact Below.refl _ _) | (with_reducible assumption) | (with_reducible refine below_alloc ?_ _) | (with_reducible refine below_drewN ?_ _) | (with_reducible refine Below.drew ?_) | (with_reducible refine below_then ?_ (by with_reducible assumption)) | (with_reducible refine Below.setCell ?_ (by go_size) _)))) hb)
  clear hb A1
  (have y0 := YB.out.cell 0 _ rfl; have y1 := YB.out.cell 1 _ rfl; have y2 := YB.out.cell 2 _ rfl; have y3 := YB.out.cell 3 _ rfl; have y4 := YB.out.cell 4 _ rfl)
  go_wp2_with fail
  refine (G1.out _ HB.out).mono ?_
  rintro e w2 ⟨rfl, hb⟩
  have HB := Lib.hid (below_then HB.out hb)
  clear hb G1
  rcases hc with rfl | ⟨rfl, h1⟩ | ⟨rfl, h1, h2⟩
  · (go_wp2_with fail; go_returns; exact ⟨rfl, HB.out⟩)
  · (go_wp2_with fail; go_returns; exact ⟨rfl, HB.out⟩)
  · (go_wp2_with fail; go_returns; exact ⟨rfl, HB.out⟩)
theorem law10_WhenLeast (d : V3) (bn bl : Option Addr) (cn cl : Nat) (ns ls : List (List Sl)) (bm bk : Option Addr) (cm ck : Nat) (ms ks : List Nat) (fr a long : Int) (w : World) (hn : CR w bn ns) (hl : CR w bl ls)
    (hz : (ns.length * 24 ≤ reachBytes ∧ ∀ c ∈ ns, c.length * 24 ≤ reachBytes) ∧ (ls.length * 24 ≤ reachBytes ∧ ∀ c ∈ ls, c.length * 24 ≤ reachBytes))
    (hm : Rd w bm (wcells ms) ∧ W64 ms) (hk : Rd w bk (wcells ks) ∧ W64 ks) :
    Calls Try.prog 17 #[.agg #[.int .i64 d.x, .int .i64 d.y, .int .i64 d.z, (.slice bn ns.length cn), (.slice bl ls.length cl)], .slice bm ms.length cm, .slice bk ks.length ck, .int .i64 fr, .int .i64 a, .int .i64 long] w (RB w (.bool true)) := by
  have hG := fun W (h : Below w.heap.size w W) => great_reach d bn bl cn cl ns ls W (hn.keep h) (hl.keep h) hz
  have big := fun gy h1 hc => least_great ⟨d, ns, ls⟩ bn bl cn cl bm bk cm ck ms ks fr a long w gy h1 hc
  cases hg : greatB ns ls with
  | true =>
    rw [hg] at hG
    exact big true hG (.inl rfl)
  | false =>
    rw [hg] at hG
    have hs := great_small hg
    by_cases m1 : ms.length ≤ 100
    · by_cases k1 : ks.length ≤ 100
      · exact core_WhenLeast ⟨d, ns, ls⟩ bn bl cn cl bm bk cm ck ms ks fr a long w ⟨hn, hs.1.1, hs.1.2⟩ ⟨hl, hs.2.1, hs.2.2⟩ ⟨hm.1, by omega, hm.2⟩ ⟨hk.1, by omega, hk.2⟩ m1 k1 hG
      · exact big false hG (.inr (.inr ⟨rfl, m1, by omega⟩))
    · exact big false hG (.inr (.inl ⟨rfl, by omega⟩))

set_option maxRecDepth 100000 in set_option maxHeartbeats 4000000 in
theorem lift_whenLeast (os : Os) (started : os.Started) (H : Type) (enc : TypeId × Value → H) :
    ReturnsInHanded {} Try.checked os 17 .any (Rows.whenLeastSpec.pre6 enc Try.prog Try.f17 Rows.whenLeastRow.domain false) (Rows.whenLeastSpec.post enc Try.prog Try.f17 false true false false) := by
  refine returnsInHanded_of_change_sized (C := Try.checked) ownKnob0 started (by kernel_rfl) Try.func17
    (ChangeSpec.witness6 (enc := enc) (C := Try.checked) false ⟨#[], #[.agg #[.int .i64 (⟨0, 0, 0⟩ : V3).x, .int .i64 (⟨0, 0, 0⟩ : V3).y, .int .i64 (⟨0, 0, 0⟩ : V3).z, (.slice none 0 0), (.slice none 0 0)], .slice none 0 0, .slice none 0 0, .int .i64 0, .int .i64 0, .int .i64 0], []⟩ 8 (by kernel_rfl) (by kernel_rfl) (by kernel_rfl) (by kernel_rfl)) ?_
  intro W base args ds gs before hval0 hW hcnd hwt _
  have hval : ∀ (j : Nat) t v, Try.f17.params[j]? = some t → args[j]? = some v → Value.okWide Try.prog W .any base t v := hval0
  have hW' := hW
  obtain ⟨p, q, hA0, hV, rfl, hfz, hnd⟩ := hW
  have hA : DataW.TrodAll enc Try.prog W 0 (fun _ => true) true Try.f17.params.toList args.toList ds p := hA0
  rw [Try.params17] at hA hval hwt
  have hK := hA
  obtain ⟨v0, vs0, d0, ds0, p0, q0, hargs, rfl, rfl, h0, r0⟩ := trodAll_cons hA
  obtain ⟨v1, vs1, d1, ds1, p1, q1, rfl, rfl, rfl, h1, r1⟩ := trodAll_cons r0
  obtain ⟨v2, vs2, d2, ds2, p2, q2, rfl, rfl, rfl, h2, r2⟩ := trodAll_cons r1
  obtain ⟨v3, vs3, d3, ds3, p3, q3, rfl, rfl, rfl, h3, r3⟩ := trodAll_cons r2
  obtain ⟨v4, vs4, d4, ds4, p4, q4, rfl, rfl, rfl, h4, r4⟩ := trodAll_cons r3
  obtain ⟨v5, vs5, d5, ds5, p5, q5, rfl, rfl, rfl, h5, r5⟩ := trodAll_cons r4
  obtain ⟨rfl, rfl, rfl⟩ := trodAll_nil r5
  obtain rfl : args = #[v0, v1, v2, v3, v4, v5] := by cases args; simp_all
  obtain ⟨d, bn, bl, ns, ls, cn, cl, rfl, hn, hl, hz⟩ := open_yard (hval 0 _ v0 rfl rfl) h0
  obtain ⟨bm, ms, cm, rfl, hms, _⟩ := open_set (hval 1 _ v1 rfl rfl) h1
  obtain ⟨bk, ks, ck, rfl, hks, _⟩ := open_set (hval 2 _ v2 rfl rfl) h2
  obtain ⟨fr, rfl⟩ := okWide_int Try.underlying3 (hval 3 _ v3 rfl rfl)
  obtain ⟨a, rfl⟩ := okWide_int Try.underlying3 (hval 4 _ v4 rfl rfl)
  obtain ⟨long, rfl⟩ := okWide_int Try.underlying3 (hval 5 _ v5 rfl rfl)
  have hz' := hz reachBytes (fun k hk => by have := List.all_eq_true.1 hwt k (DataW.weights_mem_each (j := 0) rfl rfl k hk); simpa using this)
  obtain ⟨rfl, rfl⟩ := trodVars_none hV
  clear hA0 hval0
  simp only [List.append_nil] at hW' hK
  refine (law10_WhenLeast d bn bl cn cl ns ls bm bk cm ck ms ks fr a long W hn hl hz' hms hks).mono fun e W' ⟨he, bel⟩ => ?_
  subst he
  refine ⟨_, rfl, _, _, _, [], _, [], hW', trodAll_mk1 (shut_bool Try.underlying4 _), trodAll_below bel _ _ _ _ ?_ hK, rfl, bel.frame _, fun h => by cases h⟩
  intro t ht
  simp at ht <;> (rcases ht with rfl | rfl | rfl | rfl | rfl | rfl <;> exact ⟨by kernel_rfl, of_decide_eq_true (by kernel_rfl)⟩)

theorem holds_whenLeast : Rows.whenLeastRow.holds Try.pinned (OpenSpec.ofChange Rows.whenLeastSpec) :=
  OpenClaim.holds_of_wide 17 Try.f17 rfl rfl rfl rfl rfl rfl rfl ⟨rfl, rfl, rfl, rfl, rfl⟩ rfl rfl rfl rfl rfl (by kernel_rfl) Try.func17 (by kernel_rfl)
    (of_decide_eq_true (by kernel_rfl)) (by unfold Func.isWrapper; first | (rw [if_pos (by decide +kernel)]; kernel_rfl) | (rw [if_neg (by decide +kernel)]; exact ⟨rfl, rfl⟩))
    (fun os started H enc _ => lift_whenLeast os started H enc)

theorem WhenLeast_holds : Rows.WhenLeastSaid := holds_whenLeast
end Go.Proofs.Ytfikgjcmnooglaa
