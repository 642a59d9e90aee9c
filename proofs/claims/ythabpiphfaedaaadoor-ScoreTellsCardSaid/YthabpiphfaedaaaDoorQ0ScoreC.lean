/- SCORE: how many open sides; the check; or the error. -/
import Derived.IntWalk
import Derived.Test.YthabpiphfaedaaaDoorQ0PosN
import Derived.Test.YthabpiphfaedaaaDoorQ0SetTwo
import Derived.Test.YthabpiphfaedaaaDoorQ0SetMeet
import Derived.Test.YthabpiphfaedaaaDoorQ0ScoreA
import Derived.Test.YthabpiphfaedaaaDoorQ0ScoreB
import Derived.Test.YthabpiphfaedaaaDoorQ0SetTz
import Derived.Test.YthabpiphfaedaaaDoorQ8ScoreTells
namespace Go.Proofs.YthabpiphfaedaaaDoor

section
section
open Go.RowKit Go.Shelf
attribute [local go_sem] Oper.semAt_some

theorem kpD_refl (n₀ B : Nat) (W : World) : KpD n₀ B W W := ⟨Below.refl _ _, fun _ _ _ h _ => h⟩
theorem KpD.row {n₀ B base : Nat} {W W' : World} {t : TypeId} {v : Value} {n : Nat} {xs : List Value} (h : KpD n₀ B W W') (ho : W.ownsRow base t 1 v n xs) (hB : B < base) : W'.ownsRow base t 1 v n xs := by
  refine ⟨ho.1, ?_⟩
  rcases ho.2 with e | ⟨g, cap, cur, e, hg, hc, r⟩
  · exact .inl e
  · exact .inr ⟨g, cap, cur, e, hg, h.cells g _ (by omega) hc rfl, r⟩
theorem kpD_own {n₀ B L : Nat} {X W W' : World} {row : Option Nat} (h : KpD n₀ B X W) (hg : W.grownBy W' row) (hr : ∀ r, row = some r → L ≤ r ∧ ∃ o : Obj, W.heap[r]? = some o ∧ o.isCells = false) (hL : n₀ ≤ L) (hn : n₀ ≤ X.heap.size) : KpD n₀ B X W' :=
  ⟨h.below.grown hg (Nat.le_trans hn h.below.size) (fun k e => Nat.le_trans hL (hr k e).1), fun b o hb ho hc => by
    have h1 := h.cells b o hb ho hc
    refine (hg.block b (Array.getElem?_eq_some_iff.1 h1).1 (fun e => ?_)).trans h1
    obtain ⟨_, p, hp, hpc⟩ := hr b e.symm
    rw [h1] at hp
    cases hp
    rw [hc] at hpc
    cases hpc⟩
theorem KdAll.own {W W' : World} {n₀ L : Nat} {ds : List Nat} {row : Option Nat} (h : KdAll W n₀ ds) (hl : ∀ D ∈ ds, D < L) (hg : W.grownBy W' row) (hr : ∀ r, row = some r → L ≤ r) : KdAll W' n₀ ds :=
  ⟨h.lo, h.nd, fun D hD => (hg.block D (h.lt D hD) (fun e => by have := hr D e.symm; have := hl D hD; omega)).trans (h.at' D hD)⟩
theorem KdAll.set {W : World} {n₀ B k : Nat} {ds : List Nat} (h : KdAll W n₀ ds) (v : Value) {t : TypeId} {cs : Array Value} (hB : Blk W B t cs) : KdAll (W.setCell ⟨B, k, none⟩ v) n₀ ds :=
  ⟨h.lo, h.nd, fun D hD => (Below.heap_setCell W ⟨B, k, none⟩ v D (fun e => by have h1 := h.at' D hD; rw [show D = B from e] at h1; rw [show W.heap[B]? = _ from hB] at h1; cases h1)).trans (h.at' D hD)⟩
theorem KdAll.cons {W : World} {n₀ D : Nat} {ds : List Nat} (h : KdAll W n₀ ds) (hn : n₀ ≤ D) (hl : ∀ E ∈ ds, E < D) (hD : W.heap[D]? = some (.deferred (some []))) : KdAll W n₀ (D :: ds) :=
  ⟨fun E hE => by rcases List.mem_cons.1 hE with rfl | hE; exact hn; exact h.lo E hE, List.nodup_cons.2 ⟨fun hm => by have := hl D hm; omega, h.nd⟩, fun E hE => by rcases List.mem_cons.1 hE with rfl | hE; exact hD; exact h.at' E hE⟩
theorem openTo_le (d : V3) (b : List Nat) : ∀ l : List Int, openTo d b l ≤ 6 * l.length
  | [] => Nat.le_refl _
  | m :: l => by
    have h1 := openTo_le d b l
    have h2 : hits b (sidesV d m) ≤ 6 := Nat.le_trans List.countP_le_length (sidesV_le d m)
    have h3 : openTo d b (m :: l) = hits b (sidesV d m) + openTo d b l := by unfold openTo; rw [List.map_cons, List.sum_cons]
    rw [h3, List.length_cons]
    omega
theorem nums_in {n : Int} {a : List Nat} (h : sChk n a = 0) (fa : W64 a) {x : Int} (hx : x ∈ nums a) : 0 ≤ x ∧ x < n := by
  obtain ⟨k, rfl, h1, h2⟩ := mem_nums.1 hx
  first
    | exact hasI_in h fa (by rw [hasI_nat]; exact h2)
    | exact hasI_in h fa (by rw [hasI_nat]; exact h1)
set_option maxRecDepth 100000 in set_option maxHeartbeats 4000000 in
theorem score_open (d : V3) (bi bo : Option Addr) (ci co : Nat) (a b : List Nat) (w : World) (hd : d.may) (ha : SetIn w bi a) (hb : SetIn w bo b) (hca : sChk d.n a = 0) (hcb : sChk d.n b = 0) (hT : TabAt 0 Lib.deBruijn64tab w) (hg : 0 < w.heap.size) :
    Calls Tryd.prog 57 #[.agg #[.int .i64 d.x, .int .i64 d.y, .int .i64 d.z], .int .i64 d.n, .slice bi a.length ci, .slice bo b.length co] w (RB w (.int .i64 (openTo d b (nums a) : Nat))) := by
  have HL := Lib.hid (fun W (hb : Below w.heap.size w W) => set_List d.n bi ci a W (ha.keep hb) (fun j hj => (hb.cell (p := ⟨0, j, none⟩) hg).trans (hT j hj)) (Nat.lt_of_lt_of_le hg hb.size))
  have HH := Lib.hid (fun (x : Int) W (hw : Below w.heap.size w W) => set_Has d.n bo co b x W (hb.keep hw))
  have HI := Lib.hid (fun x (hx : x ∈ nums a) => nums_in hca ha.fit hx)
  have hlv : listV d.n a = nums a := if_pos hca
  have hlen := listV_len d.n a
  rw [hlv] at HL hlen
  rw [hca] at HL
  rw [hcb] at HH
  have HV := Lib.hid (fun (x : Int) => (show hasV d.n b x = hasI b x from if_pos hcb))
  obtain ⟨L, hLL⟩ : ∃ L, L = nums a := ⟨_, rfl⟩
  rw [← hLL] at HL hlen HI ⊢
  have HDM := Lib.hid hd
  clear hT hg ha hb hca hcb hlv hLL hd
  refine (callsIn_wide (n := 12)).1 ?_
  refine callsIn_of_wp_marks Tryd.func57 rfl trivial ?_ rfl
  simp only [Tryd.ntmps57, List.size_toArray, List.length_cons, List.length_nil, Nat.reduceAdd, Nat.reduceSub, Array.replicate_succ, Array.replicate_zero, List.push_toArray, List.append_toArray, List.nil_append, List.cons_append]
  gi_wp2
  refine ⟨trivial, ?_⟩
  refine (callsIn_wide.2 (HL.out _ (by (repeat (first | (with_reducible exact Below.refl _ _) | (with_reducible assumption) | (with_reducible refine below_alloc ?_ _) | (with_reducible refine below_drewN ?_ _) | (with_reducible refine Below.drew ?_) | (with_reducible refine below_then ?_ (by with_reducible assumption)) | (with_reducible refine Below.setCell ?_ (by go_size) _)))))).mono ?_
  rintro e w2 ⟨v, rfl, ho2, hb2⟩
  obtain ⟨bL, cL, rfl, _, _⟩ := own_rd ho2
  have bD := ((((Blk.new w 23 #[.int .i64 d.x, .int .i64 d.y, .int .i64 d.z]).alloc (.cells #[.int .i64 d.n] 3)).alloc (.cells #[.slice bo b.length co] 31)).alloc (.cells #[.int .i64 0] 3)).below hb2
  have bN := (((Blk.new (w.alloc (.cells #[.int .i64 d.x, .int .i64 d.y, .int .i64 d.z] 23)) 3 #[.int .i64 d.n]).alloc (.cells #[.slice bo b.length co] 31)).alloc (.cells #[.int .i64 0] 3)).below hb2
  have bO := ((Blk.new ((w.alloc (.cells #[.int .i64 d.x, .int .i64 d.y, .int .i64 d.z] 23)).alloc (.cells #[.int .i64 d.n] 3)) 31 #[.slice bo b.length co]).alloc (.cells #[.int .i64 0] 3)).below hb2
  have bM := (Blk.new (((w.alloc (.cells #[.int .i64 d.x, .int .i64 d.y, .int .i64 d.z] 23)).alloc (.cells #[.int .i64 d.n] 3)).alloc (.cells #[.slice bo b.length co] 31)) 3 #[.int .i64 0]).below hb2
  have HB2 := Lib.hid (below_then (show Below w.heap.size w ((((w.alloc (.cells #[.int .i64 d.x, .int .i64 d.y, .int .i64 d.z] 23)).alloc (.cells #[.int .i64 d.n] 3)).alloc (.cells #[.slice bo b.length co] 31)).alloc (.cells #[.int .i64 0] 3)) by (repeat (first | (with_reducible exact Below.refl _ _) | (with_reducible assumption) | (with_reducible refine below_alloc ?_ _) | (with_reducible refine below_drewN ?_ _) | (with_reducible refine Below.drew ?_) | (with_reducible refine below_then ?_ (by with_reducible assumption)) | (with_reducible refine Below.setCell ?_ (by go_size) _)))) hb2)
  simp only [World.size_alloc] at bD bN bO bM ho2
  have HD := Lib.hid bD
  have HN := Lib.hid bN
  have HO := Lib.hid bO
  have HM := Lib.hid bM
  have HR := Lib.hid ho2
  have z2 := bM.lt
  clear bD bN bO bM ho2 hb2 HL
  gi_wp2
  refine wpIn_loop (fun a' wr => ∃ (k : Nat) (ds : List Nat) (u12 u13 u14 u15 u25 u26 u27 u28 u29 u30 u31 u32 u33 u34 u35 u36 u37 u38 u39 u40 u41 u42 : Value), (k ≤ L.length ∧ KpD w.heap.size (w.heap.size + 1 + 1 + 1) w2 wr ∧ KdAll wr w.heap.size ds ∧ Blk wr (w.heap.size + 1 + 1 + 1) 3 #[.int .i64 (openTo d b (L.take k) : Nat)]) ∧ a' = { tmps := #[.agg #[.int .i64 d.x, .int .i64 d.y, .int .i64 d.z], .int .i64 d.n, .slice bi a.length ci, .slice bo b.length co, .pointer (some ⟨w.heap.size, 0, none⟩), .pointer (some ⟨w.heap.size + 1, 0, none⟩), undef, .pointer (some ⟨w.heap.size + 1 + 1, 0, none⟩), .pointer (some ⟨w.heap.size + 1 + 1 + 1, 0, none⟩), .slice bL L.length cL, .int .i64 0, undef, u12, u13, u14, u15, .tuple #[.slice bL L.length cL, .int .i64 0], .int .i64 d.n, .slice bi a.length ci, .tuple #[.slice bL L.length cL, .int .i64 0], .slice bL L.length cL, .int .i64 0, .slice bL L.length cL, .int .i64 L.length, .int .i64 (k : Nat), u25, u26, u27, u28, u29, u30, u31, u32, u33, u34, u35, u36, u37, u38, u39, u40, u41, u42], defers := ds.map kdRec })
    (fun a' _ => L.length - (intOf (a'.tmps.getD 24 undef)).toNat) ?start ?round
  case start =>
    refine ⟨0, [], ?_⟩
    (repeat apply Exists.intro)
    exact ⟨⟨Nat.zero_le _, kpD_refl _ _ _, KdAll.nil _ _, HM.out⟩, rfl⟩
  case round =>
    rintro a' wr ⟨k, ds, u12, u13, u14, u15, u25, u26, u27, u28, u29, u30, u31, u32, u33, u34, u35, u36, u37, u38, u39, u40, u41, u42, ⟨hk, hkp, hkd, hbm⟩, rfl⟩
    have HKP := Lib.hid hkp
    have HKD := Lib.hid hkd
    have HBM := Lib.hid hbm
    by_cases hlt : k < L.length
    · obtain ⟨bx, cx, e, rd, _⟩ := own_rd (hkp.row HR.out (by omega))
      cases e
      obtain ⟨g, off, e, hc⟩ := rd k _ (getElem?_map_int hlt)
      subst e
      obtain ⟨m, hm⟩ : ∃ m, m = L[k] := ⟨_, rfl⟩
      obtain ⟨m0, m1⟩ := HI.out m (by rw [hm]; exact List.getElem_mem hlt)
      rw [← hm] at hc
      have htk := Lib.hid (show openTo d b (L.take (k + 1)) = openTo d b (L.take k) + hits b (sidesV d m) by rw [List.take_succ_eq_append_getElem hlt, openTo_snoc, ← hm])
      have hto := openTo_le d b (L.take k)
      rw [List.length_take] at hto
      have hd4 := (hkp.blk HD.out (by omega)).dims
      have c0 := hd4.c0
      have c1 := hd4.c1
      have c2 := hd4.c2
      have zr := hkp.below.size
      clear hkp hkd hbm hm rd hd4
      gi_wp2_with (refine ⟨trivial, ?_⟩; gi_at_call 83; refine (sides_in _ _ _ _).mono ?_; rintro e w' ⟨rfl, rfl⟩)
      have bd0 := (Blk.new wr 23 #[.int .i64 d.x, .int .i64 d.y, .int .i64 d.z]).alloc (.cells #[.int .i64 m] 3)
      have bm0 := Blk.new (wr.alloc (.cells #[.int .i64 d.x, .int .i64 d.y, .int .i64 d.z] 23)) 3 #[.int .i64 m]
      simp only [World.size_alloc] at bm0
      have k0 := kpD_t HKP.out (kpD_t (kpD_alloc (B := (w.heap.size + 1 + 1 + 1)) (.cells #[.int .i64 d.x, .int .i64 d.y, .int .i64 d.z] 23) (by omega)) (kpD_alloc (B := (w.heap.size + 1 + 1 + 1)) (.cells #[.int .i64 m] 3) (by rw [World.size_alloc]; omega)))
      have hb0 : Below wr.heap.size wr ((wr.alloc (.cells #[.int .i64 d.x, .int .i64 d.y, .int .i64 d.z] 23)).alloc (.cells #[.int .i64 m] 3)) := by (repeat (first | (with_reducible exact Below.refl _ _) | (with_reducible assumption) | (with_reducible refine below_alloc ?_ _) | (with_reducible refine below_drewN ?_ _) | (with_reducible refine Below.drew ?_) | (with_reducible refine below_then ?_ (by with_reducible assumption)) | (with_reducible refine Below.setCell ?_ (by go_size) _)))
      have d0 := HKD.out.below hb0
      have b0 := HBM.out.below hb0
      have zW : ((wr.alloc (.cells #[.int .i64 d.x, .int .i64 d.y, .int .i64 d.z] 23)).alloc (.cells #[.int .i64 m] 3)).heap.size = wr.heap.size + 2 := by simp
      have hdl := d0.lt
      obtain ⟨W0, hW0⟩ : ∃ W0, (wr.alloc (.cells #[.int .i64 d.x, .int .i64 d.y, .int .i64 d.z] 23)).alloc (.cells #[.int .i64 m] 3) = W0 := ⟨_, rfl⟩
      rw [hW0] at bd0 bm0 k0 d0 b0 zW hdl ⊢
      clear hW0 hb0 c0 c1 c2 hc
      have zn := HB2.out.size
      refine wpIn_rangeFunc_ownH rfl (by omega) (gf := 118) (lb := #[.pointer (some ⟨wr.heap.size, 0, none⟩), .pointer (some ⟨wr.heap.size + 1, 0, none⟩)]) rfl trivial (enters_of Tryd.func118 (by kernel_rfl) rfl)
        (sides_stops _ (by omega) wr.heap.size (wr.heap.size + 1) (w.heap.size + 1 + 1 + 1) w.heap.size d m HDM.out m0 m1 (by omega) (by omega) W0 bd0 bm0) kpD_t (kpD_b (by omega)) (Below.refl _ _) (fun _ => rfl)
        (fun pre W => (KpD w.heap.size (w.heap.size + 1 + 1 + 1) w2 W ∧ KdAll W w.heap.size ds) ∧ Blk W (w.heap.size + 1 + 1 + 1) 3 #[.int .i64 (openTo d b (L.take k) + hits b pre : Nat)])
        (fun _ _ _ => False)
        (OwnFrom.and (OwnFrom.and (fun s A B row hs hg hr => kpD_own hs hg hr (by omega) (by omega)) (fun s A B row hs hg hr => hs.own hdl hg (fun r e => (hr r e).1))) (fun s A B row hs hg hr => kd_own hs hg hr))
        (fun _ _ _ _ _ hs _ _ => hs)
        ⟨⟨k0, d0⟩, b0⟩
        (fun x a' _ => a' = { tmps := #[.agg #[.int .i64 d.x, .int .i64 d.y, .int .i64 d.z], .int .i64 d.n, .slice bi a.length ci, .slice bo b.length co, .pointer (some ⟨w.heap.size, 0, none⟩), .pointer (some ⟨w.heap.size + 1, 0, none⟩), undef, .pointer (some ⟨w.heap.size + 1 + 1, 0, none⟩), .pointer (some ⟨w.heap.size + 1 + 1 + 1, 0, none⟩), .slice (some ⟨g, off, none⟩) L.length cL, .int .i64 0, undef, .int .i64 m, .int .i64 x, u14, u15, .tuple #[.slice (some ⟨g, off, none⟩) L.length cL, .int .i64 0], .int .i64 d.n, .slice bi a.length ci, .tuple #[.slice (some ⟨g, off, none⟩) L.length cL, .int .i64 0], .slice (some ⟨g, off, none⟩) L.length cL, .int .i64 0, .slice (some ⟨g, off, none⟩) L.length cL, .int .i64 L.length, .int .i64 (k : Nat), .bool true, .pointer (some ⟨g, off + k, none⟩), .int .i64 m, .agg #[.int .i64 d.x, .int .i64 d.y, .int .i64 d.z], .int .i64 m, .func (.func 118) #[] #[.pointer (some ⟨wr.heap.size, 0, none⟩), .pointer (some ⟨wr.heap.size + 1, 0, none⟩)], .int .i64 x, u32, u33, u34, u35, u36, u37, u38, u39, u40, u41, u42], defers := [] })
        (fun x a' _ X Y row hs hg hr => hs)
        ?assign ?body ?done ?stop
      case assign =>
        rintro l pre x W K hs hK
        dsimp only [encS]
        gi_wp2
        exact hK _ _ (KeepsOthers.refl _ |>.from _) (kpD_refl _ _ _) hs rfl
      case body =>
        rintro l pre x a' W hl ⟨r, hr⟩ ⟨⟨hK, hD⟩, bM⟩ rfl hlt6
        have n0 := (hK.blk HN.out (by omega)).cell 0 _ rfl
        have o0 := (hK.blk HO.out (by omega)).cell 0 _ rfl
        have hBW := HB2.out.trans hK.below
        have HS := Lib.hid (HH.out x W hBW)
        have hsW := hBW.size
        have hpre := hits_snoc b pre x
        rw [HV.out] at HS
        have hcp : hits b pre ≤ pre.length := List.countP_le_length
        cases hp : hasI b x with
        | true =>
          rw [hp] at HS hpre
          gi_wp2
          refine ⟨trivial, ?_⟩
          refine (CallsIn.inRound l (callsIn_wide.2 HS.out)).mono ?_
          rintro e w1 ⟨rfl, hb1⟩
          have bM1 := bM.below hb1
          have hD1 := hD.below hb1
          have hk1 := kd_keeps hb1
          have hc1 := kpD_below (B := (w.heap.size + 1 + 1 + 1)) hsW hb1
          have hK1 := kpD_t hK hc1
          have cM := bM1.cell 0 _ rfl
          have fM := bM1.frozen 0
          clear n0 o0 HS hb1 hr bM hD hK
          have hcv : ((openTo d b (L.take k) + hits b (pre ++ [x]) : Nat) : Int) = ((openTo d b (L.take k) + hits b pre : Nat) : Int) + 1 := by rw [hpre]; simp; omega
          gi_wp2
          refine ⟨(hk1.from _).trans ((KeepsOthers.setCell _ _ _).from _), kpD_t hc1 (kpD_set _ (by omega)), ⟨⟨kpD_t hK1 (kpD_set _ (by omega)), hD1.set _ bM1⟩, ?_⟩⟩
          have hb9 := bM1.set 0 (.int .i64 (((openTo d b (L.take k) + hits b pre : Nat) : Int) + 1))
          rw [hcv]
          exact hb9
        | false =>
          rw [hp] at HS hpre
          gi_wp2
          refine ⟨trivial, ?_⟩
          refine (CallsIn.inRound l (callsIn_wide.2 HS.out)).mono ?_
          rintro e w1 ⟨rfl, hb1⟩
          have bM1 := bM.below hb1
          have hD1 := hD.below hb1
          have hk1 := kd_keeps hb1
          have hc1 := kpD_below (B := (w.heap.size + 1 + 1 + 1)) hsW hb1
          have hK1 := kpD_t hK hc1
          clear n0 o0 HS hb1 hr bM hD hK
          gi_wp2
          exact ⟨hk1.from _, hc1, ⟨⟨hK1, hD1⟩, by rw [hpre]; exact bM1⟩⟩
      case done =>
        rintro D ys W hD rfl ⟨⟨hK, hdd⟩, bM⟩ hKD
        have hE := hdd.cons (n₀ := w.heap.size) (D := D) (by omega) (fun E hE => by have := hdl E hE; omega) hKD
        rw [← htk.out] at bM
        gi_wp2
        refine ⟨⟨k + 1, D :: ds, ?_⟩, ?measure⟩
        · (repeat apply Exists.intro)
          exact ⟨⟨by omega, hK, hE, bM⟩, rfl⟩
        case measure => (simp [intOf] <;> omega)
      case stop =>
        rintro D c pre W _ _ h _
        exact h.elim
    · obtain rfl : k = L.length := by omega
      have zr := hkp.below.size
      have zn := HB2.out.size
      rw [List.take_length] at hbm
      have HBM := Lib.hid hbm
      clear hkp hkd hbm
      gi_wp2
      refine kd_leaves (by simp) ds _ HKD.out (by omega) ?_
      intro W' hb' hc'
      have cF := (show Blk W' (w.heap.size + 1 + 1 + 1) 3 #[.int .i64 (openTo d b L : Nat)] from hc' _ _ HBM.out rfl).cell 0 _ rfl
      exact ⟨.int .i64 (openTo d b L : Nat), by simp [results, Tryd.f57, go_sem, cF], rfl, (HB2.out.trans HKP.out.below).trans hb'⟩
end

section
open Go.RowKit Go.Shelf

set_option maxRecDepth 100000 in set_option maxHeartbeats 4000000 in
theorem score_checked2 (d : V3) (ba bb : Option Addr) (ca cb : Nat) (a b : List Nat) (w : World) (B : Nat) (ha : SetIn w ba a) (hb : SetIn w bb b)
    (h0 : w.cell? ⟨B, 0, none⟩ = some (.slice ba a.length ca)) (h1 : w.cell? ⟨B, 1, none⟩ = some (.slice bb b.length cb)) :
    Calls Tryd.prog 56 #[.agg #[.int .i64 d.x, .int .i64 d.y, .int .i64 d.z], .slice (some ⟨B, 0, none⟩) 2 2] w (RB w (.tuple #[.int .i64 d.many, .int .i64 (openE d a b)])) := by
  have HA := Lib.hid (fun W (hw : Below w.heap.size w W) => set_Check d.n ba ca a W (ha.keep hw).rd ha.len ha.fit)
  have HB := Lib.hid (fun W (hw : Below w.heap.size w W) => set_Check d.n bb cb b W (hb.keep hw).rd hb.len hb.fit)
  have HM := Lib.hid (fun W => pos_Many d W)
  have HE := Lib.hid (show openE d a b = if d.may then (if sChk d.n a = 0 then (if sChk d.n b = 0 then 0 else 8) else 8) else 8 from rfl)
  have H0 := Lib.hid (fun W (hw : Below w.heap.size w W) => (hw.cell (p := ⟨B, 0, none⟩) (World.block_lt_of_cell? w ⟨B, 0, none⟩ h0)).trans h0)
  have H1 := Lib.hid (fun W (hw : Below w.heap.size w W) => (hw.cell (p := ⟨B, 1, none⟩) (World.block_lt_of_cell? w ⟨B, 1, none⟩ h1)).trans h1)
  clear ha hb h0 h1
  by_cases hd : d.may
  · have hm : d.many = d.n := V3.many_ok hd
    rw [hm, V3.err_ok hd] at HM
    rw [if_pos hd] at HE
    rw [hm]
    clear hm hd
    by_cases hz : sChk d.n a = 0
    · rw [if_pos hz] at HE
      rw [hz] at HA
      clear hz
      by_cases hy : sChk d.n b = 0
      · rw [if_pos hy] at HE
        rw [hy] at HB
        clear hy
        go_enter Tryd.func56, Tryd.ntmps56
        go_wp2_with ((with_reducible refine (HM.out _).mono ?_); rintro e w1 ⟨rfl, hb1⟩; (obtain ⟨hc1, hf1⟩ := bcell hb1; have hz1 := hb1.size; (try simp at hz1); have hB : Below w.heap.size w w1 := (by (repeat (first | (with_reducible exact Below.refl _ _) | (with_reducible assumption) | (with_reducible refine below_alloc ?_ _) | (with_reducible refine below_drewN ?_ _) | (with_reducible refine Below.drew ?_) | (with_reducible refine below_then ?_ (by with_reducible assumption)) | (with_reducible refine Below.setCell ?_ (by go_size) _)))); obtain ⟨hcB, hfB⟩ := bcell hB; (try have z0 : w.heap.size < w1.heap.size := by omega); (try have z1 : w.heap.size + 1 < w1.heap.size := by omega); (try have z2 : w.heap.size + 2 < w1.heap.size := by omega); (try have z3 : w.heap.size + 3 < w1.heap.size := by omega)))
        have c0 := H0.out w1 hB
        have c1 := H1.out w1 hB
        refine wp_loop_rounds 3 ?_
        rw [rounds_succ]
        go_wp2_with (first | ((with_reducible refine (HA.out _ (by (repeat (first | (with_reducible exact Below.refl _ _) | (with_reducible assumption) | (with_reducible refine below_alloc ?_ _) | (with_reducible refine below_drewN ?_ _) | (with_reducible refine Below.drew ?_) | (with_reducible refine below_then ?_ (by with_reducible assumption)) | (with_reducible refine Below.setCell ?_ (by go_size) _))))).mono ?_); rintro e w3 ⟨rfl, hw3⟩; have hw3 := hw3.symm; subst hw3) | ((with_reducible refine (HB.out _ (by (repeat (first | (with_reducible exact Below.refl _ _) | (with_reducible assumption) | (with_reducible refine below_alloc ?_ _) | (with_reducible refine below_drewN ?_ _) | (with_reducible refine Below.drew ?_) | (with_reducible refine below_then ?_ (by with_reducible assumption)) | (with_reducible refine Below.setCell ?_ (by go_size) _))))).mono ?_); rintro e w3 ⟨rfl, hw3⟩; have hw3 := hw3.symm; subst hw3))
        rw [rounds_succ]
        go_wp2_with (first | ((with_reducible refine (HA.out _ (by (repeat (first | (with_reducible exact Below.refl _ _) | (with_reducible assumption) | (with_reducible refine below_alloc ?_ _) | (with_reducible refine below_drewN ?_ _) | (with_reducible refine Below.drew ?_) | (with_reducible refine below_then ?_ (by with_reducible assumption)) | (with_reducible refine Below.setCell ?_ (by go_size) _))))).mono ?_); rintro e w3 ⟨rfl, hw3⟩; have hw3 := hw3.symm; subst hw3) | ((with_reducible refine (HB.out _ (by (repeat (first | (with_reducible exact Below.refl _ _) | (with_reducible assumption) | (with_reducible refine below_alloc ?_ _) | (with_reducible refine below_drewN ?_ _) | (with_reducible refine Below.drew ?_) | (with_reducible refine below_then ?_ (by with_reducible assumption)) | (with_reducible refine Below.setCell ?_ (by go_size) _))))).mono ?_); rintro e w3 ⟨rfl, hw3⟩; have hw3 := hw3.symm; subst hw3))
        rw [rounds_succ]
        go_wp2_with fail
        go_returns
        exact ⟨by rw [HE.out]; rfl, hB⟩
      · rw [if_neg hy] at HE
        have hy1 : (sChk d.n b == 0) = false := by simpa using hy
        have hy2 : (sChk d.n b != 0) = true := by simpa using hy
        clear hy
        go_enter Tryd.func56, Tryd.ntmps56
        go_wp2_with ((with_reducible refine (HM.out _).mono ?_); rintro e w1 ⟨rfl, hb1⟩; (obtain ⟨hc1, hf1⟩ := bcell hb1; have hz1 := hb1.size; (try simp at hz1); have hB : Below w.heap.size w w1 := (by (repeat (first | (with_reducible exact Below.refl _ _) | (with_reducible assumption) | (with_reducible refine below_alloc ?_ _) | (with_reducible refine below_drewN ?_ _) | (with_reducible refine Below.drew ?_) | (with_reducible refine below_then ?_ (by with_reducible assumption)) | (with_reducible refine Below.setCell ?_ (by go_size) _)))); obtain ⟨hcB, hfB⟩ := bcell hB; (try have z0 : w.heap.size < w1.heap.size := by omega); (try have z1 : w.heap.size + 1 < w1.heap.size := by omega); (try have z2 : w.heap.size + 2 < w1.heap.size := by omega); (try have z3 : w.heap.size + 3 < w1.heap.size := by omega)))
        have c0 := H0.out w1 hB
        have c1 := H1.out w1 hB
        refine wp_loop_rounds 3 ?_
        rw [rounds_succ]
        go_wp2_with (first | ((with_reducible refine (HA.out _ (by (repeat (first | (with_reducible exact Below.refl _ _) | (with_reducible assumption) | (with_reducible refine below_alloc ?_ _) | (with_reducible refine below_drewN ?_ _) | (with_reducible refine Below.drew ?_) | (with_reducible refine below_then ?_ (by with_reducible assumption)) | (with_reducible refine Below.setCell ?_ (by go_size) _))))).mono ?_); rintro e w3 ⟨rfl, hw3⟩; have hw3 := hw3.symm; subst hw3) | ((with_reducible refine (HB.out _ (by (repeat (first | (with_reducible exact Below.refl _ _) | (with_reducible assumption) | (with_reducible refine below_alloc ?_ _) | (with_reducible refine below_drewN ?_ _) | (with_reducible refine Below.drew ?_) | (with_reducible refine below_then ?_ (by with_reducible assumption)) | (with_reducible refine Below.setCell ?_ (by go_size) _))))).mono ?_); rintro e w3 ⟨rfl, hw3⟩; have hw3 := hw3.symm; subst hw3))
        rw [rounds_succ]
        go_wp2_with (first | ((with_reducible refine (HA.out _ (by (repeat (first | (with_reducible exact Below.refl _ _) | (with_reducible assumption) | (with_reducible refine below_alloc ?_ _) | (with_reducible refine below_drewN ?_ _) | (with_reducible refine Below.drew ?_) | (with_reducible refine below_then ?_ (by with_reducible assumption)) | (with_reducible refine Below.setCell ?_ (by go_size) _))))).mono ?_); rintro e w3 ⟨rfl, hw3⟩; have hw3 := hw3.symm; subst hw3) | ((with_reducible refine (HB.out _ (by (repeat (first | (with_reducible exact Below.refl _ _) | (with_reducible assumption) | (with_reducible refine below_alloc ?_ _) | (with_reducible refine below_drewN ?_ _) | (with_reducible refine Below.drew ?_) | (with_reducible refine below_then ?_ (by with_reducible assumption)) | (with_reducible refine Below.setCell ?_ (by go_size) _))))).mono ?_); rintro e w3 ⟨rfl, hw3⟩; have hw3 := hw3.symm; subst hw3))
        rw [rounds_succ]
        go_wp2_with fail
        go_returns
        exact ⟨by rw [HE.out]; rfl, hB⟩
    · rw [if_neg hz] at HE
      have hy1 : (sChk d.n a == 0) = false := by simpa using hz
      have hy2 : (sChk d.n a != 0) = true := by simpa using hz
      clear hz
      go_enter Tryd.func56, Tryd.ntmps56
      go_wp2_with ((with_reducible refine (HM.out _).mono ?_); rintro e w1 ⟨rfl, hb1⟩; (obtain ⟨hc1, hf1⟩ := bcell hb1; have hz1 := hb1.size; (try simp at hz1); have hB : Below w.heap.size w w1 := (by (repeat (first | (with_reducible exact Below.refl _ _) | (with_reducible assumption) | (with_reducible refine below_alloc ?_ _) | (with_reducible refine below_drewN ?_ _) | (with_reducible refine Below.drew ?_) | (with_reducible refine below_then ?_ (by with_reducible assumption)) | (with_reducible refine Below.setCell ?_ (by go_size) _)))); obtain ⟨hcB, hfB⟩ := bcell hB; (try have z0 : w.heap.size < w1.heap.size := by omega); (try have z1 : w.heap.size + 1 < w1.heap.size := by omega); (try have z2 : w.heap.size + 2 < w1.heap.size := by omega); (try have z3 : w.heap.size + 3 < w1.heap.size := by omega)))
      have c0 := H0.out w1 hB
      have c1 := H1.out w1 hB
      refine wp_loop_rounds 3 ?_
      rw [rounds_succ]
      go_wp2_with (first | ((with_reducible refine (HA.out _ (by (repeat (first | (with_reducible exact Below.refl _ _) | (with_reducible assumption) | (with_reducible refine below_alloc ?_ _) | (with_reducible refine below_drewN ?_ _) | (with_reducible refine Below.drew ?_) | (with_reducible refine below_then ?_ (by with_reducible assumption)) | (with_reducible refine Below.setCell ?_ (by go_size) _))))).mono ?_); rintro e w3 ⟨rfl, hw3⟩; have hw3 := hw3.symm; subst hw3) | ((with_reducible refine (HB.out _ (by (repeat (first | (with_reducible exact Below.refl _ _) | (with_reducible assumption) | (with_reducible refine below_alloc ?_ _) | (with_reducible refine below_drewN ?_ _) | (with_reducible refine Below.drew ?_) | (with_reducible refine below_then ?_ (by with_reducible assumption)) | (with_reducible refine Below.setCell ?_ (by go_size) _))))).mono ?_); rintro e w3 ⟨rfl, hw3⟩; have hw3 := hw3.symm; subst hw3))
      rw [rounds_succ]
      go_wp2_with (first | ((with_reducible refine (HA.out _ (by (repeat (first | (with_reducible exact Below.refl _ _) | (with_reducible assumption) | (with_reducible refine below_alloc ?_ _) | (with_reducible refine below_drewN ?_ _) | (with_reducible refine Below.drew ?_) | (with_reducible refine below_then ?_ (by with_reducible assumption)) | (with_reducible refine Below.setCell ?_ (by go_size) _))))).mono ?_); rintro e w3 ⟨rfl, hw3⟩; have hw3 := hw3.symm; subst hw3) | ((with_reducible refine (HB.out _ (by (repeat (first | (with_reducible exact Below.refl _ _) | (with_reducible assumption) | (with_reducible refine below_alloc ?_ _) | (with_reducible refine below_drewN ?_ _) | (with_reducible refine Below.drew ?_) | (with_reducible refine below_then ?_ (by with_reducible assumption)) | (with_reducible refine Below.setCell ?_ (by go_size) _))))).mono ?_); rintro e w3 ⟨rfl, hw3⟩; have hw3 := hw3.symm; subst hw3))
      rw [rounds_succ]
      go_wp2_with fail
      go_returns
      exact ⟨by rw [HE.out]; rfl, hB⟩
  · rw [V3.err_no hd] at HM
    rw [if_neg hd] at HE
    clear hd
    go_enter Tryd.func56, Tryd.ntmps56
    go_wp2_with ((with_reducible refine (HM.out _).mono ?_); rintro e w1 ⟨rfl, hb1⟩; (obtain ⟨hc1, hf1⟩ := bcell hb1; have hz1 := hb1.size; (try simp at hz1); have hB : Below w.heap.size w w1 := (by (repeat (first | (with_reducible exact Below.refl _ _) | (with_reducible assumption) | (with_reducible refine below_alloc ?_ _) | (with_reducible refine below_drewN ?_ _) | (with_reducible refine Below.drew ?_) | (with_reducible refine below_then ?_ (by with_reducible assumption)) | (with_reducible refine Below.setCell ?_ (by go_size) _)))); obtain ⟨hcB, hfB⟩ := bcell hB; (try have z0 : w.heap.size < w1.heap.size := by omega); (try have z1 : w.heap.size + 1 < w1.heap.size := by omega); (try have z2 : w.heap.size + 2 < w1.heap.size := by omega); (try have z3 : w.heap.size + 3 < w1.heap.size := by omega)))
    have c0 := H0.out w1 hB
    have c1 := H1.out w1 hB
    refine wp_loop_rounds 3 ?_
    rw [rounds_succ]
    go_wp2_with fail
    rw [rounds_succ]
    go_wp2_with fail
    rw [rounds_succ]
    go_wp2_with fail
    go_returns
    exact ⟨by rw [HE.out]; rfl, hB⟩
theorem tab_keep' {w W : World} (hT : TabAt 0 Lib.deBruijn64tab w) (hg : 0 < w.heap.size) (hb : Below w.heap.size w W) : TabAt 0 Lib.deBruijn64tab W ∧ 0 < W.heap.size :=
  ⟨fun j hj => (hb.cell (p := ⟨0, j, none⟩) hg).trans (hT j hj), Nat.lt_of_lt_of_le hg hb.size⟩
set_option maxRecDepth 100000 in set_option maxHeartbeats 4000000 in
theorem score_Open (d : V3) (ba bb : Option Addr) (ca cb : Nat) (a b : List Nat) (w : World) (ha : SetIn w ba a) (hb : SetIn w bb b) (hT : TabAt 0 Lib.deBruijn64tab w) (hg : 0 < w.heap.size) :
    Calls Tryd.prog 24 #[.agg #[.int .i64 d.x, .int .i64 d.y, .int .i64 d.z], .slice ba a.length ca, .slice bb b.length cb] w (RB w (.tuple #[.int .i64 (openV d a b), .int .i64 (openE d a b)])) := by
  have HC := Lib.hid (fun W (hw : Below w.heap.size w W) B (h0 : W.cell? ⟨B, 0, none⟩ = some (.slice ba a.length ca)) (h1 : W.cell? ⟨B, 1, none⟩ = some (.slice bb b.length cb)) => score_checked2 d ba bb ca cb a b W B (ha.keep hw) (hb.keep hw) h0 h1)
  rcases openE_08 d a b with h | h
  · obtain ⟨hd, hca, hcb⟩ := openE_0 h
    have HO := Lib.hid (fun W (hw : Below w.heap.size w W) => score_open d ba bb ca cb a b W hd (ha.keep hw) (hb.keep hw) hca hcb (tab_keep' hT hg hw).1 (tab_keep' hT hg hw).2)
    have hv : openV d a b = (openTo d b (nums a) : Nat) := if_pos h
    rw [V3.many_ok hd, h] at HC
    rw [hv, h]
    clear ha hb hT hg hca hcb hv h hd
    go_enter Tryd.func24, Tryd.ntmps24
    go_wp2_with ((with_reducible refine (HC.out _ (by (repeat (first | (with_reducible exact Below.refl _ _) | (with_reducible assumption) | (with_reducible refine below_alloc ?_ _) | (with_reducible refine below_drewN ?_ _) | (with_reducible refine Below.drew ?_) | (with_reducible refine below_then ?_ (by with_reducible assumption)) | (with_reducible refine Below.setCell ?_ (by go_size) _)))) _ (by go_simp) (by go_simp)).mono ?_); rintro e w1 ⟨rfl, hb1⟩; (obtain ⟨hc1, hf1⟩ := bcell hb1; have hz1 := hb1.size; (try simp at hz1); have hB : Below w.heap.size w w1 := (by (repeat (first | (with_reducible exact Below.refl _ _) | (with_reducible assumption) | (with_reducible refine below_alloc ?_ _) | (with_reducible refine below_drewN ?_ _) | (with_reducible refine Below.drew ?_) | (with_reducible refine below_then ?_ (by with_reducible assumption)) | (with_reducible refine Below.setCell ?_ (by go_size) _)))); obtain ⟨hcB, hfB⟩ := bcell hB; (try have z0 : w.heap.size < w1.heap.size := by omega); (try have z1 : w.heap.size + 1 < w1.heap.size := by omega); (try have z2 : w.heap.size + 2 < w1.heap.size := by omega); (try have z3 : w.heap.size + 3 < w1.heap.size := by omega)))
    refine (HO.out _ hB).mono ?_
    rintro e w2 ⟨rfl, hb2⟩
    have hB2 := below_then hB hb2
    go_wp2_with fail
    go_returns
    exact ⟨rfl, hB2⟩
  · have hv : openV d a b = 0 := if_neg (by rw [h]; decide)
    rw [h] at HC
    rw [hv, h]
    clear ha hb hT hg hv h
    go_enter Tryd.func24, Tryd.ntmps24
    go_wp2_with ((with_reducible refine (HC.out _ (by (repeat (first | (with_reducible exact Below.refl _ _) | (with_reducible assumption) | (with_reducible refine below_alloc ?_ _) | (with_reducible refine below_drewN ?_ _) | (with_reducible refine Below.drew ?_) | (with_reducible refine below_then ?_ (by with_reducible assumption)) | (with_reducible refine Below.setCell ?_ (by go_size) _)))) _ (by go_simp) (by go_simp)).mono ?_); rintro e w1 ⟨rfl, hb1⟩; (obtain ⟨hc1, hf1⟩ := bcell hb1; have hz1 := hb1.size; (try simp at hz1); have hB : Below w.heap.size w w1 := (by (repeat (first | (with_reducible exact Below.refl _ _) | (with_reducible assumption) | (with_reducible refine below_alloc ?_ _) | (with_reducible refine below_drewN ?_ _) | (with_reducible refine Below.drew ?_) | (with_reducible refine below_then ?_ (by with_reducible assumption)) | (with_reducible refine Below.setCell ?_ (by go_size) _)))); obtain ⟨hcB, hfB⟩ := bcell hB; (try have z0 : w.heap.size < w1.heap.size := by omega); (try have z1 : w.heap.size + 1 < w1.heap.size := by omega); (try have z2 : w.heap.size + 2 < w1.heap.size := by omega); (try have z3 : w.heap.size + 3 < w1.heap.size := by omega)))
    all_goals
      go_returns
      exact ⟨rfl, hB⟩
end
end
end Go.Proofs.YthabpiphfaedaaaDoor
