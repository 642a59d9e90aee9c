/- PlaceMesh: the same box as a mesh takes none but what it takes as a torus; both ends of its cables are its own; it passes none: the call returns true. -/
import Derived.Test.YthabpiphfaedaaaDoorPlPass
import Derived.Test.YthabpiphfaedaaaDoorPlApart
import Derived.Test.YthabpiphfaedaaaDoorPlCount
import Derived.Test.YthabpiphfaedaaaDoorRowPlace
import Derived.Test.YthabpiphfaedaaaDoorRowTab
namespace Go.Proofs.YthabpiphfaedaaaDoor
open Go.ChangeShapes Go.WideShapes Go.ChangeAt Go.RowKit Go.Shelf

theorem tab_keep7 {w W : World} (hT : TabAt 0 Lib.deBruijn64tab w) (hg : 0 < w.heap.size) (hb : Below w.heap.size w W) : TabAt 0 Lib.deBruijn64tab W ∧ 0 < W.heap.size :=
  ⟨fun j hj => (hb.cell (p := ⟨0, j, none⟩) hg).trans (hT j hj), Nat.lt_of_lt_of_le hg hb.size⟩
theorem has_of {n : Int} {ws : List Nat} {l : List Int} {x : Int} (h : sChk n ws = 0) (ht : ∀ i : Nat, there ws i = decide ((i : Int) ∈ l)) (hx : x ∈ l) (h0 : 0 ≤ x) : hasV n ws x = true := by
  rw [hasV, if_pos h]
  unfold hasI
  rw [decide_eq_true h0, ht, Int.toNat_of_nonneg h0, decide_eq_true hx]
  rfl
theorem mesh_pass {d : V3} {p : Pl} (h : plChk d p.mesh = 0) : passV d p.mesh = [] := by
  have hf := (pass_facts h).some
  have : p.mesh.loose d 3 = false := by
    unfold Pl.loose
    rw [List.any_eq_false]
    intro j hj
    have hj := List.mem_range.1 hj
    match j, hj with
    | 0, _ => exact fun h => by cases h
    | 1, _ => exact fun h => by cases h
    | 2, _ => exact fun h => by cases h
  rw [this] at hf
  have h2 := of_decide_eq_false hf.symm
  exact List.eq_nil_of_length_eq_zero (by omega)
theorem mesh_sub {d : V3} {p : Pl} (hd : d.may) (hb : p.b.may d) (x : Int) (hx : x ∈ cabsV d p.mesh) : x ∈ cabsV d p := by
  obtain ⟨k, m, hk, hm, e, h1, h2, h3⟩ := (mem_cabsV (p := p.mesh) hd hb x).1 hx
  refine (mem_cabsV hd hb x).2 ⟨k, m, hk, hm, e, h1, h2, ?_⟩
  rcases h3 with h3 | h3
  · have : p.mesh.tor k = false := by
      match k, hk with
      | 0, _ => rfl
      | 1, _ => rfl
      | 2, _ => rfl
    rw [this] at h3
    cases h3
  · exact .inr h3
theorem mesh_in {d : V3} {p : Pl} (h : plChk d p = 0) : (decide (sChk2 (3 * d.n) (linksV d p.mesh) (linksV d p) = 0) && !anyNZ (joinIf lessW (3 * d.n) (linksV d p.mesh) (linksV d p))) = true ∧ sChk2 (3 * d.n) (linksV d p.mesh) (linksV d p) = 0 := by
  have f1 := pl_facts h
  have f2 := pl_facts (mesh_chk h)
  have hc := sChk2_of f2.lChk f1.lChk
  refine ⟨?_, hc⟩
  obtain ⟨a1, a2, a3⟩ := less_may hc (linksV_fit d p.mesh) (linksV_fit d p)
  have hn : anyNZ (joinIf lessW (3 * d.n) (linksV d p.mesh) (linksV d p)) = false := by
    cases hz : anyNZ (joinIf lessW (3 * d.n) (linksV d p.mesh) (linksV d p)) with
    | false => rfl
    | true =>
      obtain ⟨i, _, hi⟩ := (anyNZ_at (joinIf_fit lessW_fit (linksV_fit d p.mesh) (linksV_fit d p))).1 hz
      rw [a3, f2.lAt, f1.lAt, Bool.and_eq_true, decide_eq_true_iff] at hi
      rw [decide_eq_true (mesh_sub f1.may f1.box _ hi.1)] at hi
      cases hi.2
  rw [decide_eq_true hc, hn]
  rfl
structure MeshEnd (d : V3) (p : Pl) (x : Int) : Prop where
  e : d.endE x = 0
  a : hasV d.n (midsV d p) (d.endM x) = true
  b : hasV d.n (midsV d p) (d.endT x) = true
theorem mesh_end {d : V3} {p : Pl} (h : plChk d p = 0) {x : Int} (hx : x ∈ listV (3 * d.n) (linksV d p.mesh)) : MeshEnd d p x := by
  have f1 := pl_facts h
  have f2 := pl_facts (mesh_chk h)
  have hc : x ∈ cabsV d p.mesh := (nums_perm f2.lChk (linksV_fit d p.mesh) (cabsV_nodup f2.may f2.box) (fun y hy => (cabs_in f2.may f2.box hy).1) f2.lAt).mem_iff.1 hx
  obtain ⟨k, m, hk, hm, rfl, hl⟩ := (mem_cabsV f2.may f2.box x).1 hc
  obtain ⟨e1, e2, e3⟩ := ends_of f1.may hk hm (lk_at f2.box hk hl)
  have ht : p.mesh.tor k = false := by
    match k, hk with
    | 0, _ => rfl
    | 1, _ => rfl
    | 2, _ => rfl
  obtain ⟨o1, o2⟩ := ends_own f2.may f2.box hk hm hl (.inl ht)
  refine ⟨e1, ?_, ?_⟩
  · rw [e2]; exact has_of f1.mChk f1.mAt o1 hm.1
  · rw [e3]; exact has_of f1.mChk f1.mAt o2 (Bx.mem_all' o2).1
set_option maxRecDepth 100000 in set_option maxHeartbeats 4000000 in
theorem law06_PlaceMesh (d : V3) (p : Pl) (w : World) (hT : TabAt 0 Lib.deBruijn64tab w) (hg : 0 < w.heap.size) :
    Calls Tryd.prog 4 #[.agg #[.int .i64 d.x, .int .i64 d.y, .int .i64 d.z], .agg #[.int .i64 p.b.b.x, .int .i64 p.b.b.y, .int .i64 p.b.b.z, .int .i64 p.b.s.x, .int .i64 p.b.s.y, .int .i64 p.b.s.z, .bool p.t0, .bool p.t1, .bool p.t2]] w (RB w (.bool true)) := by
  have H1 := Lib.hid (fun W => place_Sets d p W)
  have FP := Lib.hid (And.intro (midsV_fit d p) (linksV_fit d p))
  have l1 := midsV_len d p
  have l2 := linksV_len d p
  by_cases hz : plChk d p = 0
  · have hf := pl_facts hz
    have hd := hf.may
    have hm := mesh_chk hz
    have FX := Lib.hid (linksV_fit d p.mesh)
    have l3 := linksV_len d p.mesh
    have em : midsV d p.mesh = midsV d p := by unfold midsV; rw [if_pos hm, if_pos hz]; rfl
    have H2 := Lib.hid (fun W => show Calls Tryd.prog 12 #[.agg #[.int .i64 d.x, .int .i64 d.y, .int .i64 d.z], .agg #[.int .i64 p.b.b.x, .int .i64 p.b.b.y, .int .i64 p.b.b.z, .int .i64 p.b.s.x, .int .i64 p.b.s.y, .int .i64 p.b.s.z, .bool false, .bool false, .bool false]] W (RSS W (midsV d p) (linksV d p.mesh) 0) from by have := place_Sets d p.mesh W; rw [hm, em] at this; exact this)
    have H3 := Lib.hid (fun W => show Calls Tryd.prog 18 #[.agg #[.int .i64 d.x, .int .i64 d.y, .int .i64 d.z], .agg #[.int .i64 p.b.b.x, .int .i64 p.b.b.y, .int .i64 p.b.b.z, .int .i64 p.b.s.x, .int .i64 p.b.s.y, .int .i64 p.b.s.z, .bool false, .bool false, .bool false]] W (RLE W [] 0) from by have := place_Passes d p.mesh W; rw [hm, mesh_pass hm] at this; exact this)
    have HN := Lib.hid (fun W => by have := pos_Many d W; rw [V3.many_ok hd, V3.err_ok hd] at this; exact this)
    have HI := Lib.hid (fun ba bb ca cb W ha hb => by have := set_In (3 * d.n) ba bb ca cb (linksV d p.mesh) (linksV d p) W ha hb; rw [(mesh_in hz).1, (mesh_in hz).2] at this; exact this)
    have HL := Lib.hid (fun ba ca W (hw : Below w.heap.size w W) (h : SetIn W ba (linksV d p.mesh)) => by have := set_List (3 * d.n) ba ca (linksV d p.mesh) W h (tab_keep7 hT hg hw).1 (tab_keep7 hT hg hw).2; rw [(pl_facts hm).lChk] at this; exact this)
    have hkl := listV_len (3 * d.n) (linksV d p.mesh)
    have HX := Lib.hid (fun x (hx : x ∈ listV (3 * d.n) (linksV d p.mesh)) => mesh_end hz hx)
    have HE := Lib.hid (fun x W => wire_Ends d x W)
    have HH := Lib.hid (fun x ba ca W (h : SetIn W ba (midsV d p)) => by have := set_Has d.n ba ca (midsV d p) x W h; rw [hf.mChk] at this; exact this)
    have hnn := V3.n_le hd
    generalize listV (3 * d.n) (linksV d p.mesh) = K at *
    rw [hz] at H1
    have HXE := Lib.hid (fun x (hx : x ∈ K) => (HX.out x hx).e)
    have HXA := Lib.hid (fun x (hx : x ∈ K) => (HX.out x hx).a)
    have HXB := Lib.hid (fun x (hx : x ∈ K) => (HX.out x hx).b)
    clear HX
    generalize linksV d p.mesh = X at *
    generalize midsV d p = A at *
    generalize linksV d p = B at *
    generalize d.n = n at *
    clear hz hf hd hT hg hm em
    go_enter Tryd.func4, Tryd.ntmps4
    go_wp2_with fail
    refine (law06_alive _).mono ?_
    rintro e w1 ⟨rfl, hb⟩
    have BD := Lib.hid (((Blk.new w 23 #[.int .i64 d.x, .int .i64 d.y, .int .i64 d.z]).alloc (.cells #[.int .i64 p.b.b.x, .int .i64 p.b.b.y, .int .i64 p.b.b.z, .int .i64 p.b.s.x, .int .i64 p.b.s.y, .int .i64 p.b.s.z, .bool p.t0, .bool p.t1, .bool p.t2] 28)).below hb)
    have bp := (Blk.new (w.alloc (.cells #[.int .i64 d.x, .int .i64 d.y, .int .i64 d.z] 23)) 28 #[.int .i64 p.b.b.x, .int .i64 p.b.b.y, .int .i64 p.b.b.z, .int .i64 p.b.s.x, .int .i64 p.b.s.y, .int .i64 p.b.s.z, .bool p.t0, .bool p.t1, .bool p.t2]).below hb
    simp only [World.size_alloc] at bp
    have BP := Lib.hid bp
    have HB := Lib.hid (below_then (show Below w.heap.size w ((w.alloc (.cells #[.int .i64 d.x, .int .i64 d.y, .int .i64 d.z] 23)).alloc (.cells #[.int .i64 p.b.b.x, .int .i64 p.b.b.y, .int .i64 p.b.b.z, .int .i64 p.b.s.x, .int .i64 p.b.s.y, .int .i64 p.b.s.z, .bool p.t0, .bool p.t1, .bool p.t2] 28)) by (repeat (first | (with_reducible exact Below.refl _ _) | (with_reducible assumption) | (with_reducible refine below_alloc ?_ _) | (with_reducible refine below_drewN ?_ _) | (with_reducible refine Below.drew ?_) | (with_reducible refine below_then ?_ (by with_reducible assumption)) | (with_reducible refine Below.setCell ?_ (by go_size) _)))) hb)
    clear hb bp
    ((have d0 := (BD.out).cell 0 _ rfl; have d1 := (BD.out).cell 1 _ rfl; have d2 := (BD.out).cell 2 _ rfl); (have p0 := (BP.out).cell 0 _ rfl; have p1 := (BP.out).cell 1 _ rfl; have p2 := (BP.out).cell 2 _ rfl; have p3 := (BP.out).cell 3 _ rfl; have p4 := (BP.out).cell 4 _ rfl; have p5 := (BP.out).cell 5 _ rfl; have p6 := (BP.out).cell 6 _ rfl; have p7 := (BP.out).cell 7 _ rfl; have p8 := (BP.out).cell 8 _ rfl); go_wp2_with fail)
    refine (H1.out _).mono ?_
    rintro e w2 ⟨v1, u1, rfl, o1, r1, hb⟩
    obtain ⟨ba, ca, rfl, sa, _⟩ := set_of_own o1 (by omega) FP.out.1
    obtain ⟨bb, cb, rfl, sb, _⟩ := set_of_own r1 (by omega) FP.out.2
    have SA := Lib.hid sa
    have SB := Lib.hid sb
    (have BD := Lib.hid (BD.out.below hb); have BP := Lib.hid (BP.out.below hb); have HB := Lib.hid (below_then HB.out hb))
    clear hb o1 r1 sa sb
    (clear d0 d1 d2 p0 p1 p2 p3 p4 p5 p6 p7 p8)
    have bdl := BD.out.lt
    have bpl := BP.out.lt
    ((have d0 := (BD.out).cell 0 _ rfl; have d1 := (BD.out).cell 1 _ rfl; have d2 := (BD.out).cell 2 _ rfl); (have p0 := (BP.out).cell 0 _ rfl; have p1 := (BP.out).cell 1 _ rfl; have p2 := (BP.out).cell 2 _ rfl; have p3 := (BP.out).cell 3 _ rfl; have p4 := (BP.out).cell 4 _ rfl; have p5 := (BP.out).cell 5 _ rfl; have p6 := (BP.out).cell 6 _ rfl; have p7 := (BP.out).cell 7 _ rfl; have p8 := (BP.out).cell 8 _ rfl); go_wp2_with fail)
    clear bdl bpl
    refine (H2.out _).mono ?_
    rintro e w3 ⟨v3, u3, rfl, o3, r3, hb⟩
    have hb0 := below_alloc (Below.refl w2.heap.size w2) (.cells #[.int .i64 p.b.b.x, .int .i64 p.b.b.y, .int .i64 p.b.b.z, .int .i64 p.b.s.x, .int .i64 p.b.s.y, .int .i64 p.b.s.z, .bool false, .bool false, .bool false] 28)
    have BQ := Lib.hid ((Blk.new w2 28 #[.int .i64 p.b.b.x, .int .i64 p.b.b.y, .int .i64 p.b.b.z, .int .i64 p.b.s.x, .int .i64 p.b.s.y, .int .i64 p.b.s.z, .bool false, .bool false, .bool false]).below hb)
    replace hb := below_then hb0 hb
    obtain ⟨bc, cc, rfl, sc, _⟩ := set_of_own o3 (by omega) FP.out.1
    obtain ⟨bx, cx, rfl, sx, _⟩ := set_of_own r3 (by omega) FX.out
    have SC := Lib.hid sc
    have SX := Lib.hid sx
    (have SA := Lib.hid (SA.out.keep hb); have SB := Lib.hid (SB.out.keep hb))
    (have BD := Lib.hid (BD.out.below hb); have BP := Lib.hid (BP.out.below hb); have HB := Lib.hid (below_then HB.out hb))
    clear hb hb0 o3 r3 sc sx
    (clear d0 d1 d2 p0 p1 p2 p3 p4 p5 p6 p7 p8)
    (have d0 := (BD.out).cell 0 _ rfl; have d1 := (BD.out).cell 1 _ rfl; have d2 := (BD.out).cell 2 _ rfl)
    (have p0 := (BQ.out).cell 0 _ rfl; have p1 := (BQ.out).cell 1 _ rfl; have p2 := (BQ.out).cell 2 _ rfl; have p3 := (BQ.out).cell 3 _ rfl; have p4 := (BQ.out).cell 4 _ rfl; have p5 := (BQ.out).cell 5 _ rfl; have p6 := (BQ.out).cell 6 _ rfl; have p7 := (BQ.out).cell 7 _ rfl; have p8 := (BQ.out).cell 8 _ rfl)
    go_wp2_with fail
    refine (H3.out _).mono ?_
    rintro e w4 ⟨v4, rfl, o4, hb⟩
    obtain ⟨bl, cl, rfl, _, _⟩ := own_rd o4
    (have SA := Lib.hid (SA.out.keep hb); have SB := Lib.hid (SB.out.keep hb))
    (have SX := Lib.hid (SX.out.keep hb); have SC := Lib.hid (SC.out.keep hb))
    (have BD := Lib.hid (BD.out.below hb); have BP := Lib.hid (BP.out.below hb); have HB := Lib.hid (below_then HB.out hb))
    clear hb o4
    (clear d0 d1 d2 p0 p1 p2 p3 p4 p5 p6 p7 p8)
    ((have d0 := (BD.out).cell 0 _ rfl; have d1 := (BD.out).cell 1 _ rfl; have d2 := (BD.out).cell 2 _ rfl); (have p0 := (BP.out).cell 0 _ rfl; have p1 := (BP.out).cell 1 _ rfl; have p2 := (BP.out).cell 2 _ rfl; have p3 := (BP.out).cell 3 _ rfl; have p4 := (BP.out).cell 4 _ rfl; have p5 := (BP.out).cell 5 _ rfl; have p6 := (BP.out).cell 6 _ rfl; have p7 := (BP.out).cell 7 _ rfl; have p8 := (BP.out).cell 8 _ rfl); go_wp2_with fail)
    refine (HN.out _).mono ?_
    rintro e w5 ⟨rfl, hb⟩
    (have SA := Lib.hid (SA.out.keep hb); have SB := Lib.hid (SB.out.keep hb))
    (have SX := Lib.hid (SX.out.keep hb); have SC := Lib.hid (SC.out.keep hb))
    (have BD := Lib.hid (BD.out.below hb); have BP := Lib.hid (BP.out.below hb); have HB := Lib.hid (below_then HB.out hb))
    clear hb
    (clear d0 d1 d2 p0 p1 p2 p3 p4 p5 p6 p7 p8)
    go_wp2_with fail
    refine (HI.out bx bb cx cb _ SX.out SB.out).mono ?_
    rintro e w6 ⟨rfl, hb⟩
    (have SA := Lib.hid (SA.out.keep hb); have SB := Lib.hid (SB.out.keep hb))
    (have SX := Lib.hid (SX.out.keep hb); have SC := Lib.hid (SC.out.keep hb))
    (have BD := Lib.hid (BD.out.below hb); have BP := Lib.hid (BP.out.below hb); have HB := Lib.hid (below_then HB.out hb))
    clear hb
    go_wp2_with fail
    refine (HL.out bx cx _ HB.out SX.out).mono ?_
    rintro e w7 ⟨v7, rfl, o7, hb⟩
    obtain ⟨bk, ck, rfl, lk7, _⟩ := own_rd o7
    have LK := Lib.hid lk7
    (have SA := Lib.hid (SA.out.keep hb); have SB := Lib.hid (SB.out.keep hb))
    (have SX := Lib.hid (SX.out.keep hb); have SC := Lib.hid (SC.out.keep hb))
    (have BD := Lib.hid (BD.out.below hb); have BP := Lib.hid (BP.out.below hb); have HB := Lib.hid (below_then HB.out hb))
    clear hb o7 lk7
    go_wp2_with fail
    refine (Calls.rb_eq (ref03_Same ba bc ca cc A A _ SA.out SC.out) (show Value.bool (decide (A = A)) = .bool true by simp)).mono ?_
    rintro e w8 ⟨rfl, hb⟩
    have LK8 := Lib.hid (LK.out.keep hb)
    have SA8 := Lib.hid (SA.out.keep hb)
    (have BD := Lib.hid (BD.out.below hb); have BP := Lib.hid (BP.out.below hb); have HB := Lib.hid (below_then HB.out hb))
    clear hb SA SB SC SX LK
    go_wp2_with fail
    go_loopw [21] (fun i wr => ∃ j : Nat, j ≤ K.length ∧ i = .int .i64 j ∧ Below w8.heap.size w8 wr) (fun i _ => K.length - (intOf i).toNat)
    case atStart => exact ⟨0, Nat.zero_le _, rfl, Below.refl _ _⟩
    case round =>
      obtain ⟨j, hj, rfl, hbe⟩ := hrel
      have HBE := Lib.hid hbe
      by_cases hlj : j < K.length
      · obtain ⟨b0, off, e, hc0⟩ := LK8.out j _ (getElem?_map_int hlj)
        subst e
        obtain ⟨x, hx⟩ : ∃ x, x = K[j] := ⟨_, rfl⟩
        have hmem : x ∈ K := by rw [hx]; exact List.getElem_mem hlj
        have hc := (hbe.cell (p := ⟨b0, off + j, none⟩) (World.block_lt_of_cell? w8 _ hc0)).trans hc0
        rw [← hx] at hc
        have hlb := World.block_lt_of_cell? w8 _ hc0
        have hzb := hbe.size
        have bd := BD.out.below hbe
        (have d0 := (bd).cell 0 _ rfl; have d1 := (bd).cell 1 _ rfl; have d2 := (bd).cell 2 _ rfl)
        have bdl := bd.lt
        have hbl : b0 < wr.heap.size := Nat.lt_of_lt_of_le hlb hzb
        have HE2 := Lib.hid (fun (y : Aft wr) => Calls.aft_of (x := y) (by have := HE.out x y.to; rw [HXE.out x hmem] at this; exact this))
        have HHA := Lib.hid (fun W (h : SetIn W ba A) => by have := HH.out (d.endM x) ba ca W h; rw [HXA.out x hmem] at this; exact this)
        have HHB := Lib.hid (fun W (h : SetIn W ba A) => by have := HH.out (d.endT x) ba ca W h; rw [HXB.out x hmem] at this; exact this)
        generalize d.endM x = ea at *
        generalize d.endT x = eb at *
        clear bd hbe hc0 hlb hx hmem
        go_wp2_with fail
        (refine wp_region_aft (by kernel_rfl) (by kernel_rfl) ?_; (repeat (any_goals (first | go_big_quiet_step ((go_at_call 21; with_reducible exact HE2.out _)) | quiet_step ((go_at_call 21; with_reducible exact HE2.out _)) | (refine wpQuiet_step (fun K hK => ?_); go_simp; split <;> (refine hK _ ?_; clear hK K))))); all_goals (refine wpQuiet_nil ?_; intro wq hw'; obtain ⟨x1, hx1⟩ := hw'; have hbq := x1.h; rw [← hx1] at hbq; clear hx1 x1))
        all_goals
          have HB9 := Lib.hid (HBE.out.trans (hbq.mono hzb))
          have z9 := HB9.out.size
          clear hbq HE2 d0 d1 d2 hc bdl
          go_wp2_with fail
          refine (HHA.out _ (SA8.out.keep HB9.out)).mono ?_
          rintro e w10 ⟨rfl, hb⟩
          have HB10 := Lib.hid (HB9.out.trans (hb.mono z9))
          have z10 := HB10.out.size
          clear hb
          go_wp2_with fail
          refine (HHB.out _ (SA8.out.keep HB10.out)).mono ?_
          rintro e w11 ⟨rfl, hb⟩
          have HB11 := Lib.hid (HB10.out.trans (hb.mono z10))
          clear hb
          go_wp2_with fail
          go_roundw
          case rel => exact ⟨j + 1, by omega, by go_num, HB11.out⟩
          case measure => (simp [intOf] <;> omega)
      · obtain rfl : j = K.length := by omega
        clear hbe
        go_wp2_with fail
        go_returns
        exact ⟨rfl, HB.out.trans (HBE.out.mono HB.out.size)⟩
  · have hy : (plChk d p != 0) = true := by simpa using hz
    generalize plChk d p = E at *
    clear hz hT hg
    go_enter Tryd.func4, Tryd.ntmps4
    go_wp2_with fail
    refine (law06_alive _).mono ?_
    rintro e w1 ⟨rfl, hb⟩
    have BD := Lib.hid (((Blk.new w 23 #[.int .i64 d.x, .int .i64 d.y, .int .i64 d.z]).alloc (.cells #[.int .i64 p.b.b.x, .int .i64 p.b.b.y, .int .i64 p.b.b.z, .int .i64 p.b.s.x, .int .i64 p.b.s.y, .int .i64 p.b.s.z, .bool p.t0, .bool p.t1, .bool p.t2] 28)).below hb)
    have bp := (Blk.new (w.alloc (.cells #[.int .i64 d.x, .int .i64 d.y, .int .i64 d.z] 23)) 28 #[.int .i64 p.b.b.x, .int .i64 p.b.b.y, .int .i64 p.b.b.z, .int .i64 p.b.s.x, .int .i64 p.b.s.y, .int .i64 p.b.s.z, .bool p.t0, .bool p.t1, .bool p.t2]).below hb
    simp only [World.size_alloc] at bp
    have BP := Lib.hid bp
    have HB := Lib.hid (below_then (show Below w.heap.size w ((w.alloc (.cells #[.int .i64 d.x, .int .i64 d.y, .int .i64 d.z] 23)).alloc (.cells #[.int .i64 p.b.b.x, .int .i64 p.b.b.y, .int .i64 p.b.b.z, .int .i64 p.b.s.x, .int .i64 p.b.s.y, .int .i64 p.b.s.z, .bool p.t0, .bool p.t1, .bool p.t2] 28)) by (repeat (first | (with_reducible exact Below.refl _ _) | (with_reducible assumption) | (with_reducible refine below_alloc ?_ _) | (with_reducible refine below_drewN ?_ _) | (with_reducible refine Below.drew ?_) | (with_reducible refine below_then ?_ (by with_reducible assumption)) | (with_reducible refine Below.setCell ?_ (by go_size) _)))) hb)
    clear hb bp
    ((have d0 := (BD.out).cell 0 _ rfl; have d1 := (BD.out).cell 1 _ rfl; have d2 := (BD.out).cell 2 _ rfl); (have p0 := (BP.out).cell 0 _ rfl; have p1 := (BP.out).cell 1 _ rfl; have p2 := (BP.out).cell 2 _ rfl; have p3 := (BP.out).cell 3 _ rfl; have p4 := (BP.out).cell 4 _ rfl; have p5 := (BP.out).cell 5 _ rfl; have p6 := (BP.out).cell 6 _ rfl; have p7 := (BP.out).cell 7 _ rfl; have p8 := (BP.out).cell 8 _ rfl); go_wp2_with fail)
    refine (H1.out _).mono ?_
    rintro e w2 ⟨v1, u1, rfl, o1, r1, hb⟩
    have HB3 := below_then HB.out hb
    clear hb o1 r1
    (clear d0 d1 d2 p0 p1 p2 p3 p4 p5 p6 p7 p8)
    go_wp2_with fail
    go_returns
    exact ⟨rfl, HB3⟩
set_option maxRecDepth 100000 in set_option maxHeartbeats 4000000 in
theorem lift_placeMesh (os : Os) (started : os.Started) (H : Type) (enc : TypeId × Value → H) (F : Stop.Interp) :
    ReturnsInHanded {} Tryd.checked os 4 .any ((OpenSpec.ofChange Rows.placeMeshSpec).preRow enc Tryd.prog Tryd.f4 Rows.placeMeshRow.domain false Rows.placeMeshRow.laid) (((OpenSpec.ofChange Rows.placeMeshSpec).at F).post enc Tryd.prog Tryd.f4 false true false false) := by
  obtain ⟨places, hx⟩ : ∃ places, DataW.whole enc Tryd.prog ((laidWorld os).forCall (fun _ _ => 0) ⟨#[], #[.agg #[.int .i64 0, .int .i64 0, .int .i64 0], .agg #[.int .i64 0, .int .i64 0, .int .i64 0, .int .i64 0, .int .i64 0, .int .i64 0, .bool false, .bool false, .bool false]], []⟩).memory Tryd.f4.params.toList Rows.placeMeshSpec.vars false #[.agg #[.int .i64 0, .int .i64 0, .int .i64 0], .agg #[.int .i64 0, .int .i64 0, .int .i64 0, .int .i64 0, .int .i64 0, .int .i64 0, .bool false, .bool false, .bool false]].toList 8 = some ([.agg [.lit (.int .i64 0), .lit (.int .i64 0), .lit (.int .i64 0)], .agg [.agg [.agg [.lit (.int .i64 0), .lit (.int .i64 0), .lit (.int .i64 0)], .agg [.lit (.int .i64 0), .lit (.int .i64 0), .lit (.int .i64 0)]], .agg [.lit (.bool false), .lit (.bool false), .lit (.bool false)]]], [], places) := ⟨[], by kernel_rfl⟩
  refine returnsInHanded_of_row (C := Tryd.checked) (s := OpenSpec.ofChange Rows.placeMeshSpec) ownKnob0 started (by kernel_rfl) Tryd.func4
    (witness_row_at (enc := enc) (C := Tryd.checked) false (laidWorld os) #[.agg #[.int .i64 0, .int .i64 0, .int .i64 0], .agg #[.int .i64 0, .int .i64 0, .int .i64 0, .int .i64 0, .int .i64 0, .int .i64 0, .bool false, .bool false, .bool false]] rfl (by kernel_rfl) (by kernel_rfl) (by kernel_rfl)
      (OpenSpec.preRow_of_cond 8 hx (by kernel_rfl) (fun k hk => by cases hk) (by kernel_rfl) (laidMet_of_run' 8 (by kernel_rfl) (by kernel_rfl)))) ?_
  intro W base args ds gs before hval0 hW _ _ _ hL0 _ _
  have hval : ∀ (j : Nat) t v, Tryd.f4.params[j]? = some t → args[j]? = some v → Value.okWide Tryd.prog W .any base t v := hval0
  have hT := tab_of_laid (W := W) hL0
  have hg := tab_lt hT
  have hW' := hW
  obtain ⟨p, q, hA0, hV, rfl, hfz, hnd⟩ := hW
  have hA : DataW.TrodAll enc Tryd.prog W 0 (fun _ => true) true Tryd.f4.params.toList args.toList ds p := hA0
  rw [Tryd.params4] at hA hval
  have hK := hA
  obtain ⟨v0, vs0, d0, ds0, p0, q0, hargs, rfl, rfl, h0, r0⟩ := trodAll_cons hA
  obtain ⟨v1, vs1, d1, ds1, p1, q1, rfl, rfl, rfl, h1, r1⟩ := trodAll_cons r0
  obtain ⟨rfl, rfl, rfl⟩ := trodAll_nil r1
  obtain rfl : args = #[v0, v1] := by cases args; simp_all
  obtain ⟨d, rfl⟩ := open_dims (hval 0 _ v0 rfl rfl)
  obtain ⟨p, rfl⟩ := open_place (hval 1 _ v1 rfl rfl)
  obtain ⟨rfl, rfl⟩ := trodVars_none hV
  clear hA0 hval0
  simp only [List.append_nil] at hW'
  refine (law06_PlaceMesh d p W hT hg).mono fun e W' ⟨he, bel⟩ => ?_
  subst he
  refine ⟨_, rfl, _, _, _, [], _, [], hW', trodAll_mk1 (shut_bool Tryd.underlying4 _), trodAll_below bel _ _ _ _ ?_ hK, rfl, bel.frame _, fun h => by cases h⟩
  intro t ht
  simp at ht <;> (rcases ht with rfl | rfl <;> exact ⟨by kernel_rfl, of_decide_eq_true (by kernel_rfl)⟩)

theorem said_placeMesh : Rows.PlaceMeshSaid :=
  OpenClaim.holds_of_cond 4 Tryd.f4 rfl rfl rfl rfl rfl rfl rfl ⟨rfl, rfl, rfl, rfl, rfl⟩ rfl rfl rfl rfl rfl (by kernel_rfl) Tryd.func4 (by kernel_rfl)
    (of_decide_eq_true (by kernel_rfl)) (by unfold Func.isWrapper; first | (rw [if_pos (by decide +kernel)]; kernel_rfl) | (rw [if_neg (by decide +kernel)]; exact ⟨rfl, rfl⟩))
    (fun os started H enc _ F => by rw [OpenClaim.pre_eq_preRow]; exact lift_placeMesh os started H enc F)

theorem plain_placeMesh (f : FuncId) (fn : Func) (hf : Tryd.pinned.checked.prog.funcNamed "tidehall/tidehalllaw06.PlaceMesh" = some f) (hfn : Tryd.pinned.checked.prog.funcs[f]? = some fn) :
    false = Tryd.pinned.checked.prog.looks [] ∧ ∀ (j : Nat) t, fn.params[j]? = some t → Tryd.pinned.checked.prog.wantsStandIn t = false := by
  obtain rfl : f = 4 := Option.some.inj ((show Tryd.prog.funcNamed "tidehall/tidehalllaw06.PlaceMesh" = some 4 by kernel_rfl).symm.trans hf) |>.symm
  obtain rfl : fn = Tryd.f4 := (Option.some.inj (Tryd.func4.symm.trans hfn)).symm
  refine ⟨by kernel_rfl, fun j t ht => ?_⟩
  rw [Tryd.params4] at ht
  have hm := Array.mem_of_getElem? ht
  simp at hm <;> (rcases hm with rfl | rfl <;> exact (show Tryd.prog.wantsStandIn _ = false by kernel_rfl))

theorem PlaceMesh_holds : Rows.PlaceMeshCardSaid :=
  Claim7.holds_tied_plain_at .later [] _ _ _ _ said_placeMesh (fun _ h => by cases h) (by kernel_rfl) (fun _ h => by cases h) placeMesh_row_tie rfl ⟨rfl, rfl⟩ (by kernel_rfl) rfl plain_placeMesh (by kernel_rfl)
end Go.Proofs.YthabpiphfaedaaaDoor
