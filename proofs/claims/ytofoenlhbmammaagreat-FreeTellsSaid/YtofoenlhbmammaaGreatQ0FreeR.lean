/- FREE: the document's. -/
import Derived.Test.YtofoenlhbmammaaGreatQ0WhenRef
import Derived.Test.YtofoenlhbmammaaGreatQ15FreeTells
import Derived.Test.YtofoenlhbmammaaGreatQ0FreeW
import Derived.Test.YtofoenlhbmammaaGreatQ0RefTk
namespace Go.Proofs.YtofoenlhbmammaaGreat

section
open Go.RowKit Go.Shelf

set_option maxRecDepth 100000 in set_option maxHeartbeats 4000000 in
theorem ref11_maySets (n : Int) (u v : Value) (a b : List Nat) (w : World) (hu : SS w u a) (hv : SS w v b) (hn : nMay n) (hm : nMay (3 * n)) : Calls Tryz.prog 29 #[.int .i64 n, u, v] w (RB w (.bool (setsOk n a b))) := by
  obtain ⟨b1, c1, rfl, h1⟩ := hu.ex
  obtain ⟨b2, c2, rfl, h2⟩ := hv.ex
  have K1 := Lib.hid (ref03_May n b1 c1 a w h1 hn)
  have K2 := Lib.hid (ref03_May (3 * n) b2 c2 b w h2 hm)
  have hE : setsOk n a b = (decide (sChk n a = 0) && decide (sChk (3 * n) b = 0)) := rfl
  rw [← may_chk hn h1.fit, ← may_chk hm h2.fit] at hE
  rw [hE]
  unfold nMay at hn hm
  generalize refMay n a = x1 at *
  generalize refMay (3 * n) b = x2 at *
  clear h1 h2 hu hv hE
  cases x1 <;> cases x2
  all_goals
    go_enter Tryz.func29, Tryz.ntmps29
    go_wp2_with (first | ((with_reducible refine K1.out.mono ?_); rintro e w3 ⟨rfl, hw3⟩; have hw3 := hw3.symm; subst hw3) | ((with_reducible refine K2.out.mono ?_); rintro e w3 ⟨rfl, hw3⟩; have hw3 := hw3.symm; subst hw3))
    all_goals
      go_returns
      exact ⟨rfl, by (repeat (first | (with_reducible exact Below.refl _ _) | (with_reducible assumption) | (with_reducible refine below_alloc ?_ _) | (with_reducible refine below_drewN ?_ _) | (with_reducible refine Below.drew ?_) | (with_reducible refine below_then ?_ (by with_reducible assumption)) | (with_reducible refine Below.setCell ?_ (by go_size) _)))⟩
set_option maxRecDepth 100000 in set_option maxHeartbeats 4000000 in
theorem ref11_Joined (n : Int) (u v : Value) (a b : List Nat) (w : World) (hu : SS w u a) (hv : SS w v b) (ha : sChk n a = 0) (hb : sChk n b = 0) :
    Calls Tryz.prog 30 #[.int .i64 n, u, v] w (fun e w' => ∃ x, e = .returned x ∧ SS w' x (joinIf orW n a b) ∧ Below w.heap.size w w') := by
  obtain ⟨i0, hi, iz0, iz1, iz2⟩ := info_parts infoInt
  obtain ⟨b1, c1, rfl, h1⟩ := hu.ex
  obtain ⟨b2, c2, rfl, h2⟩ := hv.ex
  obtain ⟨j1, j2, j3, hn⟩ := or_joined ha hb h1.fit h2.fit
  have l1 := sChk_len ha
  have l2 := sChk_len hb
  have K1 := Lib.hid (ref03_All b1 c1 a w h1 (by omega))
  have K2 := Lib.hid (fun W (h : Below w.heap.size w W) => ref03_All b2 c2 b W (h2.keep h) (by omega))
  have K3 := Lib.hid (fun bl cl W (h : LIn W bl (nums a ++ nums b)) => ref03_From n bl cl _ W h hn j3 j2)
  have hfit : W64 (joinIf orW n a b) := by rw [j1]; exact bitsOf_fit _ _
  have hlen : (joinIf orW n a b).length ≤ 4611686018427387904 := Nat.le_trans joinIf_len h1.len
  have HJ := Lib.hid (And.intro hfit hlen)
  rw [List.length_append] at j3
  rw [← j1] at K3
  generalize joinIf orW n a b = J at *
  generalize nums a = A at *
  generalize nums b = B at *
  clear hu hv ha hb j1 j2 h1 h2 l1 l2 hfit hlen
  go_enter Tryz.func30, Tryz.ntmps30
  go_wp2_with fail
  refine K1.out.mono ?_
  rintro e w1 ⟨v1, rfl, o1, hb1⟩
  have HO := Lib.hid o1
  have HB := Lib.hid hb1
  clear o1 hb1
  go_wp2_with fail
  refine (K2.out _ HB.out).mono ?_
  rintro e w2 ⟨v2, rfl, o2, hb2⟩
  have HO := Lib.hid (own_keep HO.out hb2)
  have zs := HB.out.size
  have HB := Lib.hid (below_then HB.out hb2)
  obtain ⟨bB, cB, rfl, rB, _⟩ := own_rd o2
  have nB := own_none o2
  have RB2 := Lib.hid rB
  have NB := Lib.hid nB
  have zs2 := HB.out.size
  clear o2 hb2 rB nB
  go_wp2_with (at_builtin; refine wpList_addE _ rfl _ _ 83 rfl 3 i0 (.int .i64 0) 1 8 Tryz.underlying83 hi iz0 iz1 iz2 rfl (by decide) (by decide) w.heap.size zs2 _ (by rfl) _ _ HO.out bB B.length cB (ic B) (by rfl) (by rw [ic_len]; omega) NB.out RB2.out (ic_one B) (by omega) ?_)
  intro v3 w3 o3 b3
  have HB3 := Lib.hid (HB.out.trans b3)
  have o3' : w3.ownsRow w.heap.size 3 1 v3 (A ++ B).length (ic (A ++ B)) := by rw [ic_app, List.length_append]; exact o3
  obtain ⟨b4, c4, rfl, l4, _⟩ := list_of_own o3' (by rw [List.length_append]; omega)
  have L4 := Lib.hid l4
  clear o3 b3 o3' l4 RB2
  generalize A ++ B = AB at *
  go_wp2_with fail
  refine (K3.out _ _ _ L4.out).mono ?_
  rintro e w4 ⟨v4, rfl, o4, hb⟩
  have HS := Lib.hid (SS.of o4 HJ.out.2 HJ.out.1)
  have HB4 := Lib.hid (below_then HB3.out hb)
  clear hb o4
  go_wp2_with fail
  go_returns
  exact ⟨_, rfl, HS.out, HB4.out⟩
set_option maxRecDepth 100000 in set_option maxHeartbeats 4000000 in
theorem ref11_Avoid (vy : Value) (y : Yd) (u v : Value) (ms ks : List Nat) (f t : Int) (w : World) (hy : YS w vy y) (hu : SS w u ms) (hv : SS w v ks) :
    Calls Tryz.prog 11 #[vy, u, v, .agg #[.int .i64 f, .int .i64 t]] w (RSS w (avV y ms ks f t).1 (avV y ms ks f t).2 (avE y ms ks f t)) := by
  have BU := Lib.hid (fun W (h : Below w.heap.size w W) => y_RBusy (hy.keep h) f t)
  have hE : avE y ms ks f t = if busyE y f t = 0 then (if setsOk y.ns.length ms ks then 0 else 8) else busyE y f t := rfl
  have hV : avV y ms ks f t = if avE y ms ks f t = 0 then (joinIf orW y.ns.length (busyV y f t).1 ms, joinIf orW (3 * y.ns.length) (busyV y f t).2 ks) else ([], []) := rfl
  by_cases z : busyE y f t = 0
  · obtain ⟨hok, hsp⟩ := busyE_0 z
    have hB := busyV_go hok hsp
    have hM := Yd.ok_many hok
    have hL := Yd.ok_len hok
    have hM2 : nMay (3 * (y.ns.length : Int)) := by rw [← hL]; exact hM.2
    have SE := Lib.hid (fun W (h : Below w.heap.size w W) => ref11_maySets y.ns.length u v ms ks W (hu.keep h) (hv.keep h) hM.1 hM2)
    rw [if_pos z] at hE
    rw [z] at BU
    cases so : setsOk y.ns.length ms ks with
    | false =>
      rw [so, if_neg (by decide)] at hE
      rw [hE, if_neg (by decide)] at hV
      rw [hV, hE]
      rw [so] at SE
      obtain ⟨bn, bl, cn, cl, rfl, h1, h3⟩ := hy.ex
      clear hu hv hy hE hV so z hok hsp hB hM hL h1 h3 hM2
      go_enter Tryz.func11, Tryz.ntmps11
      go_wp2_with fail
      refine (BU.out _ (by (repeat (first | (with_reducible exact Below.refl _ _) | (with_reducible assumption) | (with_reducible refine below_alloc ?_ _) | (with_reducible refine below_drewN ?_ _) | (with_reducible refine Below.drew ?_) | (with_reducible refine below_then ?_ (by with_reducible assumption)) | (with_reducible refine Below.setCell ?_ (by go_size) _))))).mono ?_
      rintro e w1 ⟨a1, a2, rfl, A1, A2, hb1⟩
      have YB := Lib.hid (((Blk.new w 26 #[.int .i64 y.d.x, .int .i64 y.d.y, .int .i64 y.d.z, (.slice bn y.ns.length cn), (.slice bl y.ls.length cl)]).alloc (.cells #[.int .i64 f, .int .i64 t] 35)).below hb1)
      have HB := Lib.hid (below_then (show Below w.heap.size w ((w.alloc (.cells #[.int .i64 y.d.x, .int .i64 y.d.y, .int .i64 y.d.z, (.slice bn y.ns.length cn), (.slice bl y.ls.length cl)] 26)).alloc (.cells #[.int .i64 f, .int .i64 t] 35)) by (repeat (first | (with_reducible exact Below.refl _ _) | (with_reducible assumption) | (with_reducible refine below_alloc ?_ _) | (with_reducible refine below_drewN ?_ _) | (with_reducible refine Below.drew ?_) | (with_reducible refine below_then ?_ (by with_reducible assumption)) | (with_reducible refine Below.setCell ?_ (by go_size) _)))) hb1)
      clear hb1 A1 A2
      have y3 := YB.out.cell 3 _ rfl
      go_wp2_with fail
      refine (SE.out _ HB.out).mono ?_
      rintro e w2 ⟨rfl, hb⟩
      have HB := Lib.hid (below_then HB.out hb)
      clear hb y3
      go_wp2_with fail
      go_returns
      exact ⟨_, _, rfl, SS.of (World.ownsRow_nil _ w.heap.size _ _) (by simp) fit_nil, SS.of (World.ownsRow_nil _ w.heap.size _ _) (by simp) fit_nil, HB.out⟩
    | true =>
      obtain ⟨s1, s2⟩ := setsOk_iff.1 so
      rw [so, if_pos rfl] at hE
      rw [if_pos hE] at hV
      rw [hV, hE]
      rw [so] at SE
      have c1 : sChk y.ns.length (busyV y f t).1 = 0 := by rw [hB.1]; exact whS_chk _ hM.1
      have c2 : sChk (3 * (y.ns.length : Int)) (busyV y f t).2 = 0 := by rw [hB.1, ← hL]; exact whS_chk _ hM.2
      have O1 := Lib.hid (fun W x (hx : SS W x (busyV y f t).1) (hu : SS W u ms) => ref11_Joined y.ns.length x u _ _ W hx hu c1 s1)
      have O2 := Lib.hid (fun W x (hx : SS W x (busyV y f t).2) (hv : SS W v ks) => ref11_Joined (3 * (y.ns.length : Int)) x v _ _ W hx hv c2 s2)
      have hnn := hM2
      unfold nMay at hnn
      have HU := Lib.hid hu
      have HV := Lib.hid hv
      obtain ⟨bn, bl, cn, cl, rfl, h1, h3⟩ := hy.ex
      generalize joinIf orW y.ns.length (busyV y f t).1 ms = X1 at *
      generalize joinIf orW (3 * (y.ns.length : Int)) (busyV y f t).2 ks = X2 at *
      generalize (busyV y f t).1 = B1 at *
      generalize (busyV y f t).2 = B2 at *
      clear hu hv hy hE hV so z hok hsp hB hM hL h1 h3 c1 c2 s1 s2 hM2
      go_enter Tryz.func11, Tryz.ntmps11
      go_wp2_with fail
      refine (BU.out _ (by (repeat (first | (with_reducible exact Below.refl _ _) | (with_reducible assumption) | (with_reducible refine below_alloc ?_ _) | (with_reducible refine below_drewN ?_ _) | (with_reducible refine Below.drew ?_) | (with_reducible refine below_then ?_ (by with_reducible assumption)) | (with_reducible refine Below.setCell ?_ (by go_size) _))))).mono ?_
      rintro e w1 ⟨a1, a2, rfl, A1, A2, hb1⟩
      have YB := Lib.hid (((Blk.new w 26 #[.int .i64 y.d.x, .int .i64 y.d.y, .int .i64 y.d.z, (.slice bn y.ns.length cn), (.slice bl y.ls.length cl)]).alloc (.cells #[.int .i64 f, .int .i64 t] 35)).below hb1)
      have HB := Lib.hid (below_then (show Below w.heap.size w ((w.alloc (.cells #[.int .i64 y.d.x, .int .i64 y.d.y, .int .i64 y.d.z, (.slice bn y.ns.length cn), (.slice bl y.ls.length cl)] 26)).alloc (.cells #[.int .i64 f, .int .i64 t] 35)) by (repeat (first | (with_reducible exact Below.refl _ _) | (with_reducible assumption) | (with_reducible refine below_alloc ?_ _) | (with_reducible refine below_drewN ?_ _) | (with_reducible refine Below.drew ?_) | (with_reducible refine below_then ?_ (by with_reducible assumption)) | (with_reducible refine Below.setCell ?_ (by go_size) _)))) hb1)
      have A1 := Lib.hid A1
      have A2 := Lib.hid A2
      clear hb1
      have y3 := YB.out.cell 3 _ rfl
      go_wp2_with fail
      refine (SE.out _ HB.out).mono ?_
      rintro e w2 ⟨rfl, hb⟩
      have HB := Lib.hid (below_then HB.out hb)
      have A1 := Lib.hid (A1.out.keep hb)
      have A2 := Lib.hid (A2.out.keep hb)
      clear hb y3
      go_wp2_with fail
      refine (O1.out _ _ A1.out (HU.out.keep HB.out)).mono ?_
      rintro e w3 ⟨x1, rfl, H1, hb⟩
      have HB := Lib.hid (below_then HB.out hb)
      have A2 := Lib.hid (A2.out.keep hb)
      have H1 := Lib.hid H1
      clear hb
      go_wp2_with fail
      refine (O2.out _ _ A2.out (HV.out.keep HB.out)).mono ?_
      rintro e w4 ⟨x2, rfl, H2, hb⟩
      have HB := Lib.hid (below_then HB.out hb)
      have H1 := Lib.hid (H1.out.keep hb)
      have H2 := Lib.hid H2
      clear hb
      go_wp2_with fail
      go_returns
      exact ⟨_, _, rfl, H1.out, H2.out, HB.out⟩
  · rw [if_neg z] at hE
    rw [hE, if_neg z] at hV
    rw [hV, hE]
    have hy2 : (busyE y f t != 0) = true := by simpa using z
    obtain ⟨bn, bl, cn, cl, rfl, h1, h3⟩ := hy.ex
    generalize busyE y f t = x at *
    clear hu hv hy hE hV z h1 h3
    go_enter Tryz.func11, Tryz.ntmps11
    go_wp2_with fail
    refine (BU.out _ (by (repeat (first | (with_reducible exact Below.refl _ _) | (with_reducible assumption) | (with_reducible refine below_alloc ?_ _) | (with_reducible refine below_drewN ?_ _) | (with_reducible refine Below.drew ?_) | (with_reducible refine below_then ?_ (by with_reducible assumption)) | (with_reducible refine Below.setCell ?_ (by go_size) _))))).mono ?_
    rintro e w1 ⟨a1, a2, rfl, A1, A2, hb1⟩
    have HB := Lib.hid (below_then (show Below w.heap.size w ((w.alloc (.cells #[.int .i64 y.d.x, .int .i64 y.d.y, .int .i64 y.d.z, (.slice bn y.ns.length cn), (.slice bl y.ls.length cl)] 26)).alloc (.cells #[.int .i64 f, .int .i64 t] 35)) by (repeat (first | (with_reducible exact Below.refl _ _) | (with_reducible assumption) | (with_reducible refine below_alloc ?_ _) | (with_reducible refine below_drewN ?_ _) | (with_reducible refine Below.drew ?_) | (with_reducible refine below_then ?_ (by with_reducible assumption)) | (with_reducible refine Below.setCell ?_ (by go_size) _)))) hb1)
    clear hb1 A1 A2
    go_wp2_with fail
    go_returns
    exact ⟨_, _, rfl, SS.of (World.ownsRow_nil _ w.heap.size _ _) (by simp) fit_nil, SS.of (World.ownsRow_nil _ w.heap.size _ _) (by simp) fit_nil, HB.out⟩
set_option maxRecDepth 100000 in set_option maxHeartbeats 4000000 in
theorem ref11_Clear (d : V3) (p : Pl) (u v : Value) (ms ks : List Nat) (w : World) (hz : plChk d p = 0) (hu : SS w u ms) (hv : SS w v ks) :
    Calls Tryz.prog 37 #[.agg #[.int .i64 d.x, .int .i64 d.y, .int .i64 d.z], .agg #[.int .i64 p.b.b.x, .int .i64 p.b.b.y, .int .i64 p.b.b.z, .int .i64 p.b.s.x, .int .i64 p.b.s.y, .int .i64 p.b.s.z, .bool p.t0, .bool p.t1, .bool p.t2], u, v] w (RB w (.bool (!hit true (nums (midsV d p)) ms && !hit true (nums (linksV d p)) ks))) := by
  have HT := Lib.hid (fun W => ref06_Taken d p W hz)
  have F1 := Lib.hid (And.intro (midsV_fit d p) (linksV_fit d p))
  have l1 := midsV_len d p
  have l2 := linksV_len d p
  obtain ⟨bu, cu, rfl, h1⟩ := hu.ex
  obtain ⟨bv, cv, rfl, h2⟩ := hv.ex
  have M1 := Lib.hid (fun ba ca W (h : Below w.heap.size w W) (hs : SetIn W ba (midsV d p)) => ref03_Meets ba bu ca cu (midsV d p) ms W hs (h1.keep h) (by omega))
  have M2 := Lib.hid (fun ba ca W (h : Below w.heap.size w W) (hs : SetIn W ba (linksV d p)) => ref03_Meets ba bv ca cv (linksV d p) ks W hs (h2.keep h) (by omega))
  generalize hit true (nums (midsV d p)) ms = x1 at *
  generalize hit true (nums (linksV d p)) ks = x2 at *
  generalize midsV d p = M at *
  generalize linksV d p = L at *
  clear hz hu hv h1 h2
  cases x1 with
  | true =>
    rw [show (!true && !x2) = false from rfl]
    go_enter Tryz.func37, Tryz.ntmps37
    go_wp2_with fail
    refine (HT.out _).mono ?_
    rintro e w1 ⟨v1, u1, rfl, ov, ou, hb1⟩
    have HB := Lib.hid (below_then (show Below w.heap.size w ((w.alloc (.cells #[.int .i64 d.x, .int .i64 d.y, .int .i64 d.z] 23)).alloc (.cells #[.int .i64 p.b.b.x, .int .i64 p.b.b.y, .int .i64 p.b.b.z, .int .i64 p.b.s.x, .int .i64 p.b.s.y, .int .i64 p.b.s.z, .bool p.t0, .bool p.t1, .bool p.t2] 31)) by (repeat (first | (with_reducible exact Below.refl _ _) | (with_reducible assumption) | (with_reducible refine below_alloc ?_ _) | (with_reducible refine below_drewN ?_ _) | (with_reducible refine Below.drew ?_) | (with_reducible refine below_then ?_ (by with_reducible assumption)) | (with_reducible refine Below.setCell ?_ (by go_size) _)))) hb1)
    obtain ⟨b1, c1, rfl, s1, _⟩ := set_of_own ov (by omega) F1.out.1
    have S1 := Lib.hid s1
    clear hb1 ov ou s1
    go_wp2_with fail
    refine (M1.out _ _ _ HB.out S1.out).mono ?_
    rintro e w2 ⟨rfl, hb⟩
    have HB := Lib.hid (below_then HB.out hb)
    clear hb
    go_wp2_with fail
    go_returns
    exact ⟨rfl, HB.out⟩
  | false =>
    rw [show (!false && !x2) = !x2 from rfl]
    go_enter Tryz.func37, Tryz.ntmps37
    go_wp2_with fail
    refine (HT.out _).mono ?_
    rintro e w1 ⟨v1, u1, rfl, ov, ou, hb1⟩
    have HB := Lib.hid (below_then (show Below w.heap.size w ((w.alloc (.cells #[.int .i64 d.x, .int .i64 d.y, .int .i64 d.z] 23)).alloc (.cells #[.int .i64 p.b.b.x, .int .i64 p.b.b.y, .int .i64 p.b.b.z, .int .i64 p.b.s.x, .int .i64 p.b.s.y, .int .i64 p.b.s.z, .bool p.t0, .bool p.t1, .bool p.t2] 31)) by (repeat (first | (with_reducible exact Below.refl _ _) | (with_reducible assumption) | (with_reducible refine below_alloc ?_ _) | (with_reducible refine below_drewN ?_ _) | (with_reducible refine Below.drew ?_) | (with_reducible refine below_then ?_ (by with_reducible assumption)) | (with_reducible refine Below.setCell ?_ (by go_size) _)))) hb1)
    obtain ⟨b1, c1, rfl, s1, _⟩ := set_of_own ov (by omega) F1.out.1
    obtain ⟨b2, c2, rfl, s2, _⟩ := set_of_own ou (by omega) F1.out.2
    have S1 := Lib.hid s1
    have S2 := Lib.hid s2
    clear hb1 ov ou s1 s2
    go_wp2_with fail
    refine (M1.out _ _ _ HB.out S1.out).mono ?_
    rintro e w2 ⟨rfl, hb⟩
    have HB := Lib.hid (below_then HB.out hb)
    have S2 := Lib.hid (S2.out.keep hb)
    clear hb
    go_wp2_with fail
    refine (M2.out _ _ _ HB.out S2.out).mono ?_
    rintro e w3 ⟨rfl, hb⟩
    have HB := Lib.hid (below_then HB.out hb)
    clear hb
    cases x2
    all_goals
      go_wp2_with fail
      go_returns
      exact ⟨rfl, HB.out⟩
set_option maxRecDepth 100000 in set_option maxHeartbeats 4000000 in
theorem ref11_Holds (d : V3) (p : Pl) (u v : Value) (ms ks : List Nat) (w : World) (hu : SS w u ms) (hv : SS w v ks) :
    Calls Tryz.prog 13 #[.agg #[.int .i64 d.x, .int .i64 d.y, .int .i64 d.z], .agg #[.int .i64 p.b.b.x, .int .i64 p.b.b.y, .int .i64 p.b.b.z, .int .i64 p.b.s.x, .int .i64 p.b.s.y, .int .i64 p.b.s.z, .bool p.t0, .bool p.t1, .bool p.t2], u, v] w (RB w (.tuple #[.bool (holdV d p ms ks), .int .i64 (holdE d p ms ks)])) := by
  have HC := Lib.hid (fun W => ref06_Check d p W)
  have hE : holdE d p ms ks = if plChk d p = 0 then (if setsOk d.n ms ks then 0 else 8) else plChk d p := rfl
  have hV : holdV d p ms ks = if holdE d p ms ks = 0 then holdB d p ms ks else false := rfl
  obtain ⟨fu, fv⟩ : W64 ms ∧ W64 ks := by
    obtain ⟨_, _, _, h1⟩ := hu.ex
    obtain ⟨_, _, _, h2⟩ := hv.ex
    exact ⟨h1.fit, h2.fit⟩
  by_cases hz : plChk d p = 0
  · have hf := pl_facts hz
    have hd := hf.may
    have hnm := pl_nMay hd
    have HN := Lib.hid (fun W => ref01_N d W hd)
    have SE := Lib.hid (fun W (h : Below w.heap.size w W) => ref11_maySets d.n u v ms ks W (hu.keep h) (hv.keep h) hnm.1 hnm.2)
    rw [if_pos hz] at hE
    rw [hz] at HC
    cases so : setsOk d.n ms ks with
    | false =>
      rw [so, if_neg (by decide)] at hE
      rw [hE, if_neg (by decide)] at hV
      rw [hV, hE]
      rw [so] at SE
      clear hu hv hE hV so hz hf hd fu fv hnm
      generalize d.n = n at *
      go_enter Tryz.func13, Tryz.ntmps13
      go_wp2_with fail
      refine (HC.out _).mono ?_
      rintro e w1 ⟨rfl, hb1⟩
      (have BD := Lib.hid (((Blk.new w 23 #[.int .i64 d.x, .int .i64 d.y, .int .i64 d.z]).alloc (.cells #[.int .i64 p.b.b.x, .int .i64 p.b.b.y, .int .i64 p.b.b.z, .int .i64 p.b.s.x, .int .i64 p.b.s.y, .int .i64 p.b.s.z, .bool p.t0, .bool p.t1, .bool p.t2] 31)).below hb1); have BP := Lib.hid ((by have := (Blk.new (w.alloc (.cells #[.int .i64 d.x, .int .i64 d.y, .int .i64 d.z] 23)) 31 #[.int .i64 p.b.b.x, .int .i64 p.b.b.y, .int .i64 p.b.b.z, .int .i64 p.b.s.x, .int .i64 p.b.s.y, .int .i64 p.b.s.z, .bool p.t0, .bool p.t1, .bool p.t2]).below hb1; rwa [World.size_alloc] at this : Blk w1 (w.heap.size + 1) 31 #[.int .i64 p.b.b.x, .int .i64 p.b.b.y, .int .i64 p.b.b.z, .int .i64 p.b.s.x, .int .i64 p.b.s.y, .int .i64 p.b.s.z, .bool p.t0, .bool p.t1, .bool p.t2])); have HB := Lib.hid (below_then (show Below w.heap.size w ((w.alloc (.cells #[.int .i64 d.x, .int .i64 d.y, .int .i64 d.z] 23)).alloc (.cells #[.int .i64 p.b.b.x, .int .i64 p.b.b.y, .int .i64 p.b.b.z, .int .i64 p.b.s.x, .int .i64 p.b.s.y, .int .i64 p.b.s.z, .bool p.t0, .bool p.t1, .bool p.t2] 31)) by (repeat (first | (with_reducible exact Below.refl _ _) | (with_reducible assumption) | (with_reducible refine below_alloc ?_ _) | (with_reducible refine below_drewN ?_ _) | (with_reducible refine Below.drew ?_) | (with_reducible refine below_then ?_ (by with_reducible assumption)) | (with_reducible refine Below.setCell ?_ (by go_size) _)))) hb1); clear hb1)
      (have d0 := (BD.out).cell 0 _ rfl; have d1 := (BD.out).cell 1 _ rfl; have d2 := (BD.out).cell 2 _ rfl)
      go_wp2_with fail
      refine (HN.out _).mono ?_
      rintro e w2 ⟨rfl, hb⟩
      have HB := Lib.hid (below_then HB.out hb)
      clear hb
      (clear d0 d1 d2)
      go_wp2_with fail
      refine (SE.out _ HB.out).mono ?_
      rintro e w3 ⟨rfl, hb⟩
      have HB := Lib.hid (below_then HB.out hb)
      clear hb
      go_wp2_with fail
      go_returns
      exact ⟨rfl, HB.out⟩
    | true =>
      rw [so, if_pos rfl] at hE
      rw [if_pos hE, hold_hit hE fu fv] at hV
      rw [hV, hE]
      rw [so] at SE
      have KC := Lib.hid (fun W (h : Below w.heap.size w W) => ref11_Clear d p u v ms ks W hz (hu.keep h) (hv.keep h))
      clear hu hv hE hV so hf hd fu fv hnm
      generalize (!hit true (nums (midsV d p)) ms && !hit true (nums (linksV d p)) ks) = x at *
      generalize d.n = n at *
      clear hz
      go_enter Tryz.func13, Tryz.ntmps13
      go_wp2_with fail
      refine (HC.out _).mono ?_
      rintro e w1 ⟨rfl, hb1⟩
      (have BD := Lib.hid (((Blk.new w 23 #[.int .i64 d.x, .int .i64 d.y, .int .i64 d.z]).alloc (.cells #[.int .i64 p.b.b.x, .int .i64 p.b.b.y, .int .i64 p.b.b.z, .int .i64 p.b.s.x, .int .i64 p.b.s.y, .int .i64 p.b.s.z, .bool p.t0, .bool p.t1, .bool p.t2] 31)).below hb1); have BP := Lib.hid ((by have := (Blk.new (w.alloc (.cells #[.int .i64 d.x, .int .i64 d.y, .int .i64 d.z] 23)) 31 #[.int .i64 p.b.b.x, .int .i64 p.b.b.y, .int .i64 p.b.b.z, .int .i64 p.b.s.x, .int .i64 p.b.s.y, .int .i64 p.b.s.z, .bool p.t0, .bool p.t1, .bool p.t2]).below hb1; rwa [World.size_alloc] at this : Blk w1 (w.heap.size + 1) 31 #[.int .i64 p.b.b.x, .int .i64 p.b.b.y, .int .i64 p.b.b.z, .int .i64 p.b.s.x, .int .i64 p.b.s.y, .int .i64 p.b.s.z, .bool p.t0, .bool p.t1, .bool p.t2])); have HB := Lib.hid (below_then (show Below w.heap.size w ((w.alloc (.cells #[.int .i64 d.x, .int .i64 d.y, .int .i64 d.z] 23)).alloc (.cells #[.int .i64 p.b.b.x, .int .i64 p.b.b.y, .int .i64 p.b.b.z, .int .i64 p.b.s.x, .int .i64 p.b.s.y, .int .i64 p.b.s.z, .bool p.t0, .bool p.t1, .bool p.t2] 31)) by (repeat (first | (with_reducible exact Below.refl _ _) | (with_reducible assumption) | (with_reducible refine below_alloc ?_ _) | (with_reducible refine below_drewN ?_ _) | (with_reducible refine Below.drew ?_) | (with_reducible refine below_then ?_ (by with_reducible assumption)) | (with_reducible refine Below.setCell ?_ (by go_size) _)))) hb1); clear hb1)
      (have d0 := (BD.out).cell 0 _ rfl; have d1 := (BD.out).cell 1 _ rfl; have d2 := (BD.out).cell 2 _ rfl)
      go_wp2_with fail
      refine (HN.out _).mono ?_
      rintro e w2 ⟨rfl, hb⟩
      have HB := Lib.hid (below_then HB.out hb)
      have BD := Lib.hid (BD.out.below hb)
      have BP := Lib.hid (BP.out.below hb)
      clear hb
      (clear d0 d1 d2)
      go_wp2_with fail
      refine (SE.out _ HB.out).mono ?_
      rintro e w3 ⟨rfl, hb⟩
      have HB := Lib.hid (below_then HB.out hb)
      have BD := Lib.hid (BD.out.below hb)
      have BP := Lib.hid (BP.out.below hb)
      clear hb
      (have d0 := (BD.out).cell 0 _ rfl; have d1 := (BD.out).cell 1 _ rfl; have d2 := (BD.out).cell 2 _ rfl)
      (have p0 := (BP.out).cell 0 _ rfl; have p1 := (BP.out).cell 1 _ rfl; have p2 := (BP.out).cell 2 _ rfl; have p3 := (BP.out).cell 3 _ rfl; have p4 := (BP.out).cell 4 _ rfl; have p5 := (BP.out).cell 5 _ rfl; have p6 := (BP.out).cell 6 _ rfl; have p7 := (BP.out).cell 7 _ rfl; have p8 := (BP.out).cell 8 _ rfl)
      go_wp2_with fail
      refine (KC.out _ HB.out).mono ?_
      rintro e w4 ⟨rfl, hb⟩
      have HB := Lib.hid (below_then HB.out hb)
      clear hb
      (clear d0 d1 d2)
      (clear p0 p1 p2 p3 p4 p5 p6 p7 p8)
      go_wp2_with fail
      go_returns
      exact ⟨rfl, HB.out⟩
  · rw [if_neg hz] at hE
    rw [hE, if_neg hz] at hV
    have hy : (plChk d p != 0) = true := by simpa using hz
    rw [hV, hE]
    generalize plChk d p = x at *
    clear hz hE hV hu hv
    go_enter Tryz.func13, Tryz.ntmps13
    go_wp2_with ((with_reducible refine (HC.out _).mono ?_); rintro e w1 ⟨rfl, hb1⟩; (obtain ⟨hc1, hf1⟩ := bcell hb1; have hz1 := hb1.size; (try simp at hz1); have hB : Below w.heap.size w w1 := (by (repeat (first | (with_reducible exact Below.refl _ _) | (with_reducible assumption) | (with_reducible refine below_alloc ?_ _) | (with_reducible refine below_drewN ?_ _) | (with_reducible refine Below.drew ?_) | (with_reducible refine below_then ?_ (by with_reducible assumption)) | (with_reducible refine Below.setCell ?_ (by go_size) _)))); obtain ⟨hcB, hfB⟩ := bcell hB; (try have z0 : w.heap.size < w1.heap.size := by omega); (try have z1 : w.heap.size + 1 < w1.heap.size := by omega); (try have z2 : w.heap.size + 2 < w1.heap.size := by omega); (try have z3 : w.heap.size + 3 < w1.heap.size := by omega)))
    all_goals
      go_returns
      exact ⟨rfl, by (repeat (first | (with_reducible exact Below.refl _ _) | (with_reducible assumption) | (with_reducible refine below_alloc ?_ _) | (with_reducible refine below_drewN ?_ _) | (with_reducible refine Below.drew ?_) | (with_reducible refine below_then ?_ (by with_reducible assumption)) | (with_reducible refine Below.setCell ?_ (by go_size) _)))⟩
end
end Go.Proofs.YtofoenlhbmammaaGreat
