/- FREE: what is to be avoided; whether a place is free of sets: the code's. -/
import Derived.Test.YtofoenlhbmammaaGreatQ0PlSetsF11
import Derived.Test.YtofoenlhbmammaaGreatQ14F11
set_option linter.unusedVariables false
set_option linter.unusedSimpArgs false
namespace Go.Proofs.YtofoenlhbmammaaGreat

section
open Go.RowKit Go.Shelf

/-- A set, as it may be read, and no error. -/
def RS1 (w : World) (a : List Nat) : Ending → World → Prop := fun e w' => ∃ x, e = .returned (.tuple #[x, .int .i64 0]) ∧ SS w' x a ∧ Below w.heap.size w w'
/-- Two sets, as they may be read. -/
def RS2 (w : World) (a b : List Nat) : Ending → World → Prop := fun e w' => ∃ x y, e = .returned (.tuple #[x, y]) ∧ SS w' x a ∧ SS w' y b ∧ Below w.heap.size w w'
def setsE (n : Int) (a b : List Nat) : Int := if setsOk n a b then 0 else 8
set_option maxRecDepth 100000 in set_option maxHeartbeats 4000000 in
theorem free_sets (n : Int) (u v : Value) (a b : List Nat) (w : World) (hu : SS w u a) (hv : SS w v b) (hn : 0 ≤ n ∧ n ≤ 1000000) : Calls Tryz.prog 26 #[.int .i64 n, u, v] w (RB w (.int .i64 (setsE n a b))) := by
  obtain ⟨b1, c1, rfl, h1⟩ := hu.ex
  obtain ⟨b2, c2, rfl, h2⟩ := hv.ex
  have K1 := Lib.hid (set_Check n b1 c1 a w h1.rd h1.len h1.fit)
  have K2 := Lib.hid (set_Check (3 * n) b2 c2 b w h2.rd h2.len h2.fit)
  have hE : setsE n a b = if setsOk n a b then 0 else 8 := rfl
  clear h1 h2 hu hv
  by_cases z1 : sChk n a = 0
  · by_cases z2 : sChk (3 * n) b = 0
    · rw [if_pos (setsOk_iff.2 ⟨z1, z2⟩)] at hE
      rw [hE]
      rw [z1] at K1
      rw [z2] at K2
      clear z1 z2 hE
      go_enter Tryz.func26, Tryz.ntmps26
      go_wp2_with (first | ((with_reducible refine K1.out.mono ?_); rintro e w3 ⟨rfl, hw3⟩; have hw3 := hw3.symm; subst hw3) | ((with_reducible refine K2.out.mono ?_); rintro e w3 ⟨rfl, hw3⟩; have hw3 := hw3.symm; subst hw3))
      all_goals
        go_returns
        exact ⟨rfl, by (repeat (first | (with_reducible exact Below.refl _ _) | (with_reducible assumption) | (with_reducible refine below_alloc ?_ _) | (with_reducible refine below_drewN ?_ _) | (with_reducible refine Below.drew ?_) | (with_reducible refine below_then ?_ (by with_reducible assumption)) | (with_reducible refine Below.setCell ?_ (by go_size) _)))⟩
    · rw [if_neg (fun h => z2 (setsOk_iff.1 h).2)] at hE
      rw [hE]
      have y2 : (sChk (3 * n) b != 0) = true := by simpa using z2
      rw [z1] at K1
      generalize sChk (3 * n) b = x at *
      clear z1 z2 hE
      go_enter Tryz.func26, Tryz.ntmps26
      go_wp2_with (first | ((with_reducible refine K1.out.mono ?_); rintro e w3 ⟨rfl, hw3⟩; have hw3 := hw3.symm; subst hw3) | ((with_reducible refine K2.out.mono ?_); rintro e w3 ⟨rfl, hw3⟩; have hw3 := hw3.symm; subst hw3))
      all_goals
        go_returns
        exact ⟨rfl, by (repeat (first | (with_reducible exact Below.refl _ _) | (with_reducible assumption) | (with_reducible refine below_alloc ?_ _) | (with_reducible refine below_drewN ?_ _) | (with_reducible refine Below.drew ?_) | (with_reducible refine below_then ?_ (by with_reducible assumption)) | (with_reducible refine Below.setCell ?_ (by go_size) _)))⟩
  · rw [if_neg (fun h => z1 (setsOk_iff.1 h).1)] at hE
    rw [hE]
    have y1 : (sChk n a != 0) = true := by simpa using z1
    generalize sChk n a = x at *
    clear z1 hE K2
    go_enter Tryz.func26, Tryz.ntmps26
    go_wp2_with ((with_reducible refine K1.out.mono ?_); rintro e w3 ⟨rfl, hw3⟩; have hw3 := hw3.symm; subst hw3)
    all_goals
      go_returns
      exact ⟨rfl, by (repeat (first | (with_reducible exact Below.refl _ _) | (with_reducible assumption) | (with_reducible refine below_alloc ?_ _) | (with_reducible refine below_drewN ?_ _) | (with_reducible refine Below.drew ?_) | (with_reducible refine below_then ?_ (by with_reducible assumption)) | (with_reducible refine Below.setCell ?_ (by go_size) _)))⟩
set_option maxRecDepth 100000 in set_option maxHeartbeats 4000000 in
theorem free_both_Or (n : Int) (m l u v : Value) (a b : List Nat) (w : World) (hn : 0 ≤ n ∧ n ≤ 1000000) (J1 : RowKit.Hid (∀ W, Below w.heap.size w W → Calls Tryz.prog 22 #[.int .i64 n, m, u] W (RS1 W a))) (J2 : RowKit.Hid (∀ W, Below w.heap.size w W → Calls Tryz.prog 22 #[.int .i64 (3 * n), l, v] W (RS1 W b))) :
    Calls Tryz.prog 27 #[.int .i64 n, .func (.func 22) #[] #[], m, l, u, v] w (RS2 w a b) := by
  have eg : ∀ args w, (callFunc 22 args).run Tryz.prog w = .ok (.enter 22 args) w := enters_of Tryz.func22 (by kernel_rfl) rfl
  go_enter Tryz.func27, Tryz.ntmps27
  go_wp2_with fail
  refine (J1.out _ (Below.refl _ _)).mono ?_
  rintro e w1 ⟨x, rfl, hx, hb1⟩
  have HX := Lib.hid hx
  have HB := Lib.hid hb1
  clear hx hb1
  go_wp2_with fail
  refine (J2.out _ HB.out).mono ?_
  rintro e w2 ⟨y, rfl, hy, hb2⟩
  have HX := Lib.hid (HX.out.keep hb2)
  have HY := Lib.hid hy
  have HB := Lib.hid (below_then HB.out hb2)
  clear hy hb2
  go_wp2_with fail
  go_returns
  exact ⟨_, _, rfl, HX.out, HY.out, HB.out⟩

set_option maxRecDepth 100000 in set_option maxHeartbeats 4000000 in
theorem free_both_And (n : Int) (m l u v : Value) (a b : List Nat) (w : World) (hn : 0 ≤ n ∧ n ≤ 1000000) (J1 : RowKit.Hid (∀ W, Below w.heap.size w W → Calls Tryz.prog 33 #[.int .i64 n, m, u] W (RS1 W a))) (J2 : RowKit.Hid (∀ W, Below w.heap.size w W → Calls Tryz.prog 33 #[.int .i64 (3 * n), l, v] W (RS1 W b))) :
    Calls Tryz.prog 27 #[.int .i64 n, .func (.func 33) #[] #[], m, l, u, v] w (RS2 w a b) := by
  have eg : ∀ args w, (callFunc 33 args).run Tryz.prog w = .ok (.enter 33 args) w := enters_of Tryz.func33 (by kernel_rfl) rfl
  go_enter Tryz.func27, Tryz.ntmps27
  go_wp2_with fail
  refine (J1.out _ (Below.refl _ _)).mono ?_
  rintro e w1 ⟨x, rfl, hx, hb1⟩
  have HX := Lib.hid hx
  have HB := Lib.hid hb1
  clear hx hb1
  go_wp2_with fail
  refine (J2.out _ HB.out).mono ?_
  rintro e w2 ⟨y, rfl, hy, hb2⟩
  have HX := Lib.hid (HX.out.keep hb2)
  have HY := Lib.hid hy
  have HB := Lib.hid (below_then HB.out hb2)
  clear hy hb2
  go_wp2_with fail
  go_returns
  exact ⟨_, _, rfl, HX.out, HY.out, HB.out⟩

section
variable {W : World} {u v : Value} {a b : List Nat} (hu : SS W u a) (hv : SS W v b) {n : Int} (h : sChk2 n a b = 0)
include hu hv h
theorem ss_And : Calls Tryz.prog 33 #[.int .i64 n, u, v] W (RS1 W (joinIf andW n a b)) := by
  obtain ⟨b1, c1, rfl, h1⟩ := hu.ex
  obtain ⟨b2, c2, rfl, h2⟩ := hv.ex
  have := (show Calls Tryz.prog 33 #[.int .i64 n, .slice b1 a.length c1, .slice b2 b.length c2] W (RUE W (joinIf andW n a b) (sChk2 n a b)) from set_And n b1 b2 c1 c2 a b W h1 h2)
  rw [h] at this
  have hlen : (joinIf andW n a b).length ≤ 4611686018427387904 := Nat.le_trans joinIf_len h1.len
  have hfit := joinIf_fit (n := n) andW_fit h1.fit h2.fit
  refine this.mono ?_
  rintro e W' ⟨x, rfl, hx, hb⟩
  exact ⟨x, rfl, SS.of hx hlen hfit, hb⟩
theorem ss_Or1 : Calls Tryz.prog 22 #[.int .i64 n, u, v] W (RS1 W (joinIf orW n a b)) := ss_Or hu hv h
end
set_option maxRecDepth 100000 in set_option maxHeartbeats 4000000 in
theorem free_Avoid (vy : Value) (y : Yd) (u v : Value) (ms ks : List Nat) (f t : Int) (w : World) (hy : YS w vy y) (hu : SS w u ms) (hv : SS w v ks) :
    Calls Tryz.prog 10 #[vy, u, v, .agg #[.int .i64 f, .int .i64 t]] w (RSS w (avV y ms ks f t).1 (avV y ms ks f t).2 (avE y ms ks f t)) := by
  have hm := hy.many.1
  have BU := Lib.hid (fun W (h : Below w.heap.size w W) => y_Busy (hy.keep h) f t)
  have SE := Lib.hid (fun W (h : Below w.heap.size w W) => free_sets y.ns.length u v ms ks W (hu.keep h) (hv.keep h) (by omega))
  have hE : avE y ms ks f t = if busyE y f t = 0 then (if setsOk y.ns.length ms ks then 0 else 8) else busyE y f t := rfl
  have hV : avV y ms ks f t = if avE y ms ks f t = 0 then (joinIf orW y.ns.length (busyV y f t).1 ms, joinIf orW (3 * y.ns.length) (busyV y f t).2 ks) else ([], []) := rfl
  have HU := Lib.hid hu
  have HV := Lib.hid hv
  obtain ⟨fu, fv⟩ : W64 ms ∧ W64 ks := by
    obtain ⟨_, _, _, h1⟩ := hu.ex
    obtain ⟨_, _, _, h2⟩ := hv.ex
    exact ⟨h1.fit, h2.fit⟩
  by_cases z : busyE y f t = 0
  · obtain ⟨hok, hsp⟩ := busyE_0 z
    have hB := busyV_go hok hsp
    have hM := Yd.ok_many hok
    have hL := Yd.ok_len hok
    rw [if_pos z] at hE
    rw [z] at BU
    cases so : setsOk y.ns.length ms ks with
    | false =>
      rw [so, if_neg (by decide)] at hE
      rw [hE, if_neg (by decide)] at hV
      rw [hV, hE]
      have SE2 := Lib.hid (fun W (h : Below w.heap.size w W) => by have hh := SE.out W h; rw [show setsE y.ns.length ms ks = 8 by unfold setsE; rw [so]; rfl] at hh; exact hh)
      obtain ⟨bn, bl, cn, cl, rfl, h1, h3⟩ := hy.ex
      clear hu hv hy hE hV so z hok hsp hB hM hL h1 h3 SE
      go_enter Tryz.func10, Tryz.ntmps10
      go_wp2_with fail
      refine (BU.out _ (by (repeat (first | (with_reducible exact Below.refl _ _) | (with_reducible assumption) | (with_reducible refine below_alloc ?_ _) | (with_reducible refine below_drewN ?_ _) | (with_reducible refine Below.drew ?_) | (with_reducible refine below_then ?_ (by with_reducible assumption)) | (with_reducible refine Below.setCell ?_ (by go_size) _))))).mono ?_
      rintro e w1 ⟨a1, a2, rfl, A1, A2, hb1⟩
      have YB := Lib.hid (((Blk.new w 26 #[.int .i64 y.d.x, .int .i64 y.d.y, .int .i64 y.d.z, (.slice bn y.ns.length cn), (.slice bl y.ls.length cl)]).alloc (.cells #[.int .i64 f, .int .i64 t] 35)).below hb1)
      have HB := Lib.hid (below_then (show Below w.heap.size w ((w.alloc (.cells #[.int .i64 y.d.x, .int .i64 y.d.y, .int .i64 y.d.z, (.slice bn y.ns.length cn), (.slice bl y.ls.length cl)] 26)).alloc (.cells #[.int .i64 f, .int .i64 t] 35)) by (repeat (first | (with_reducible exact Below.refl _ _) | (with_reducible assumption) | (with_reducible refine below_alloc ?_ _) | (with_reducible refine below_drewN ?_ _) | (with_reducible refine Below.drew ?_) | (with_reducible refine below_then ?_ (by with_reducible assumption)) | (with_reducible refine Below.setCell ?_ (by go_size) _)))) hb1)
      clear hb1 A1 A2
      have y3 := YB.out.cell 3 _ rfl
      go_wp2_with fail
      refine (SE2.out _ HB.out).mono ?_
      rintro e w2 ⟨rfl, hb⟩
      have HB := Lib.hid (below_then HB.out hb)
      clear hb y3
      go_wp2_with fail
      go_returns
      exact ⟨_, _, rfl, SS.of (World.ownsRow_nil _ w.heap.size _ _) (by simp) fit_nil, SS.of (World.ownsRow_nil _ w.heap.size _ _) (by simp) fit_nil, HB.out⟩
    | true =>
      obtain ⟨s1, s2⟩ := setsOk_iff.1 so
      rw [so, if_pos rfl] at hE
      rw [if_pos hE] at hV
      rw [hV, hE]
      have SE2 := Lib.hid (fun W (h : Below w.heap.size w W) => by have hh := SE.out W h; rw [show setsE y.ns.length ms ks = 0 by unfold setsE; rw [so]; rfl] at hh; exact hh)
      have c1 : sChk2 y.ns.length (busyV y f t).1 ms = 0 := by rw [hB.1]; exact sChk2_of (whS_chk _ hM.1) s1
      have c2 : sChk2 (3 * (y.ns.length : Int)) (busyV y f t).2 ks = 0 := by rw [hB.1]; exact sChk2_of (by rw [← hL]; exact whS_chk _ hM.2) s2
      have O1 := Lib.hid (fun W x (hx : SS W x (busyV y f t).1) (hu : SS W u ms) => ss_Or1 hx hu c1)
      have O2 := Lib.hid (fun W x (hx : SS W x (busyV y f t).2) (hv : SS W v ks) => ss_Or1 hx hv c2)
      obtain ⟨bn, bl, cn, cl, rfl, h1, h3⟩ := hy.ex
      generalize joinIf orW y.ns.length (busyV y f t).1 ms = X1 at *
      generalize joinIf orW (3 * (y.ns.length : Int)) (busyV y f t).2 ks = X2 at *
      generalize (busyV y f t).1 = B1 at *
      generalize (busyV y f t).2 = B2 at *
      clear hu hv hy hE hV so z hok hsp hB hM hL h1 h3 SE c1 c2 s1 s2
      go_enter Tryz.func10, Tryz.ntmps10
      go_wp2_with fail
      refine (BU.out _ (by (repeat (first | (with_reducible exact Below.refl _ _) | (with_reducible assumption) | (with_reducible refine below_alloc ?_ _) | (with_reducible refine below_drewN ?_ _) | (with_reducible refine Below.drew ?_) | (with_reducible refine below_then ?_ (by with_reducible assumption)) | (with_reducible refine Below.setCell ?_ (by go_size) _))))).mono ?_
      rintro e w1 ⟨a1, a2, rfl, A1, A2, hb1⟩
      have YB := Lib.hid (((Blk.new w 26 #[.int .i64 y.d.x, .int .i64 y.d.y, .int .i64 y.d.z, (.slice bn y.ns.length cn), (.slice bl y.ls.length cl)]).alloc (.cells #[.int .i64 f, .int .i64 t] 35)).below hb1)
      have HB := Lib.hid (below_then (show Below w.heap.size w ((w.alloc (.cells #[.int .i64 y.d.x, .int .i64 y.d.y, .int .i64 y.d.z, (.slice bn y.ns.length cn), (.slice bl y.ls.length cl)] 26)).alloc (.cells #[.int .i64 f, .int .i64 t] 35)) by (repeat (first | (with_reducible exact Below.refl _ _) | (with_reducible assumption) | (with_reducible refine below_alloc ?_ _) | (with_reducible refine below_drewN ?_ _) | (with_reducible refine Below.drew ?_) | (with_reducible refine below_then ?_ (by with_reducible assumption)) | (with_reducible refine Below.setCell ?_ (by go_size) _)))) hb1)
      have A1 := Lib.hid A1
      have A2 := Lib.hid A2
      clear hb1
      have y3 := YB.out.cell 3 _ rfl
      go_wp2_with fail
      refine (SE2.out _ HB.out).mono ?_
      rintro e w2 ⟨rfl, hb⟩
      have HB := Lib.hid (below_then HB.out hb)
      have A1 := Lib.hid (A1.out.keep hb)
      have A2 := Lib.hid (A2.out.keep hb)
      clear hb y3
      go_wp2_with fail
      refine (free_both_Or y.ns.length a1 a2 u v X1 X2 w2 (by omega) (Lib.hid (fun W h => O1.out W _ (A1.out.keep h) (HU.out.keep (below_then HB.out h)))) (Lib.hid (fun W h => O2.out W _ (A2.out.keep h) (HV.out.keep (below_then HB.out h))))).mono ?_
      rintro e w3 ⟨x1, x2, rfl, H1, H2, hb⟩
      have H1 := Lib.hid H1
      have H2 := Lib.hid H2
      have HB := Lib.hid (below_then HB.out hb)
      clear hb
      go_wp2_with fail
      go_returns
      exact ⟨_, _, rfl, H1.out, H2.out, HB.out⟩
  · rw [if_neg z] at hE
    rw [hE, if_neg z] at hV
    rw [hV, hE]
    have hy2 : (busyE y f t != 0) = true := by simpa using z
    obtain ⟨bn, bl, cn, cl, rfl, h1, h3⟩ := hy.ex
    generalize busyE y f t = x at *
    clear hu hv hy hE hV z h1 h3 SE
    go_enter Tryz.func10, Tryz.ntmps10
    go_wp2_with fail
    refine (BU.out _ (by (repeat (first | (with_reducible exact Below.refl _ _) | (with_reducible assumption) | (with_reducible refine below_alloc ?_ _) | (with_reducible refine below_drewN ?_ _) | (with_reducible refine Below.drew ?_) | (with_reducible refine below_then ?_ (by with_reducible assumption)) | (with_reducible refine Below.setCell ?_ (by go_size) _))))).mono ?_
    rintro e w1 ⟨a1, a2, rfl, A1, A2, hb1⟩
    have HB := Lib.hid (below_then (show Below w.heap.size w ((w.alloc (.cells #[.int .i64 y.d.x, .int .i64 y.d.y, .int .i64 y.d.z, (.slice bn y.ns.length cn), (.slice bl y.ls.length cl)] 26)).alloc (.cells #[.int .i64 f, .int .i64 t] 35)) by (repeat (first | (with_reducible exact Below.refl _ _) | (with_reducible assumption) | (with_reducible refine below_alloc ?_ _) | (with_reducible refine below_drewN ?_ _) | (with_reducible refine Below.drew ?_) | (with_reducible refine below_then ?_ (by with_reducible assumption)) | (with_reducible refine Below.setCell ?_ (by go_size) _)))) hb1)
    clear hb1 A1 A2
    go_wp2_with fail
    go_returns
    exact ⟨_, _, rfl, SS.of (World.ownsRow_nil _ w.heap.size _ _) (by simp) fit_nil, SS.of (World.ownsRow_nil _ w.heap.size _ _) (by simp) fit_nil, HB.out⟩
set_option maxRecDepth 100000 in set_option maxHeartbeats 4000000 in
theorem free_Holds (d : V3) (p : Pl) (u v : Value) (ms ks : List Nat) (w : World) (hu : SS w u ms) (hv : SS w v ks) :
    Calls Tryz.prog 12 #[.agg #[.int .i64 d.x, .int .i64 d.y, .int .i64 d.z], .agg #[.int .i64 p.b.b.x, .int .i64 p.b.b.y, .int .i64 p.b.b.z, .int .i64 p.b.s.x, .int .i64 p.b.s.y, .int .i64 p.b.s.z, .bool p.t0, .bool p.t1, .bool p.t2], u, v] w (RB w (.tuple #[.bool (holdV d p ms ks), .int .i64 (holdE d p ms ks)])) := by
  have HS := Lib.hid (fun W => place_Sets d p W)
  have hE : holdE d p ms ks = if plChk d p = 0 then (if setsOk d.n ms ks then 0 else 8) else plChk d p := rfl
  have hV : holdV d p ms ks = if holdE d p ms ks = 0 then holdB d p ms ks else false := rfl
  obtain ⟨fu, fv⟩ : W64 ms ∧ W64 ks := by
    obtain ⟨_, _, _, h1⟩ := hu.ex
    obtain ⟨_, _, _, h2⟩ := hv.ex
    exact ⟨h1.fit, h2.fit⟩
  by_cases hz : plChk d p = 0
  · have hf := pl_facts hz
    have hd := hf.may
    have hnn := V3.n_le hd
    have HP := Lib.hid (fun W => pos_Many d W)
    rw [V3.many_ok hd, V3.err_ok hd] at HP
    have SE := Lib.hid (fun W (h : Below w.heap.size w W) => free_sets d.n u v ms ks W (hu.keep h) (hv.keep h) (by omega))
    have F1 := Lib.hid (And.intro (midsV_fit d p) (linksV_fit d p))
    have l1 := midsV_len d p
    have l2 := linksV_len d p
    rw [if_pos hz] at hE
    cases so : setsOk d.n ms ks with
    | false =>
      rw [so, if_neg (by decide)] at hE
      rw [hE, if_neg (by decide)] at hV
      rw [hV, hE]
      have SE2 := Lib.hid (fun W (h : Below w.heap.size w W) => by have hh := SE.out W h; rw [show setsE d.n ms ks = 8 by unfold setsE; rw [so]; rfl] at hh; exact hh)
      rw [hz] at HS
      clear hu hv hE hV so hz hf hd SE fu fv
      generalize midsV d p = M at *
      generalize linksV d p = L at *
      generalize d.n = n at *
      go_enter Tryz.func12, Tryz.ntmps12
      go_wp2_with fail
      refine (HS.out _).mono ?_
      rintro e w1 ⟨x1, x2, rfl, _, _, hb1⟩
      have BD := Lib.hid (((Blk.new w 23 #[.int .i64 d.x, .int .i64 d.y, .int .i64 d.z]).alloc (.cells #[.int .i64 p.b.b.x, .int .i64 p.b.b.y, .int .i64 p.b.b.z, .int .i64 p.b.s.x, .int .i64 p.b.s.y, .int .i64 p.b.s.z, .bool p.t0, .bool p.t1, .bool p.t2] 31)).below hb1)
      have HB := Lib.hid (below_then (show Below w.heap.size w ((w.alloc (.cells #[.int .i64 d.x, .int .i64 d.y, .int .i64 d.z] 23)).alloc (.cells #[.int .i64 p.b.b.x, .int .i64 p.b.b.y, .int .i64 p.b.b.z, .int .i64 p.b.s.x, .int .i64 p.b.s.y, .int .i64 p.b.s.z, .bool p.t0, .bool p.t1, .bool p.t2] 31)) by (repeat (first | (with_reducible exact Below.refl _ _) | (with_reducible assumption) | (with_reducible refine below_alloc ?_ _) | (with_reducible refine below_drewN ?_ _) | (with_reducible refine Below.drew ?_) | (with_reducible refine below_then ?_ (by with_reducible assumption)) | (with_reducible refine Below.setCell ?_ (by go_size) _)))) hb1)
      clear hb1
      (have d0 := (BD.out).cell 0 _ rfl; have d1 := (BD.out).cell 1 _ rfl; have d2 := (BD.out).cell 2 _ rfl)
      go_wp2_with fail
      refine (HP.out _).mono ?_
      rintro e w2 ⟨rfl, hb⟩
      have HB := Lib.hid (below_then HB.out hb)
      clear hb d0 d1 d2
      go_wp2_with fail
      refine (SE2.out _ HB.out).mono ?_
      rintro e w3 ⟨rfl, hb⟩
      have HB := Lib.hid (below_then HB.out hb)
      clear hb
      go_wp2_with fail
      go_returns
      exact ⟨rfl, HB.out⟩
    | true =>
      obtain ⟨s1, s2⟩ := setsOk_iff.1 so
      rw [so, if_pos rfl] at hE
      rw [if_pos hE] at hV
      have hmany := hold_many hE fu fv
      have a1 := and_may (sChk2_of hf.mChk s1) (midsV_fit d p) fu
      have a2 := and_may (sChk2_of hf.lChk s2) (linksV_fit d p) fv
      have SE2 := Lib.hid (fun W (h : Below w.heap.size w W) => by have hh := SE.out W h; rw [show setsE d.n ms ks = 0 by unfold setsE; rw [so]; rfl] at hh; exact hh)
      have c1 := sChk2_of hf.mChk s1
      have c2 := sChk2_of hf.lChk s2
      have O1 := Lib.hid (fun W x (hx : SS W x (midsV d p)) (hu : SS W u ms) => ss_And hx hu c1)
      have O2 := Lib.hid (fun W x (hx : SS W x (linksV d p)) (hv : SS W v ks) => ss_And hx hv c2)
      have N1 := Lib.hid (fun W ba ca (h : SetIn W ba (joinIf andW d.n (midsV d p) ms)) => by have hh := set_Many d.n ba ca _ W h; rw [a1.1] at hh; exact hh)
      have N2 := Lib.hid (fun W ba ca (h : SetIn W ba (joinIf andW (3 * d.n) (linksV d p) ks)) => by have hh := set_Many (3 * d.n) ba ca _ W h; rw [a2.1] at hh; exact hh)
      have r1 := manyV_le d.n (joinIf andW d.n (midsV d p) ms)
      have r2 := manyV_le (3 * d.n) (joinIf andW (3 * d.n) (linksV d p) ks)
      rw [hV, hE, ← hmany]
      rw [hz] at HS
      have HU := Lib.hid hu
      have HV := Lib.hid hv
      clear hu hv hE hV so hz hf hd SE fu fv hmany a1 a2 c1 c2 s1 s2
      generalize manyV d.n (joinIf andW d.n (midsV d p) ms) = q1 at *
      generalize manyV (3 * d.n) (joinIf andW (3 * d.n) (linksV d p) ks) = q2 at *
      generalize joinIf andW d.n (midsV d p) ms = X1 at *
      generalize joinIf andW (3 * d.n) (linksV d p) ks = X2 at *
      generalize midsV d p = M at *
      generalize linksV d p = L at *
      generalize d.n = n at *
      go_enter Tryz.func12, Tryz.ntmps12
      go_wp2_with fail
      refine (HS.out _).mono ?_
      rintro e w1 ⟨x1, x2, rfl, o1, o2, hb1⟩
      have BD := Lib.hid (((Blk.new w 23 #[.int .i64 d.x, .int .i64 d.y, .int .i64 d.z]).alloc (.cells #[.int .i64 p.b.b.x, .int .i64 p.b.b.y, .int .i64 p.b.b.z, .int .i64 p.b.s.x, .int .i64 p.b.s.y, .int .i64 p.b.s.z, .bool p.t0, .bool p.t1, .bool p.t2] 31)).below hb1)
      have HB := Lib.hid (below_then (show Below w.heap.size w ((w.alloc (.cells #[.int .i64 d.x, .int .i64 d.y, .int .i64 d.z] 23)).alloc (.cells #[.int .i64 p.b.b.x, .int .i64 p.b.b.y, .int .i64 p.b.b.z, .int .i64 p.b.s.x, .int .i64 p.b.s.y, .int .i64 p.b.s.z, .bool p.t0, .bool p.t1, .bool p.t2] 31)) by (repeat (first | (with_reducible exact Below.refl _ _) | (with_reducible assumption) | (with_reducible refine below_alloc ?_ _) | (with_reducible refine below_drewN ?_ _) | (with_reducible refine Below.drew ?_) | (with_reducible refine below_then ?_ (by with_reducible assumption)) | (with_reducible refine Below.setCell ?_ (by go_size) _)))) hb1)
      have A1 := Lib.hid (SS.of o1 (by omega) F1.out.1)
      have A2 := Lib.hid (SS.of o2 (by omega) F1.out.2)
      clear hb1 o1 o2
      (have d0 := (BD.out).cell 0 _ rfl; have d1 := (BD.out).cell 1 _ rfl; have d2 := (BD.out).cell 2 _ rfl)
      go_wp2_with fail
      refine (HP.out _).mono ?_
      rintro e w2 ⟨rfl, hb⟩
      have HB := Lib.hid (below_then HB.out hb)
      have A1 := Lib.hid (A1.out.keep hb)
      have A2 := Lib.hid (A2.out.keep hb)
      clear hb d0 d1 d2
      go_wp2_with fail
      refine (SE2.out _ HB.out).mono ?_
      rintro e w3 ⟨rfl, hb⟩
      have HB := Lib.hid (below_then HB.out hb)
      have A1 := Lib.hid (A1.out.keep hb)
      have A2 := Lib.hid (A2.out.keep hb)
      clear hb
      go_wp2_with fail
      refine (free_both_And n x1 x2 u v X1 X2 w3 (by omega) (Lib.hid (fun W h => O1.out W _ (A1.out.keep h) (HU.out.keep (below_then HB.out h)))) (Lib.hid (fun W h => O2.out W _ (A2.out.keep h) (HV.out.keep (below_then HB.out h))))).mono ?_
      rintro e w4 ⟨z1, z2, rfl, H1, H2, hb⟩
      have HB := Lib.hid (below_then HB.out hb)
      obtain ⟨b1, c1, rfl, g1⟩ := H1.ex
      obtain ⟨b2, c2, rfl, g2⟩ := H2.ex
      have G1 := Lib.hid g1
      have G2 := Lib.hid g2
      clear hb H1 H2 g1 g2
      go_wp2_with fail
      refine (N1.out _ _ _ G1.out).mono ?_
      rintro e w5 ⟨rfl, hb⟩
      have HB := Lib.hid (below_then HB.out hb)
      have G2 := Lib.hid (G2.out.keep hb)
      clear hb
      go_wp2_with fail
      refine (N2.out _ _ _ G2.out).mono ?_
      rintro e w6 ⟨rfl, hb⟩
      have HB := Lib.hid (below_then HB.out hb)
      clear hb
      obtain ⟨r1a, r1b⟩ := r1
      obtain ⟨r2a, r2b⟩ := r2
      by_cases hq : q1 + q2 = 0
      · have hq2 : (q1 + q2 == 0) = true := by simpa using hq
        have HQ := Lib.hid (decide_eq_true hq)
        clear hq
        go_wp2_with fail
        go_returns
        exact ⟨by rw [HQ.out]; rfl, HB.out⟩
      · have hq2 : (q1 + q2 == 0) = false := by simpa using hq
        have HQ := Lib.hid (decide_eq_false hq)
        clear hq
        go_wp2_with fail
        go_returns
        exact ⟨by rw [HQ.out]; rfl, HB.out⟩
  · rw [if_neg hz] at hE
    rw [hE, if_neg hz] at hV
    have hy : (plChk d p != 0) = true := by simpa using hz
    rw [hV, hE]
    generalize plChk d p = x at *
    clear hz hE hV hu hv
    go_enter Tryz.func12, Tryz.ntmps12
    go_wp2_with fail
    refine (HS.out _).mono ?_
    rintro e w1 ⟨x1, x2, rfl, _, _, hb1⟩
    have HB := Lib.hid (below_then (show Below w.heap.size w ((w.alloc (.cells #[.int .i64 d.x, .int .i64 d.y, .int .i64 d.z] 23)).alloc (.cells #[.int .i64 p.b.b.x, .int .i64 p.b.b.y, .int .i64 p.b.b.z, .int .i64 p.b.s.x, .int .i64 p.b.s.y, .int .i64 p.b.s.z, .bool p.t0, .bool p.t1, .bool p.t2] 31)) by (repeat (first | (with_reducible exact Below.refl _ _) | (with_reducible assumption) | (with_reducible refine below_alloc ?_ _) | (with_reducible refine below_drewN ?_ _) | (with_reducible refine Below.drew ?_) | (with_reducible refine below_then ?_ (by with_reducible assumption)) | (with_reducible refine Below.setCell ?_ (by go_size) _)))) hb1)
    clear hb1
    go_wp2_with fail
    go_returns
    exact ⟨rfl, HB.out⟩
end
end Go.Proofs.YtofoenlhbmammaaGreat
